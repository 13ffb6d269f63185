/- part 28 -/
import Derived.Test.YtnjcpljhmhdhkaaGreatEPk24
import Derived.Test.YtnjcpljhmhdhkaaGreatEPk25
import Derived.Test.YtnjcpljhmhdhkaaGreatEPk27
import Derived.Deep.Upon
import Derived.Deep.RegionHeld3
import Derived.Deep.DeepCutAuto
set_option linter.unusedSimpArgs false
set_option linter.unusedVariables false
set_option maxRecDepth 100000
set_option maxHeartbeats 16000000
namespace Go.Proofs.YtnjcpljhmhdhkaaGreat
open Go.RowKit
theorem z2C (w:World):(zeroValue 48).run Tryz.prog w= .ok (.agg #[.int .i64 0,.int .i64 0,.int .i64 0]) w:=rfl
theorem Xl {P:Program} {w:World} {t ty:TypeId} {base g n cap c:Nat} {ls:List Dp} (ht:P.underlying t=some (.slice 48)) (hv:∀w,(zeroValue 48).run P w= .ok (.agg #[.int .i64 0,.int .i64 0,.int .i64 0]) w)
  (hn:n=ls.length) (BI:n<cap) (hown:zK base w (.slice (some ⟨g,0,none⟩) n cap) ls):
  ∃w',(Builtin.clear_ #[t] ty #[.slice (some ⟨g,n*3,none⟩) 1 c]).run P w= .ok (.tuple #[]) w'/\zK base w' (.slice (some ⟨g,0,none⟩) n cap) ls/\w.grownBy w' (some g):=by
 have FN:∃cur:Array Value,w.heap[g]? =some (.cells cur 48 (0,0))/\cur.size=cap*3:=by
  rcases hown.2 with ⟨e,_⟩|⟨g',cap',cur,e,hb,hh,CC,Bh,gx,co⟩
  ·cases e
  ·cases e;exact⟨cur,hh,gx⟩
 obtain⟨cur,hh,gx⟩:=FN
 exact⟨_,VT (P:=P) w t ty ht hv g (n*3) c (fun j hj=>by
  rw[Blk.cell (show Blk w g 48 cur from hh),abn o_];rfl) (fun j hj=>Blk.frozen (show Blk w g 48 cur from hh) _),
  z4J hown hn (by simp;omega),World.os_setCells _ _ _ _,yK _ _ _ _,World.output_setCells _ _ _ _,by rw[yJ];exact aaa _,fun i hi gd=>World.heap_setCells_other _ _ _ _ hi (fun e=>gd (by rw[e]))⟩
theorem z1F (base g cap:Nat) (l:List Dp) (k:Nat) (w:World) (ho:zK base w (.slice (some ⟨g,0,none⟩) l.length cap) l) (hk:k<l.length) (H8:base<=w.heap.size):
  Calls Tryz.prog 194 #[.slice (some ⟨g,0,none⟩) l.length cap,.int .i64 k,.int .i64 ((k:Int)+1)] w fun e w'=>e= .returned (.slice (some ⟨g,0,none⟩) (l.length -1) cap)/\zK base w' (.slice (some ⟨g,0,none⟩) (l.length -1) cap) (l.take k++l.drop (k+1))/\Below base w w':=by
 obtain⟨j0,hj,jz0,jz1,jz2⟩:=info_parts xS
 obtain⟨Ce,BI,Bh⟩:base<=g/\l.length<=cap/\cap<=maxLen:=by
  rcases ho.2 with ⟨e,_⟩|⟨g',cap',cur,e,hb,hh,CC,Bh,gx,co⟩
  ·cases e
  ·cases e;exact⟨hb,CC,Bh⟩
 have HO:=h_ ho;have hL:(l.take k++l.drop (k+1)).length =l.length -1:=by simp;omega
 unfold maxLen at Bh
 go_enter Tryz.func194,Tryz.ntmps194
 have c1:(k:Int)<=((cap:Nat):Int):=o_
 have c2:(0:Int)<=(k:Int):=o_
 have c3:(k:Int)+1<=(l.length:Int):=o_
 have c4:(l.length:Int)<=((cap:Nat):Int):=o_
 have c1':(k:Int)<=(k:Int)+1:=o_
 have c5:(0:Int)<=(k:Int)+1:=o_
 have c6:((k:Int)+1).toNat =k+1:=o_
 have c11:¬(k:Int)=(k:Int)+1:=o_
 go_wp2_with fail
 by_cases G8:cap=k+1
 ·have c12:l.length=k+1:=o_
  have hcut:zK base w.drew (.slice (some ⟨g,0,none⟩) k (k+1)) (l.take k++l.drop (k+1)):=by
   have h1:=z2p (g:=g) (cap:=cap) (w:=w.drew) (k:=k) (show zK base w.drew _ l from HO.out) hk;have h2:(l.drop (k+1)).flatMap Dp.cs=[]:=by rw[List.drop_of_length_le o_];rfl
   rw[h2,show l.length -1=k by omega,G8] at h1;exact h1
  obtain⟨w4,GC,hown,G7⟩:=Xl (ty:=0) (c:=1) Tryz.underlying32 z2C (by rw[hL];omega) (show k<k+1 by omega) hcut;have Hn:Below base w w4:=(Below.drew ((aaj _ _).mono H8)).grown G7 (by simpa using H8) (fun b e=>by cases e;omega);have hE:l.length -1=k:=o_
  have HH:=h_ (show zK base w4 (.slice (some ⟨g,0,none⟩) (l.length -1) cap) (l.take k++l.drop (k+1))/\Below base w w4 from⟨by rw[hE,G8];exact hown,Hn⟩)
  go_still_tail 6,k_
  go_wp2;go_ret
  exact⟨by rw[hE,G8];rfl,HH.out⟩
 ·have hm:l.length -(l.length -1)=1:=o_
  have d1:((l.length -1:Nat):Int)<=(l.length:Int):=o_
  have d2:(0:Int)<=((l.length -1:Nat):Int):=o_
  have d3:¬cap=l.length -1:=o_
  go_still_tail 6,k_
  go_wp2_with (at_builtin;refine Zh (c2:=cap -(k+1)) rfl _ _ _ rfl base j0 Tryz.underlying32 hj jz1 g cap l k rfl (by rw[aaq G8];rfl) (show zK base w.drew (.slice (some ⟨g,0,none⟩) l.length cap) l from HO.out) hk ?_)
  intro w3 hcut G7;have Hc:Below base w w3:=(Below.drew ((aaj _ _).mono H8)).grown G7 (by simpa using H8) (fun b e=>by cases e;omega);obtain⟨w4,hrun4,hown,hgr4⟩:=Xl (ty:=0) (c:=cap -(l.length -1)) Tryz.underlying32 z2C (by rw[hL]) (show l.length -1<cap by omega) hcut;have Hn:Below base w w4:=Hc.grown hgr4 (aai H8 Hc.size) (fun b e=>by cases e;omega);have HH:=h_ (And.intro hown Hn);go_wp2;go_ret
  exact⟨rfl,HH.out⟩
theorem z2H (A:Option Addr) (c:Nat) (x:Int) (w:World):
  CB_ 143 #[.slice A 0 c,.int .i64 x] w (.int .i64 (-1)):=by
 go_enter Tryz.func143,Tryz.ntmps143
 go_wp2_with fail
 go_at_call 205
 refine Calls.mono (R:=fun e w'=>e= .returned (.int .i64 (-1))/\Below w.heap.size w w') ?_ ?_
 ·go_enter Tryz.func205,Tryz.ntmps205
  go_wp2
  go_loopw [8] (fun y wr=>y= .int .i64 0/\Below w.heap.size w wr) (fun y _=>0)
  case atStart=>exact⟨rfl,by exact bel_⟩
  case round=>
   obtain⟨rfl,Hb⟩:=hrel;go_wp2;go_ret
   exact⟨rfl,Hb⟩
 rintro e w2 ⟨rfl,Hd⟩;go_wp2;go_ret
 exact⟨rfl,Hd⟩
theorem z1T (v:Value) (l:List Dp) (x:Int) (w:World) (h:RDp w v l):
  CB_ 143 #[v,.int .i64 x] w (.int .i64 (plF l x l.length 0)):=by
 obtain⟨A,c,rfl,hc,hm,fr⟩:=h.at_
 by_cases h0:0<l.length
 ·obtain⟨b,off,rfl,hd⟩:=fr h0
  exact xJ b off _ c l x _ w hd hm rfl
 ·have hz:l.length=0:=o_
  rw[hz];exact z2H A c x w
def tkI (l:List Dp) (x:Int):Int:=plF l x l.length 0
def tkB (l:List Dp) (x:Int):Bool:= !(decide (tkI l x<0))&&qB l
def tkL (l:List Dp) (x:Int):List Dp:=if tkB l x then l.take (tkI l x).toNat ++l.drop ((tkI l x).toNat +1) else l
def z3s (l:List Dp) (b:Bool) (w:World) (e:Ending) (w':World):Prop:=∃v,e= .returned (.tuple #[v,.bool b])/\zK w.heap.size w' v l/\Below w.heap.size w w'
theorem z50 (v:Value) (l:List Dp) (x:Int) (w:World) (h:RDp w v l) (hle:l.length<=1048576):
  Calls Tryz.prog 116 #[v,.int .i64 x] w (z3s (tkL l x) (tkB l x) w):=by
 have HR:=h_ h;have HT:Hid (plF l x l.length 0=tkI l x):=h_ rfl;have HB:Hid (tkB l x=(!(decide (tkI l x<0))&&qB l)):=h_ rfl;have HL:Hid (tkL l x=if tkB l x then l.take (tkI l x).toNat ++l.drop ((tkI l x).toNat +1) else l):=h_ rfl
 have Ff:tkI l x<l.length:=by
  rcases QG l x l.length 0 with ⟨i,h1,_,h3,_⟩|⟨h1,_⟩
  ·unfold tkI;rw[h1];omega
  ·unfold tkI;rw[h1];omega
 go_enter Tryz.func116,Tryz.ntmps116
 go_wp2_with fail
 refine(yb _ l _ HR.out hle).mono ?_
 rintro e w1 ⟨v1,rfl,Hi,h9⟩;have HO:=h_ Hi
 go_wp2_with fail
 refine(z1T _ l x _ (HR.out.below h9)).mono ?_
 rintro e w2 ⟨rfl,Hd⟩;rw[HT.out];have NH:=h_ ((HR.out.below h9).below Hd);have FJ:=h_ (HO.out.kept Hd);have Ha:=h9.trans (Hd.mono h9.size);generalize tkI l x=K at*
 by_cases hK:K<0
 ·go_wp2
  exact bodyPost_ret (v:= .tuple #[v1,.bool false]) (by simp[results,Tryz.results116,go_sem]) rfl ⟨v1,by rw[HB.out];simp[hK],by rw[HL.out,HB.out];simpa[hK] using FJ.out,Ha⟩
 ·go_wp2_with fail
  refine(xM _ l _ NH.out).mono ?_
  rintro e w3 ⟨rfl,He⟩;have F1:=h_ (FJ.out.kept He);have Hc:=Ha.trans (He.mono Ha.size)
  cases hd:qB l
  ·go_wp2
   exact bodyPost_ret (v:= .tuple #[v1,.bool false]) (by simp[results,Tryz.results116,go_sem]) rfl ⟨v1,by rw[HB.out];simp[hd],by rw[HL.out,HB.out];simpa[hd] using F1.out,Hc⟩
  ·obtain⟨g,cap,rfl⟩:∃g cap,v1= .slice (some ⟨g,0,none⟩) l.length cap:=by
    rcases F1.out.2 with ⟨e,h0⟩|⟨g',cap',cur,e,_⟩
    ·have h0':l.length=0:=h0
     omega
    ·exact⟨_,_,e⟩
   obtain⟨k,rfl⟩:∃k:Nat,K=k:=⟨K.toNat,by omega⟩;have F5:IntKind.i64.wrap ((k:Int)+1)=(k:Int)+1:=aaP _ o_
   go_wp2_with fail
   refine(z1F w.heap.size g cap l k _ F1.out o_ Hc.size).mono ?_
   rintro e w4 ⟨rfl,gH,Hw⟩;have cY:=h_ gH;have Hn:=Hc.trans Hw;go_wp2
   exact bodyPost_ret (v:= .tuple #[.slice (some ⟨g,0,none⟩) (l.length -1) cap,.bool true]) (by simp[results,Tryz.results116,go_sem]) rfl ⟨.slice (some ⟨g,0,none⟩) (l.length -1) cap,by rw[HB.out];simp[hd],by
    have:=cY.out;rw[HL.out,HB.out]
    simpa[hd] using this,Hn⟩
noncomputable def yV (S:St) (x:Int):Bool:=zd S&&tkB S.ds x
noncomputable def vH (S:St) (x:Int):St:=if yV S x=true then⟨S.D,S.cs,tkL S.ds x,S.fund⟩ else S
theorem z99 {l:List Dp} {x:Int} (h:tkB l x=false):tkL l x=l:=by unfold tkL;rw[h];rfl
theorem z76 {S:St} {x:Int} (h:zd S=false∨tkB S.ds x=false):vH S x=S/\yV S x=false:=by
 have hb:yV S x=false:=by
  unfold yV
  rcases h with h|h<;>simp[h]
 exact⟨by unfold vH;rw[hb];rfl,hb⟩
theorem z4H {S:St} {x:Int} (h1:zd S=true):vH S x=⟨S.D,S.cs,tkL S.ds x,S.fund⟩/\yV S x=tkB S.ds x:=by
 have hb:yV S x=tkB S.ds x:=by unfold yV;rw[h1];rfl
 refine⟨?_,hb⟩
 unfold vH;rw[hb]
 cases h:tkB S.ds x
 ·rw[z99 h];rfl
 ·rfl
section
variable {w wr wr':World} {v0 v1 v2 v3 v4 v5 v6 a b c d e f g:Value} {m:Int} {Z:Nat} {S:St} {fs:List SF}
theorem OutSS.newDs (h:OutSS w v0 v1 v2 v3 v4 v5 v6 m Z a b c d e f g S fs wr) (hb:Below wr.heap.size wr wr') {v:Value} {l:List Dp} (ho:zK wr.heap.size wr' v l):
  OutSS w v0 v1 v2 v3 v4 v5 v6 m Z a b c d e f v ⟨S.D,S.cs,l,S.fund⟩ fs (wr'.setCell ⟨Z,6,none⟩ v):=by
 have h1:=h.below hb;have bd:∀k,v.ownBlock=some k->wr.heap.size<=k:=fun k hk=>(World.ownsRow.lt ho k hk).1
 have WB:∀k,jY a b c d e f g fs k->k<wr.heap.size:=fun k hk=>(h.own.lt k hk).2
 have Gu:=h.Z_.lt
 have M7:¬jY a b c d e f v fs Z:=by
  rintro(hk|hk|hk)
  ·exact h.far (.inl hk)
  ·exact h.far (.inr (.inl hk))
  ·have:=bd _ hk;omega
 have hO:OwnSt (w.heap.size+1+1) wr' a b c d e f v ⟨S.D,S.cs,l,S.fund⟩ fs:=
  ⟨h1.own.dr,h1.own.cs,World.ownsRow.mono ho (by have:=h.lt;omega),h1.own.d_c,fun k hk gG=>by have:=bd k gG;have:=WB k (.inl hk);omega,fun k hk gG=>by have:=bd k gG;have:=WB k (.inr (.inl hk));omega⟩
 have Hf:=h.lt;exact⟨hO.setFar (p:=⟨Z,6,none⟩) M7 v,h1.X.far (p:=⟨Z,6,none⟩) (show w.heap.size≠Z by omega) v,h1.R.far (p:=⟨Z,6,none⟩) (show w.heap.size+1≠Z by omega) v,h1.Z_.set_ 6 v,h1.lt,M7,h1.blw.setCell (p:=⟨Z,6,none⟩) (show w.heap.size<=Z by omega) v⟩
end
theorem X7 (v0 v1 v2 v3 v4 v5 v6:Value) (S:St) (x:Int) (w:World) (h:RSt w v0 v1 v2 v3 v4 v5 v6 S) (hle:StLe S):
  Calls Tryz.prog 42 #[.agg #[v0,v1,v2,v3,v4,v5,v6,.int .i64 S.fund],.int .i64 x] w (yM (vH S x) (yV S x) w):=by
 obtain⟨r,hr⟩:∃r,zd S=r:=⟨_,rfl⟩;have HR:=h_ hr;have gf:=h_ hle;obtain⟨B6,d6,ev6,cK,CR,fr⟩:=h.ds.at_;subst ev6;unfold maxLen at CR;obtain⟨E,hE⟩:∃E,vH S x=E:=⟨_,rfl⟩;obtain⟨bb,gj⟩:∃bb,yV S x=bb:=⟨_,rfl⟩;rw[hE,gj];have HE:=h_ hE;have gw:=h_ gj;have HH:=h_ h
 go_enter Tryz.func42,Tryz.ntmps42
 go_wp2_with fail
 refine(qw _ _ _ _ _ _ _ S _ (HH.out.below bel_) gf.out).mono ?_
 rintro e w1 ⟨A0,a0,A1,a1,A2,a2,A3,a3,A4,a4,A5,a5,A6,a6,fs,rfl,Hi,h9⟩;have Ga:Blk w1 w.heap.size 34 #[v0,v1,v2,v3,v4,v5,.slice B6 S.ds.length d6,.int .i64 S.fund]:=Blk.below ((Blk.newAt rfl).alloc _) h9 sz_;have Hx:Blk w1 (w.heap.size+1) 34 z8_:=Blk.below (Blk.newAt (by simp)) h9 sz_;have h8:Below w.heap.size w w1:=bel_
 have GQ:OwnSt (w.heap.size+1+1) w1 (.slice A0 S.D.fn.length a0) (.slice A1 S.D.fl.length a1) (.slice A2 S.D.nn.length a2) (.slice A3 S.D.nl.length a3) (.slice A4 S.D.ss.length a4) (.slice A5 S.cs.length a5) (.slice A6 S.ds.length a6) S fs:=by simpa using Hi
 have gU:=h_ (OutSS.start GQ (aaa _) Ga Hx h8);obtain⟨x_0,x_1,x_2,x_3,x_4,x_5,x_6,x_7⟩:=Ga.c8;have fS:=Ga.lt
 go_wp2_with fail
 obtain⟨w2,gR⟩:∃w2,w2=w1.alloc (.cells #[.slice A0 S.D.fn.length a0,.slice A1 S.D.fl.length a1,.slice A2 S.D.nn.length a2,.slice A3 S.D.nl.length a3,.slice A4 S.D.ss.length a4,.slice A5 S.cs.length a5,.slice A6 S.ds.length a6,.int .i64 S.fund] 34):=⟨_,rfl⟩;rw[<-gR] at gU⊢;generalize w1.heap.size=Z at*;refine(qb _ _ _ _ _ _ _ S r _ (HH.out.below gU.out.blw) HR).mono ?_
 rintro e w3 ⟨rfl,He⟩;have gk:=h_ (gU.out.below He);have Gr:=gk.out.X;obtain⟨x_0,x_1,x_2,x_3,x_4,x_5,x_6,x_7⟩:=Gr.c8
 cases r
 ·obtain⟨u1,u2⟩:=z76 (S:=S) (x:=x) (.inl hr)
  have hu:S=E:=by rw[<-HE.out];exact u1.symm
  have hv:false=bb:=by rw[<-gw.out];exact u2.symm
  subst hu;subst hv;have HF:=gk;obtain⟨_,_,hR,hZ,Gu,_,_⟩:=HF.out;obtain⟨z_0,z_1,z_2,z_3,z_4,z_5,z_6,z_7⟩:=hZ.c8;obtain⟨r_0,r_1,r_2,r_3,r_4,r_5,r_6,r_7,r_f0,r_f1,r_f2,r_f3,r_f4,r_f5,r_f6,r_f7⟩:=hR.b8;have Hr:=hR.lt;have gl:=h_ (HF.out.fin);go_wp2;exact bodyPost_ret (v:= .tuple #[.agg #[.slice A0 S.D.fn.length a0,.slice A1 S.D.fl.length a1,.slice A2 S.D.nn.length a2,.slice A3 S.D.nl.length a3,.slice A4 S.D.ss.length a4,.slice A5 S.cs.length a5,.slice A6 S.ds.length a6,.int .i64 S.fund],.bool false]) (by simp[results,Tryz.results42,go_sem,r_0,r_1,r_2,r_3,r_4,r_5,r_6,r_7,Hr]) rfl ⟨_,_,_,_,_,_,_,_,_,_,_,_,_,_,fs,rfl,(gl.out _ _ _ _ _ _ _ _).1,(gl.out _ _ _ _ _ _ _ _).2⟩
 ·obtain⟨l',Gm⟩:∃l,tkL S.ds x=l:=⟨_,rfl⟩
  obtain⟨b',gS⟩:∃b,tkB S.ds x=b:=⟨_,rfl⟩;have mD:=h_ Gm;have FF:=h_ gS;have HDS:=h_ (HH.out.ds.below gk.out.blw)
  go_wp2_with fail
  refine(z50 _ S.ds x _ HDS.out gf.out.ds).mono ?_
  rw[Gm,gS];rintro e w4 ⟨vt,rfl,gH,Hw⟩;obtain⟨T6,t6,rfl⟩:=zK.form gH;have HF:=h_ (OutSS.newDs gk.out Hw gH);have Gg:=h_ (gk.out.below Hw);obtain⟨u1,u2⟩:=z4H (S:=S) (x:=x) hr;rw[mD.out] at u1;rw[FF.out] at u2;have hu:(⟨S.D,S.cs,l',S.fund⟩:St)=E:=by rw[<-HE.out];exact u1.symm
  have hv:b'=bb:=by rw[<-gw.out];exact u2.symm
  subst hu;subst hv;obtain⟨_,_,hR,hZ,Gu,_,_⟩:=Gg.out;obtain⟨z_0,z_1,z_2,z_3,z_4,z_5,z_6,z_7,z_f0,z_f1,z_f2,z_f3,z_f4,z_f5,z_f6,z_f7⟩:=hZ.b8;obtain⟨r_0,r_1,r_2,r_3,r_4,r_5,r_6,r_7,r_f0,r_f1,r_f2,r_f3,r_f4,r_f5,r_f6,r_f7⟩:=hR.b8;have Hr:=hR.lt;have fJ:=hZ.lt;have gl:=h_ (HF.out.fin);have F9:¬Z=w.heap.size+1:=o_
  have Gs:¬w.heap.size+1=Z:=o_
  go_wp2;exact bodyPost_ret (v:= .tuple #[.agg #[.slice A0 S.D.fn.length a0,.slice A1 S.D.fl.length a1,.slice A2 S.D.nn.length a2,.slice A3 S.D.nl.length a3,.slice A4 S.D.ss.length a4,.slice A5 S.cs.length a5,.slice T6 l'.length t6,.int .i64 S.fund],.bool b']) (by simp[results,Tryz.results42,go_sem,r_0,r_1,r_2,r_3,r_4,r_5,r_6,r_7,z_0,z_1,z_2,z_3,z_4,z_5,z_6,z_7,Hr,fJ,F9,Gs]) rfl ⟨_,_,_,_,_,_,_,_,_,_,_,_,_,_,fs,rfl,(gl.out _ _ _ _ _ _ _ _).1,(gl.out _ _ _ _ _ _ _ _).2⟩
attribute [local go_sem ↓] zR zQ
theorem z6O (vn vl:Value) (ns ls:List Pr) (f:Int) (w:World) (hn:RP w vn ns) (hl:RP w vl ls):
  Calls Tryz.prog 191 #[.agg #[vn,vl],.int .i64 f] w (z5S (boxF ns ls f) w):=by
 obtain⟨An,cn,rfl,Fk,GL,Hl⟩:=hn.formI;unfold maxLen at GL;obtain⟨w0,Gx⟩:∃u,u=((w.alloc (.cells #[.slice An ns.length cn,vl] 27)).alloc (.cells #[.int .i64 0,.int .i64 0] 106)).alloc (.cells #[.int .i64 0,.int .i64 0] 106):=⟨_,rfl⟩;have Hg:Below w.heap.size w w0:=by rw[Gx];exact bel_
 have gy:Blk w0 w.heap.size 27 #[.slice An ns.length cn,vl]:=by rw[Gx];exact((Blk.newAt rfl).alloc _).alloc _
 have Fv:Blk w0 (w.heap.size+1) 106 #[.int .i64 0,.int .i64 0]:=by rw[Gx];exact(Blk.newAt (by simp)).alloc _
 have UF:Blk w0 (w.heap.size+1+1) 106 #[.int .i64 0,.int .i64 0]:=by rw[Gx];exact Blk.newAt (by simp)
 have ry:=h_ (VM (.slice An ns.length cn) vl ns ls f w0 (hn.below Hg) (hl.below Hg));have bT:=h_ Gx;have hle:=xN ns ls f;have Bx:=h_ (Qn (ns:=ns) (ls:=ls) (f:=f));have bK:=h_ (fun h=>z48 (ns:=ns) (ls:=ls) (f:=f) h);have FV:=h_ (fun h=>z17 (ns:=ns) (ls:=ls) (f:=f) h);have UG:=h_ Hl;generalize boxF ns ls f=BX at*;generalize qY ns ls f=G at*
 go_enter Tryz.func191,Tryz.ntmps191
 go_wp2_with fail
 rw[<-bT.out];refine ry.out.mono ?_
 rintro e w1 ⟨v1,rfl,Hi,h9⟩;have h8:=Hg.trans (h9.mono Hg.size);have Hz:=gy.below h9 gy.lt;have Hx:=Fv.below h9 Fv.lt;have mU:=UF.below h9 UF.lt
 by_cases h0:G.length=0
 ·obtain⟨Av,cv,rfl⟩:=OwnE.form (t:=3) (enc:=vI) Hi
  have e0:((G.length:Int)==0)=true:=by rw[h0];rfl
  have HR:=bK.out h0;subst HR;obtain⟨r_0,r_1,r_f0,r_f1⟩:=Hx.b2;obtain⟨q_0,q_1,q_f0,q_f1⟩:=mU.b2;have Gw:=Hx.lt;have uT:=mU.lt;have hB:Below w.heap.size w ((((w1.setCell ⟨w.heap.size+1,0,none⟩ (.int .i64 0)).setCell ⟨w.heap.size+1,1,none⟩ (.int .i64 0)).setCell ⟨w.heap.size+1+1,0,none⟩ (.int .i64 0)).setCell ⟨w.heap.size+1+1,1,none⟩ (.int .i64 0)):=bel_
  have HB:=h_ hB;go_wp2;exact bodyPost_ret (v:= .tuple #[.agg #[.int .i64 0,.int .i64 0],.agg #[.int .i64 0,.int .i64 0]]) (by simp[results,Tryz.results191,go_sem,r_0,r_1,q_0,q_1,Gw,uT]) rfl ⟨rfl,HB.out⟩
 ·have HR:=FV.out h0
  subst HR;obtain⟨b4,c1,rfl,gc,mL,Hw,hcell⟩:=Hi.blk o_;obtain⟨q0,Na,uU⟩:=Bx.out 0 o_;obtain⟨bn,offn,rfl,Gd,mV⟩:=UG.out o_;have e0:((G.length:Int)==0)=false:=beq_eq_false_iff_ne.2 o_;have nT:=h_ hcell;have cZ:Hid (∀k,k<ns.length->w1.cell? ⟨bn,offn+k*2,none⟩=some (.int .i64 (ndI ns k).1)/\w1.cell? ⟨bn,offn+k*2+1,none⟩=some (.int .i64 (ndI ns k).2)):=h_ (fun k hk=>⟨(h8.cell (p:=⟨bn,offn+k*2,none⟩) Gd).trans (mV k hk).1,(h8.cell (p:=⟨bn,offn+k*2+1,none⟩) Gd).trans (mV k hk).2⟩);have FE:=nT.out 0 o_;rw[Na] at FE;obtain⟨y0,y1⟩:=cZ.out q0 uU;have M6:bn<w1.heap.size:=aaD Gd h8.size;have iz1:(0:Int)<(G.length:Int):=o_
  have iq1:(0:Int)<=(q0:Int):=o_
  have iq2:(q0:Int)<(ns.length:Int):=o_
  have UH:Hid (boxK ns G 0=(ndI ns q0,ndI ns q0)):=h_ (by show(ndI ns (G.getD 0 0),ndI ns (G.getD 0 0))=_;rw[Na]);obtain⟨a_0,a_1⟩:=Hz.c2;have Ht:=Hz.lt;generalize UI:(ndI ns q0).1=na at*;generalize UJ:(ndI ns q0).2=nb at*
  go_wp2_with fail
  go_cut [7] (fun s7 wx=>∃x:Nat,s7= .pointer (some ⟨x,0,none⟩)/\w1.heap.size<=x/\Below w1.heap.size w1 wx/\Nd2 wx x na nb)
  case first=>
   go_region
   all_goals go_wp2
   all_goals go_meet
   all_goals refine⟨_,rfl,sz_,by exact bel_,?_⟩
   all_goals first|(refine Blk.newAt ?_;first|rfl|(simp;done))|(refine Blk.alloc (Blk.newAt ?_) _;first|rfl|(simp;done))
  case rest=>
   obtain⟨x,rfl,hxl,Gn,bZ⟩:=hcut;obtain⟨w2,gR⟩:∃u,u=wc:=⟨_,rfl⟩;subst gR;have hx2:=Blk.lt bZ;obtain⟨xc0,xc1⟩:=Blk.c2 bZ;have G9:Nd2 (w2.alloc (.cells #[.int .i64 na,.int .i64 nb] 106)) x (boxK ns G 0).1.1 (boxK ns G 0).1.2:=by rw[UH.out];rw[<-UI,<-UJ] at bZ;exact Blk.alloc bZ _
   have rB:Nd2 (w2.alloc (.cells #[.int .i64 na,.int .i64 nb] 106)) w2.heap.size (boxK ns G 0).2.1 (boxK ns G 0).2.2:=by rw[UH.out,<-UI,<-UJ];exact Blk.newAt rfl
   have NV:=Gn.alloc Gn.size (.cells #[.int .i64 na,.int .i64 nb] 106);have hyl:w1.heap.size<=w2.heap.size:=Gn.size;have fu:x≠w2.heap.size:=o_
   go_wp2;generalize w2.heap.size=y at*
   go_loopw [9] (fun s wr=>∃j:Nat,j<=G.length/\s= .int .i64 j/\Nd2 wr x (boxK ns G j).1.1 (boxK ns G j).1.2/\Nd2 wr y (boxK ns G j).2.1 (boxK ns G j).2.2/\Below w1.heap.size w1 wr) (fun s _=>G.length -(intOf s).toNat)
   case atStart=>exact⟨0,aab _,rfl,G9,rB,NV⟩
   case round=>
    obtain⟨j,hj,rfl,hX,hY,Hb⟩:=hrel;have gx:=Hb.size;have xl:=Blk.lt hX;have yl:=Blk.lt hY;obtain⟨x0,x1,xf0,xf1⟩:=Blk.b2 hX;obtain⟨y0,y1,yf0,yf1⟩:=Blk.b2 hY;have nY:=Hz.below Hb Ht;obtain⟨a_0,a_1⟩:=nY.c2;have hWl:=nY.lt
    by_cases Hf:j<G.length
    ·have Hp:(j:Int)<(G.length:Int):=o_
     have ij1:(0:Int)<=(j:Int):=o_
     obtain⟨q,hq,Br⟩:=Bx.out j Hf;have hxj:=(Hb.cell (p:=⟨b4,j,none⟩) Hw).trans (nT.out j Hf);rw[hq] at hxj;have z0:=(Hb.cell (p:=⟨bn,offn+q*2,none⟩) M6).trans (cZ.out q Br).1;have z1:=(Hb.cell (p:=⟨bn,offn+q*2+1,none⟩) M6).trans (cZ.out q Br).2;have iq1:(0:Int)<=(q:Int):=o_
     have iq2:(q:Int)<(ns.length:Int):=o_
     have hb4r:b4<wr.heap.size:=o_
     have hbnr:bn<wr.heap.size:=o_
     have HS:=h_ (XE ns G j);rw[hq] at HS;have d1:¬x=y:=fu;have d2:¬y=x:=fun e=>fu e.symm
     have d3:¬x=wr.heap.size:=o_
     have d4:¬wr.heap.size=x:=o_
     have d5:¬y=wr.heap.size:=o_
     have d6:¬wr.heap.size=y:=o_
     generalize (ndI ns q).1=p1 at*;generalize (ndI ns q).2=p2 at*;generalize boxK ns G j=K at*;have HX:Hid (∀u1 u2 u3 u4 o,Blk (((((wr.setCell ⟨x,0,none⟩ u1).setCell ⟨x,1,none⟩ u2).setCell ⟨y,0,none⟩ u3).setCell ⟨y,1,none⟩ u4).alloc o) x 106 #[u1,u2]):=h_ (fun u1 u2 u3 u4 o=>(((((Blk.set_ hX 0 u1).set_ 1 u2).far (p:=⟨y,0,none⟩) d1 u3).far (p:=⟨y,1,none⟩) d1 u4).alloc o));have HY:Hid (∀u1 u2 u3 u4 o,Blk (((((wr.setCell ⟨x,0,none⟩ u1).setCell ⟨x,1,none⟩ u2).setCell ⟨y,0,none⟩ u3).setCell ⟨y,1,none⟩ u4).alloc o) y 106 #[u3,u4]):=h_ (fun u1 u2 u3 u4 o=>(((((Blk.far hY (p:=⟨x,0,none⟩) d2 u1).far (p:=⟨x,1,none⟩) d2 u2).set_ 0 u3).set_ 1 u4).alloc o));have nW:=h_ Hb
     go_wp2_with fail
     go_region
     all_goals go_wp2
     all_goals go_roundw
     case rel=>exact⟨j+1,by omega,by go_num,by rw[HS.out];exact HX.out _ _ _ _ _,by rw[HS.out];exact HY.out _ _ _ _ _,by have:=nW.out;exact bel_⟩
     case measure=>simp[intOf];omega
    ·have GP:j=G.length:=o_
     subst GP;have UK:=Hx.below Hb Hx.lt;have UL:=mU.below Hb mU.lt;obtain⟨r_0,r_1,r_f0,r_f1⟩:=UK.b2;obtain⟨q_0,q_1,q_f0,q_f1⟩:=UL.b2;have Gw:=UK.lt;have uT:=UL.lt;generalize boxK ns G G.length=K at*;have hQl1:=mU.lt;have gj:=h8.trans (Hb.mono h8.size);have gw:=h_ gj
     go_wp2_with fail
     go_region
     all_goals go_wp2
     all_goals exact bodyPost_ret (v:= .tuple #[.agg #[.int .i64 K.1.1,.int .i64 K.1.2],.agg #[.int .i64 K.2.1,.int .i64 K.2.2]]) (by simp[results,Tryz.results191,go_sem,r_0,r_1,q_0,q_1,Gw,uT]) rfl ⟨rfl,by have:=gw.out;exact bel_⟩
theorem z1p (vn vl:Value) (ns ls:List Pr) (f:Int) (w:World) (hn:RP w vn ns) (hl:RP w vl ls):
  CB_ 152 #[.agg #[vn,vl],.int .i64 f] w (.int .i64 (boxF ns ls f).2.2):=by
 have Hg:Below w.heap.size w (w.alloc (.cells #[vn,vl] 27)):=bel_
 have hb:=Js vn vl ns ls f _ (hn.below Hg) (hl.below Hg);obtain⟨K,hK⟩:∃K,boxF ns ls f=K:=⟨_,rfl⟩;rw[hK] at hb⊢;have HB:=h_ hb;clear hK hb
 go_enter Tryz.func152,Tryz.ntmps152
 go_wp2_with fail
 refine HB.out.mono ?_
 rintro e w1 ⟨rfl,h9⟩;have h8:=Hg.trans (h9.mono Hg.size);have FQ:=h8.size;clear h9;go_wp2;go_ret
 exact⟨rfl,by exact bel_⟩
theorem z5h {ns ls:List Pr} {d e:Nat} (h:(boxF ns ls d).2.2=(boxF ns ls e).2.2):cmpR ns ls d e=(boxF ns ls d).1.1 -(boxF ns ls e).1.1:=by unfold cmpR;rw[aao h]
theorem z5x {ns ls:List Pr} {d e:Nat} (h:¬(boxF ns ls d).2.2=(boxF ns ls e).2.2):cmpR ns ls d e=(boxF ns ls e).2.2 -(boxF ns ls d).2.2:=by unfold cmpR;rw[aaq h]
theorem z4D (gW:Nat) (vn vl:Value) (ns ls:List Pr) (d e:Nat) (w:World) (hW:Blk w gW 27 #[vn,vl]) (hn:RP w vn ns) (hl:RP w vl ls):
  Calls Tryz.prog 151 #[.int .i64 d,.int .i64 e,.pointer (some ⟨gW,0,none⟩)] w fun en w'=>en= .returned (.int .i64 (cmpR ns ls d e))/\Below w.heap.size w w':=by
 have fE:=z4e (ns:=ns) (ls:=ls) (f:=(d:Int));have hbe:=z4e (ns:=ns) (ls:=ls) (f:=(e:Int));obtain⟨⟨d1,d2,d3,d4⟩,d5,d6,d7,d8⟩:=fE;obtain⟨⟨e1,e2,e3,e4⟩,e5,e6,e7,e8⟩:=hbe;have HS:=h_ (fun h=>z5h (ns:=ns) (ls:=ls) (d:=d) (e:=e) h);have HD:=h_ (fun h=>z5x (ns:=ns) (ls:=ls) (d:=d) (e:=e) h);have hTd:=fun (v:World) (h1:RP v vn ns) (h2:RP v vl ls)=>z1p vn vl ns ls d v h1 h2
 have hTe:=fun (v:World) (h1:RP v vn ns) (h2:RP v vl ls)=>z1p vn vl ns ls e v h1 h2
 have hBd:=fun (v:World) (h1:RP v vn ns) (h2:RP v vl ls)=>Js vn vl ns ls d v h1 h2
 have hBe:=fun (v:World) (h1:RP v vn ns) (h2:RP v vl ls)=>Js vn vl ns ls e v h1 h2
 generalize cmpR ns ls d e=R at*;obtain⟨x,hx⟩:∃x,boxF ns ls (d:Int)=x:=⟨_,rfl⟩;obtain⟨y,hy⟩:∃y,boxF ns ls (e:Int)=y:=⟨_,rfl⟩;rw[hx] at d1 d2 d3 d4 d5 d6 d7 d8 HS HD hTd hBd;rw[hy] at e1 e2 e3 e4 e5 e6 e7 e8 HS HD hTe hBe;have HTd:=h_ hTd;have HTe:=h_ hTe;have HBd:=h_ hBd;have HBe:=h_ hBe;obtain⟨a_0,a_1⟩:=hW.c2;have hWl:=hW.lt;clear hx hy hTd hTe hBd hBe
 go_enter Tryz.func151,Tryz.ntmps151
 go_wp2_with fail
 (refine z7 k_ k_ (fun hG=>?_))
 repeat (go_big_quiet_step (first|(go_at_call_of 152 d;exact zI (HTd.out _ (RS.grw _ hn) (RS.grw _ hl)))|(go_at_call_of 152 e;exact zI (HTe.out _ (RS.grw _ hn) (RS.grw _ hl)))))
 refine wpQuiet_nil ?_
 clear hG;rintro w1 ⟨⟨_,h9⟩,rfl⟩;have BW:=hn.below h9;have ft:=hl.below h9;have Hz:=hW.below h9 hWl;have hw1l:=Hz.lt;clear a_0 a_1
 by_cases fu:x.2.2=y.2.2
 ·have e9:(x.2.2==y.2.2)=true:=beq_iff_eq.2 fu
  have e10:(x.2.2 != y.2.2)=false:=by rw[bne,e9];rfl
  have HR:=h_ (HS.out fu);clear fu;obtain⟨a_0,a_1⟩:=Hz.c2
  go_wp2_with fail
  refine(HBd.out _ BW ft).mono ?_
  rintro en w2 ⟨rfl,Hd⟩;have gu:=h9.trans (Hd.mono h9.size);have gM:=Hz.below Hd hw1l;have hw2l:=gM.lt;have CT:=BW.below Hd;have FD:=ft.below Hd;have He:Below w2.heap.size w2 ((w2.alloc (.cells #[.int .i64 x.1.1,.int .i64 x.1.2] 106)).alloc (.cells #[.int .i64 x.2.1,.int .i64 x.2.2] 106)):=bel_
  have Mc:=h_ (HBe.out _ (CT.below He) (FD.below He));have q0:((w2.alloc (.cells #[.int .i64 x.1.1,.int .i64 x.1.2] 106)).alloc (.cells #[.int .i64 x.2.1,.int .i64 x.2.2] 106)).cell? ⟨w2.heap.size,0,none⟩=some (.int .i64 x.1.1):=((Blk.newAt (cs:= #[.int .i64 x.1.1,.int .i64 x.1.2]) rfl).alloc _).cell 0;have GG:((w2.alloc (.cells #[.int .i64 x.1.1,.int .i64 x.1.2] 106)).alloc (.cells #[.int .i64 x.2.1,.int .i64 x.2.2] 106)).heap.size =w2.heap.size+1+1:=by simp
  have mM:=gu.trans (He.mono gu.size);obtain⟨b_0,b_1⟩:=gM.c2;clear h9 Hd Hz He a_0 a_1 gu
  go_wp2_with fail
  obtain⟨w3,GT⟩:∃u,u=((w2.alloc (.cells #[.int .i64 x.1.1,.int .i64 x.1.2] 106)).alloc (.cells #[.int .i64 x.2.1,.int .i64 x.2.2] 106)):=⟨_,rfl⟩;rw[<-GT] at q0 GG mM Mc⊢;clear GT;refine Mc.out.mono ?_
  rintro en w4 ⟨rfl,Hw⟩;have q1:=(Hw.cell (p:=⟨w2.heap.size,0,none⟩) (show w2.heap.size<w3.heap.size by omega)).trans q0;have bv:=Hw.size;have l1:w2.heap.size<w4.heap.size:=o_
  have hb14:=mM.trans (Hw.mono mM.size);have hs14:=hb14.size;clear Hw q0 mM Mc b_0 b_1;go_wp2;go_ret
  exact⟨zo (by rw[HR.out]),by exact bel_⟩
 ·have e9:(x.2.2==y.2.2)=false:=beq_eq_false_iff_ne.2 fu
  have e10:(x.2.2 != y.2.2)=true:=by rw[bne,e9];rfl
  have HR:=h_ (HD.out fu);clear fu;go_wp2;go_ret
  exact⟨zo (by rw[HR.out]),by exact bel_⟩
end Go.Proofs.YtnjcpljhmhdhkaaGreat
