/- part 37 -/
import Derived.Test.YtnjcpljhmhdhkaaGreatUPk35
import Derived.Deep.DeepCutAuto
set_option linter.unusedSimpArgs false
set_option linter.unusedVariables false
set_option maxRecDepth 100000
set_option maxHeartbeats 16000000
namespace Go.Proofs.YtnjcpljhmhdhkaaGreat
open Go.RowKit
def Vg (S:St) (l:List Int) (w:World) (e:Ending) (w':World):Prop:=∃A0 ac0 A1 ac1 A2 ac2 A3 ac3 A4 ac4 A5 ac5 A6 ac6 fs T t,e= .returned (.tuple #[.agg #[.slice A0 S.D.fn.length ac0,.slice A1 S.D.fl.length ac1,.slice A2 S.D.nn.length ac2,.slice A3 S.D.nl.length ac3,.slice A4 S.D.ss.length ac4,.slice A5 S.cs.length ac5,.slice A6 S.ds.length ac6,.int .i64 S.fund],.slice T l.length t])/\
 OwnSt w.heap.size w' (.slice A0 S.D.fn.length ac0) (.slice A1 S.D.fl.length ac1) (.slice A2 S.D.nn.length ac2) (.slice A3 S.D.nl.length ac3) (.slice A4 S.D.ss.length ac4) (.slice A5 S.cs.length ac5) (.slice A6 S.ds.length ac6) S fs/\OwnI w.heap.size w' (.slice T l.length t) l/\
 (∀k,(Value.slice T l.length t).ownBlock =some k->¬qv (.slice A0 S.D.fn.length ac0) (.slice A1 S.D.fl.length ac1) (.slice A2 S.D.nn.length ac2) (.slice A3 S.D.nl.length ac3) (.slice A4 S.D.ss.length ac4) (.slice A5 S.cs.length ac5) (.slice A6 S.ds.length ac6) fs k)/\Below w.heap.size w w'
structure RunAt (w:World) (v0 v1 v2 v3 v4 v5 v6:Value) (m:Int) (Z:Nat) (u:Value) (l:List Int) (a b c d e f g:Value) (S:St) (fs:List SF) (wr:World):Prop where
 own:OwnSt (w.heap.size+1+1) wr a b c d e f g S fs
 num:OwnI (w.heap.size+1+1) wr u l
 ap:∀k,u.ownBlock=some k->¬qv a b c d e f g fs k
 X:Blk wr w.heap.size 34 #[v0,v1,v2,v3,v4,v5,v6,.int .i64 m]
 R:Blk wr (w.heap.size+1) 34 z8_
 Z_:Blk wr Z 34 #[a,b,c,d,e,f,g,.int .i64 S.fund]
 zl:w.heap.size+1<Z
 zs:¬qv a b c d e f g fs Z
 zn:∀k,u.ownBlock=some k->¬k=Z
 blw:Below w.heap.size w wr
section
variable {w wr wr':World} {v0 v1 v2 v3 v4 v5 v6 a b c d e f g a' b' c' d' e' f' g' u u':Value} {m z:Int} {Z:Nat} {l:List Int} {S S':St} {fs fs':List SF}
theorem RunAt.below (h:RunAt w v0 v1 v2 v3 v4 v5 v6 m Z u l a b c d e f g S fs wr) (hb:Below wr.heap.size wr wr'):RunAt w v0 v1 v2 v3 v4 v5 v6 m Z u l a b c d e f g S fs wr':=
 ⟨h.own.kept hb,h.num.kept hb,h.ap,h.X.below hb h.X.lt,h.R.below hb h.R.lt,h.Z_.below hb h.Z_.lt,h.zl,h.zs,h.zn,h.blw.trans (hb.mono h.blw.size)⟩
theorem RunAt.start (h:OutSS w v0 v1 v2 v3 v4 v5 v6 m Z a b c d e f g S fs wr):RunAt w v0 v1 v2 v3 v4 v5 v6 m Z (.slice none 0 0) [] a b c d e f g S fs wr:=
 ⟨h.own,OwnI.nil _ _,fun k hk=>(by cases hk),h.X,h.R,h.Z_,h.lt,h.far,fun k hk=>(by cases hk),h.blw⟩
theorem RunAt.start' (h:OutSS w v0 v1 v2 v3 v4 v5 v6 m Z a b c d e f g S fs wr) {q:Nat} (hq:q=wr.heap.size):RunAt w v0 v1 v2 v3 v4 v5 v6 m Z (.slice (some ⟨q,0,none⟩) 0 0) [] a b c d e f g S fs (wr.alloc (.cells #[] 3)):=by
 subst hq;have hb:Below wr.heap.size wr (wr.alloc (.cells #[] 3)):=(aaj _ _).alloc (aaa _) _;have h':=h.below hb;have hl:=h.Z_.lt;have bS:=h.lt;exact⟨h'.own,OwnI.made rfl o_,fun k hk Gj=>by cases hk;have:=(h.own.lt _ Gj).2;exact aaW _ this,h'.X,h'.R,h'.Z_,h'.lt,h'.far,fun k hk=>by cases hk;exact Nat.ne_of_gt hl,h'.blw⟩
theorem RunAt.next (h:RunAt w v0 v1 v2 v3 v4 v5 v6 m Z u l a b c d e f g S fs wr) (hb:Below wr.heap.size wr wr') {base:Nat} (H9:wr.heap.size<=base) (ho:OwnSt base wr' a' b' c' d' e' f' g' S' fs'):
  RunAt w v0 v1 v2 v3 v4 v5 v6 m Z u l a' b' c' d' e' f' g' S' fs' ((((((((wr'.setCell ⟨Z,0,none⟩ a').setCell ⟨Z,1,none⟩ b').setCell ⟨Z,2,none⟩ c').setCell ⟨Z,3,none⟩ d').setCell ⟨Z,4,none⟩ e').setCell ⟨Z,5,none⟩ f').setCell ⟨Z,6,none⟩ g').setCell ⟨Z,7,none⟩ (.int .i64 S'.fund)):=by
 have hZ:=h.Z_.lt;have h1:=h.below hb;have hz:=h.zl;have hn:∀k,u.ownBlock=some k->w.heap.size+1+1<=k/\k<wr.heap.size:=h.num.lt
 have MO:∀(W:World) (j:Nat) (x:Value),OwnI (w.heap.size+1+1) W u l->OwnI (w.heap.size+1+1) (W.setCell ⟨Z,j,none⟩ x) u l:=fun W j x hW=>
  World.ownsRow.kept hW (qR W ⟨Z,j,none⟩ x) (.inr (fun e=>h.zn Z e rfl))
 refine⟨(far8 ho o_ _ _ _ _ _ _ _ _).mono (by have:=h.blw.size;have:=h.R.lt;omega),MO _ _ _ (MO _ _ _ (MO _ _ _ (MO _ _ _ (MO _ _ _ (MO _ _ _ (MO _ _ _ (MO _ _ _ h1.num))))))),fun k hk Gj=>by have:=(hn k hk).2;have:=(ho.lt k Gj).1;omega,V9 h1.X o_,V9 h1.R o_,blk8 h1.Z_,h.zl,fun hk=>by have:=(ho.lt _ hk).1;omega,h.zn,bel8 h1.blw o_ _ _ _ _ _ _ _ _⟩
theorem RunAt.app (h:RunAt w v0 v1 v2 v3 v4 v5 v6 m Z u l a b c d e f g S fs wr) (ho:OwnI (w.heap.size+1+1) wr' u' (l++[z])) (hg:wr.grownBy wr' u.ownBlock) (hw:u'.ownBlock=u.ownBlock∨u'.ownBlock=some wr.heap.size):
  RunAt w v0 v1 v2 v3 v4 v5 v6 m Z u' (l++[z]) a b c d e f g S fs wr':=by
 have Hd:∀k,u.ownBlock=some k->w.heap.size+1+1<=k/\k<wr.heap.size:=h.num.lt
 have bK:∀k,u'.ownBlock=some k->¬qv a b c d e f g fs k:=fun k hk Gj=>by
  rcases hw with hw|hw
  ·exact h.ap k (hw▸hk) Gj
  ·rw[hw] at hk;injection hk with hk;have:=(h.own.lt k Gj).2;omega
 have ht:=Turns.ofGrown (S:=fun k=>u.ownBlock=some k) hg (fun k hk=>hk);refine⟨h.own.turned ht (fun k hk Gj=>h.ap k Gj hk),ho,bK,h.X.turned ht (fun hk=>by have:=(Hd _ hk).1;omega),h.R.turned ht (fun hk=>by have:=(Hd _ hk).1;omega),h.Z_.turned ht (fun hk=>h.zn _ hk rfl),h.zl,h.zs,fun k hk=>?_,h.blw.trans (ht.below (fun k hk=>by have:=(Hd k hk).1;omega) h.blw.size)⟩
 rcases hw with hw|hw
 ·exact h.zn k (hw▸hk)
 ·rw[hw] at hk;injection hk with hk;have:=h.Z_.lt;omega
theorem RunAt.fin (h:RunAt w v0 v1 v2 v3 v4 v5 v6 m Z u l a b c d e f g S fs wr) (u0 u1 u2 u3 u4 u5 u6 u7:Value):
  OwnSt w.heap.size ((((((((wr.setCell ⟨w.heap.size+1,0,none⟩ u0).setCell ⟨w.heap.size+1,1,none⟩ u1).setCell ⟨w.heap.size+1,2,none⟩ u2).setCell ⟨w.heap.size+1,3,none⟩ u3).setCell ⟨w.heap.size+1,4,none⟩ u4).setCell ⟨w.heap.size+1,5,none⟩ u5).setCell ⟨w.heap.size+1,6,none⟩ u6).setCell ⟨w.heap.size+1,7,none⟩ u7) a b c d e f g S fs/\
  OwnI w.heap.size ((((((((wr.setCell ⟨w.heap.size+1,0,none⟩ u0).setCell ⟨w.heap.size+1,1,none⟩ u1).setCell ⟨w.heap.size+1,2,none⟩ u2).setCell ⟨w.heap.size+1,3,none⟩ u3).setCell ⟨w.heap.size+1,4,none⟩ u4).setCell ⟨w.heap.size+1,5,none⟩ u5).setCell ⟨w.heap.size+1,6,none⟩ u6).setCell ⟨w.heap.size+1,7,none⟩ u7) u l/\
  Below w.heap.size w ((((((((wr.setCell ⟨w.heap.size+1,0,none⟩ u0).setCell ⟨w.heap.size+1,1,none⟩ u1).setCell ⟨w.heap.size+1,2,none⟩ u2).setCell ⟨w.heap.size+1,3,none⟩ u3).setCell ⟨w.heap.size+1,4,none⟩ u4).setCell ⟨w.heap.size+1,5,none⟩ u5).setCell ⟨w.heap.size+1,6,none⟩ u6).setCell ⟨w.heap.size+1,7,none⟩ u7):=by
 have hn:∀(W:World) (j:Nat) (x:Value),OwnI (w.heap.size+1+1) W u l->OwnI (w.heap.size+1+1) (W.setCell ⟨w.heap.size+1,j,none⟩ x) u l:=fun W j x hW=>
  OwnI.far hW (qR W ⟨w.heap.size+1,j,none⟩ x) (fun k hk=>by injection hk with hk;show k<_;have:k=w.heap.size+1:=hk.symm;omega)
 exact⟨(far8 h.own (aaC _) _ _ _ _ _ _ _ _).mono o_,OwnI.mono (hn _ _ _ (hn _ _ _ (hn _ _ _ (hn _ _ _ (hn _ _ _ (hn _ _ _ (hn _ _ _ (hn _ _ _ h.num)))))))) o_,bel8 h.blw (Nat.le_succ _) _ _ _ _ _ _ _ _⟩
end
theorem z2X (v0 v1 v2 v3 v4 v5 v6 va:Value) (S:St) (l:List Ac) (w:World) (h:RSt w v0 v1 v2 v3 v4 v5 v6 S) (hle:StLe S) (hA:RA w va l):
  Calls Tryz.prog 49 #[.agg #[v0,v1,v2,v3,v4,v5,v6,.int .i64 S.fund],va] w (Vg (kQ S l) (kD S l) w):=by
 obtain⟨r,hr⟩:∃x,ze S=x:=⟨_,rfl⟩;obtain⟨RS_,hRS⟩:∃x,kQ S l=x:=⟨_,rfl⟩;obtain⟨RN,hRN⟩:∃x,kD S l=x:=⟨_,rfl⟩;rw[hRS,hRN];have mR:=h_ hRS;have UF:=h_ hRN;clear hRS hRN;obtain⟨A,ca,rfl,hca,hma,Gy⟩:=hA.form;unfold maxLen at hma;have HR:=h_ hr;have HH:=h_ h;have gi:=h_ hle;have Ft:=h_ Gy;clear hr h hle Gy hA
 go_enter Tryz.func49,Tryz.ntmps49
 go_wp2_with fail
 refine(qw _ _ _ _ _ _ _ S _ (HH.out.below bel_) gi.out).mono ?_
 rintro e w1 ⟨A0,a0,A1,a1,A2,a2,A3,a3,A4,a4,A5,a5,A6,a6,fs,rfl,Hj,h9⟩;have gh:Blk w1 w.heap.size 34 #[v0,v1,v2,v3,v4,v5,v6,.int .i64 S.fund]:=Blk.below ((Blk.newAt rfl).alloc _) h9 sz_;have gu:Blk w1 (w.heap.size+1) 34 z8_:=Blk.below (Blk.newAt (by simp)) h9 sz_;have h8:Below w.heap.size w w1:=bel_
 have Gi:OwnSt (w.heap.size+1+1) w1 (.slice A0 S.D.fn.length a0) (.slice A1 S.D.fl.length a1) (.slice A2 S.D.nn.length a2) (.slice A3 S.D.nl.length a3) (.slice A4 S.D.ss.length a4) (.slice A5 S.cs.length a5) (.slice A6 S.ds.length a6) S fs:=by simpa using Hj
 have gB:=h_ (OutSS.start Gi (aaa _) gh gu h8);obtain⟨x_0,x_1,x_2,x_3,x_4,x_5,x_6,x_7⟩:=gh.c8;have mH:=gh.lt;clear Hj h9 Gi
 go_wp2_with fail
 obtain⟨w2,gS⟩:∃v,v=w1.alloc (.cells #[.slice A0 S.D.fn.length a0,.slice A1 S.D.fl.length a1,.slice A2 S.D.nn.length a2,.slice A3 S.D.nl.length a3,.slice A4 S.D.ss.length a4,.slice A5 S.cs.length a5,.slice A6 S.ds.length a6,.int .i64 S.fund] 34):=⟨_,rfl⟩;rw[<-gS] at gB⊢;generalize w1.heap.size=Z at*;have H2:=h_ (RunAt.start gB.out);clear gS gh gu h8 x_0 x_1 x_2 x_3 x_4 x_5 x_6 x_7 mH gB;refine(qM _ _ _ _ _ _ _ S r _ (HH.out.below H2.out.blw) HR).mono ?_
 rintro e w3 ⟨rfl,Hf⟩;have H3:=h_ (H2.out.below Hf);clear Hf H2
 have hq:(r=true/\l.length<=40)∨(r=false∨(((l.length:Int)>40)=True/\(40:Int)<(l.length:Int)/\r=true)):=by
  cases r
  ·exact .inr (.inl rfl)
  ·by_cases cY:l.length<=40
   ·exact .inl ⟨rfl,cY⟩
   ·exact .inr (.inr ⟨by simp;omega,by omega,rfl⟩)
 rcases hq with ⟨rfl,cY⟩|hq
 ·have F6:runB S l=true:=by unfold runB;rw[HR.out];simpa using cY
  have e1:Hid (runS S l l.length=RS_):=h_ (by rw[<-mR.out];unfold kQ;rw[F6];rfl);have e2:Hid (runN S l l.length=RN):=h_ (by rw[<-UF.out];unfold kD;rw[F6];rfl);clear mR UF F6;have Ma:((l.length:Int)>40)=False:=by simp;omega
  obtain⟨r0,YS⟩:∃x:List Int,x=[]:=⟨_,rfl⟩;go_wp2
  go_loopw [7,25] (fun s7 x wr=>∃j:Nat,j<=l.length/\x= .int .i64 j/\∃(T:Option Addr) (t:Nat) (B0:Option Addr) (b0:Nat) (B1:Option Addr) (b1:Nat) (B2:Option Addr) (b2:Nat) (B3:Option Addr) (b3:Nat) (B4:Option Addr) (b4:Nat) (B5:Option Addr) (b5:Nat) (B6:Option Addr) (b6:Nat) (gs:List SF),s7= .slice T (runN S l j).length t/\RunAt w v0 v1 v2 v3 v4 v5 v6 S.fund Z (.slice T (runN S l j).length t) (runN S l j) (.slice B0 (runS S l j).D.fn.length b0) (.slice B1 (runS S l j).D.fl.length b1) (.slice B2 (runS S l j).D.nn.length b2) (.slice B3 (runS S l j).D.nl.length b3) (.slice B4 (runS S l j).D.ss.length b4) (.slice B5 (runS S l j).cs.length b5) (.slice B6 (runS S l j).ds.length b6) (runS S l j) gs wr) (fun _ x _=>l.length -(intOf x).toNat)
  case atStart=>exact⟨0,aab _,rfl,_,_,_,_,_,_,_,_,_,_,_,_,_,_,_,_,_,rfl,H3.out⟩
  case round=>
   clear H3 r0 YS;obtain⟨j,hj,rfl,T,t,B0,b0,B1,b1,B2,b2,B3,b3,B4,b4,B5,b5,B6,b6,gs,rfl,GC⟩:=hrel;have H3:=h_ GC;clear GC;have mQ:Hid ((runN S l j).length =j):=h_ (Zu S l j)
   by_cases Hd:j<l.length
   ·have Hr:(j:Int)<(l.length:Int):=o_
    have ij1:(0:Int)<=(j:Int):=o_
    obtain⟨ba,oa,rfl,fe,hac⟩:=Ft.out o_;obtain⟨k0,k1,k2⟩:=hac j Hd;have Ms:acI l j=l[j]:=by unfold acI;rw[aa7,aac Hd];rfl
    have HSS:Hid (runS S l (j+1)=doS (runS S l j) l[j].k l[j].a l[j].b):=h_ (by rw[<-Ms];rfl);have bU:Hid (runN S l (j+1)=runN S l j++[doN (runS S l j) l[j].k l[j].a l[j].b]):=h_ (by rw[<-Ms];rfl);have HLJ:Hid (StLe (runS S l j)):=h_ (z8V (V2 HR.out j));have bd:=H3.out.blw;have q0:=(bd.cell (p:=⟨ba,oa+j*3,none⟩) fe).trans k0;have q1:=(bd.cell (p:=⟨ba,oa+j*3+1,none⟩) fe).trans k1;have q2:=(bd.cell (p:=⟨ba,oa+j*3+2,none⟩) fe).trans k2;generalize hE1:runS S l j=S1 at*;generalize U9:runN S l j=G at*;generalize l[j].k =ak at*;generalize l[j].a =aa at*;generalize l[j].b =ab at*;clear hE1 U9 k0 k1 k2 hac Ms bd;have hZ:=H3.out.Z_;obtain⟨z_0,z_1,z_2,z_3,z_4,z_5,z_6,z_7⟩:=hZ.c8;have Ga:=hZ.lt;clear hZ;obtain⟨E,hE⟩:∃E,doS S1 ak aa ab=E:=⟨_,rfl⟩;obtain⟨nn,Ch⟩:∃n,doN S1 ak aa ab=n:=⟨_,rfl⟩;rw[hE] at HSS;rw[Ch] at bU;have HC:=fun (v:World) (hv:Below wr.heap.size wr v)=>z7Y (.slice B0 S1.D.fn.length b0) (.slice B1 S1.D.fl.length b1) (.slice B2 S1.D.nn.length b2) (.slice B3 S1.D.nl.length b3) (.slice B4 S1.D.ss.length b4) (.slice B5 S1.cs.length b5) (.slice B6 S1.ds.length b6) S1 ak aa ab v (H3.out.own.reads.below hv) HLJ.out
    rw[hE,Ch] at HC;have HC:=h_ HC;clear hE Ch
    go_wp2_with fail
    refine(HC.out _ bel_).mono ?_
    rintro e w4 ⟨C0,c0,C1,c1,C2,c2,C3,c3,C4,c4,C5,c5,C6,c6,fs2,rfl,gF,Hv⟩;have hs4:=Hv.size;simp at hs4
    have gf:Below wr.heap.size wr w4:=bel_
    have H4:=h_ (RunAt.next H3.out gf (Nat.le_succ _) (show OwnSt (wr.heap.size+1) _ _ _ _ _ _ _ _ _ _ from(by simpa using gF)));have hZl5:Z<w4.heap.size:=o_
    have hZw:=(H3.out.below gf).Z_;obtain⟨y_0,y_1,y_2,y_3,y_4,y_5,y_6,y_7,y_f0,y_f1,y_f2,y_f3,y_f4,y_f5,y_f6,y_f7⟩:=hZw.b8;have H5:=H4.out.below ((aaj _ _).alloc (aaa _) (.cells #[.slice C0 E.D.fn.length c0,.slice C1 E.D.fl.length c1,.slice C2 E.D.nn.length c2,.slice C3 E.D.nl.length c3,.slice C4 E.D.ss.length c4,.slice C5 E.cs.length c5,.slice C6 E.ds.length c6,.int .i64 E.fund] 34));clear hZw gF Hv H3 H4 z_0 z_1 z_2 z_3 z_4 z_5 z_6 z_7 q0 q1 q2
    go_upto_region 10 with (fail)
    obtain⟨w5,GH⟩:∃v,v=((((((((w4.setCell ⟨Z,0,none⟩ (.slice C0 E.D.fn.length c0)).setCell ⟨Z,1,none⟩ (.slice C1 E.D.fl.length c1)).setCell ⟨Z,2,none⟩ (.slice C2 E.D.nn.length c2)).setCell ⟨Z,3,none⟩ (.slice C3 E.D.nl.length c3)).setCell ⟨Z,4,none⟩ (.slice C4 E.D.ss.length c4)).setCell ⟨Z,5,none⟩ (.slice C5 E.cs.length c5)).setCell ⟨Z,6,none⟩ (.slice C6 E.ds.length c6)).setCell ⟨Z,7,none⟩ (.int .i64 E.fund)).alloc (.cells #[.slice C0 E.D.fn.length c0,.slice C1 E.D.fl.length c1,.slice C2 E.D.nn.length c2,.slice C3 E.D.nl.length c3,.slice C4 E.D.ss.length c4,.slice C5 E.cs.length c5,.slice C6 E.ds.length c6,.int .i64 E.fund] 34):=⟨_,rfl⟩;rw[<-GH] at H5⊢;clear GH y_0 y_1 y_2 y_3 y_4 y_5 y_6 y_7 y_f0 y_f1 y_f2 y_f3 y_f4 y_f5 y_f6 y_f7 gf hZl5 hs4;have uw:=H5.num;have hrse:=H5.R.lt;have H5:=h_ H5
    go_wp2_with (at_builtin;refine zR rfl _ _ rfl (w.heap.size+1+1) _ G nn rfl w5.heap.size rfl (qH rfl) (OwnI.alloc uw _) (by have:=mQ.out;omega) (by simp;omega) ?_)
    intro v2 w6 fD F7 Cf;obtain⟨A6',c6',rfl⟩:=OwnI.form fD;have H6:=h_ (RunAt.app (H5.out.below ((aaj _ _).alloc (aaa _) (.cells #[.int .i64 nn] 3))) fD F7 (by simpa using Cf));clear uw fD F7 Cf H5;go_wp2;go_roundw
    case rel=>exact⟨j+1,by omega,by go_num,_,_,_,_,_,_,_,_,_,_,_,_,_,_,_,_,fs2,by rw[bU.out],by rw[bU.out,HSS.out];exact H6.out⟩
    case measure=>simp[intOf];omega
   ·have GV:j=l.length:=o_
    subst GV;have Hr:¬(l.length:Int)<(l.length:Int):=o_
    rw[e1.out,e2.out] at H3;rw[e2.out];clear e1 e2 mQ;obtain⟨_,_,_,_,hR,hZ,m7,_,_,_⟩:=H3.out;obtain⟨z_0,z_1,z_2,z_3,z_4,z_5,z_6,z_7⟩:=hZ.c8;obtain⟨r_0,r_1,r_2,r_3,r_4,r_5,r_6,r_7,r_f0,r_f1,r_f2,r_f3,r_f4,r_f5,r_f6,r_f7⟩:=hR.b8;have FC:=hR.lt;have HF:=h_ (H3.out.fin);have NO:=h_ H3.out.ap;clear hR hZ H3;go_wp2;exact bodyPost_ret (v:= .tuple #[.agg (s8_ B0 B1 B2 B3 B4 B5 B6 b0 b1 b2 b3 b4 b5 b6 RS_),.slice T RN.length t]) (by simp[results,Tryz.results49,go_sem,r_0,r_1,r_2,r_3,r_4,r_5,r_6,r_7,FC]) rfl ⟨_,_,_,_,_,_,_,_,_,_,_,_,_,_,gs,_,_,rfl,(HF.out _ _ _ _ _ _ _ _).1,(HF.out _ _ _ _ _ _ _ _).2.1,NO.out,(HF.out _ _ _ _ _ _ _ _).2.2⟩
 ·have F6:runB S l=false:=by
   unfold runB;rw[HR.out]
   rcases hq with rfl|⟨_,hn,rfl⟩
   ·rfl
   ·simp;omega
  obtain rfl:S=RS_:=by rw[<-mR.out];unfold kQ;rw[F6];rfl
  obtain rfl: []=RN:=by rw[<-UF.out];unfold kD;rw[F6];rfl
  clear mR UF F6
  rcases hq with rfl|⟨Ma,CK,rfl⟩
  all_goals
   obtain⟨_,_,_,_,hR,hZ,m7,_,_,_⟩:=H3.out;obtain⟨z_0,z_1,z_2,z_3,z_4,z_5,z_6,z_7⟩:=hZ.c8;obtain⟨r_0,r_1,r_2,r_3,r_4,r_5,r_6,r_7,r_f0,r_f1,r_f2,r_f3,r_f4,r_f5,r_f6,r_f7⟩:=hR.b8;have FC:=hR.lt;have HF:=h_ (H3.out.fin);have NO:=h_ H3.out.ap;clear hR hZ H3;go_wp2;exact bodyPost_ret (v:= .tuple #[.agg (s8_ A0 A1 A2 A3 A4 A5 A6 a0 a1 a2 a3 a4 a5 a6 S),.slice none 0 0]) (by simp[results,Tryz.results49,go_sem,r_0,r_1,r_2,r_3,r_4,r_5,r_6,r_7,FC]) rfl ⟨_,_,_,_,_,_,_,_,_,_,_,_,_,_,fs,_,_,rfl,(HF.out _ _ _ _ _ _ _ _).1,(HF.out _ _ _ _ _ _ _ _).2.1,NO.out,(HF.out _ _ _ _ _ _ _ _).2.2⟩
theorem z4e (v0 v1 v2 v3 v4 v5 v6 va:Value) (S:St) (l:List Ac) (w:World) (h:RSt w v0 v1 v2 v3 v4 v5 v6 S) (hle:StLe S) (hA:RA w va l):
  Calls Tryz.prog 60 #[.agg #[v0,v1,v2,v3,v4,v5,v6,.int .i64 S.fund],va] w (Vg (kQ S l) (kD S l) w):=by
 obtain⟨r,hr⟩:∃x,ze S=x:=⟨_,rfl⟩;obtain⟨RS_,hRS⟩:∃x,kQ S l=x:=⟨_,rfl⟩;obtain⟨RN,hRN⟩:∃x,kD S l=x:=⟨_,rfl⟩;rw[hRS,hRN];have mR:=h_ hRS;have UF:=h_ hRN;clear hRS hRN;obtain⟨A,ca,rfl,hca,hma,Gy⟩:=hA.form;unfold maxLen at hma;have HR:=h_ hr;have HH:=h_ h;have gi:=h_ hle;have Ft:=h_ Gy;clear hr h hle Gy hA
 go_enter Tryz.func60,Tryz.ntmps60
 go_wp2_with fail
 refine(jm _ _ _ _ _ _ _ S _ (HH.out.below bel_) gi.out).mono ?_
 rintro e w1 ⟨A0,a0,A1,a1,A2,a2,A3,a3,A4,a4,A5,a5,A6,a6,fs,rfl,Hj,h9⟩;have gh:Blk w1 w.heap.size 34 #[v0,v1,v2,v3,v4,v5,v6,.int .i64 S.fund]:=Blk.below ((Blk.newAt rfl).alloc _) h9 sz_;have gu:Blk w1 (w.heap.size+1) 34 z8_:=Blk.below (Blk.newAt (by simp)) h9 sz_;have h8:Below w.heap.size w w1:=bel_
 have Gi:OwnSt (w.heap.size+1+1) w1 (.slice A0 S.D.fn.length a0) (.slice A1 S.D.fl.length a1) (.slice A2 S.D.nn.length a2) (.slice A3 S.D.nl.length a3) (.slice A4 S.D.ss.length a4) (.slice A5 S.cs.length a5) (.slice A6 S.ds.length a6) S fs:=by simpa using Hj
 have gB:=h_ (OutSS.start Gi (aaa _) gh gu h8);obtain⟨x_0,x_1,x_2,x_3,x_4,x_5,x_6,x_7⟩:=gh.c8;have mH:=gh.lt;clear Hj h9 Gi
 go_wp2_with fail
 obtain⟨w2,gS⟩:∃v,v=(w1.alloc (.cells #[.slice A0 S.D.fn.length a0,.slice A1 S.D.fl.length a1,.slice A2 S.D.nn.length a2,.slice A3 S.D.nl.length a3,.slice A4 S.D.ss.length a4,.slice A5 S.cs.length a5,.slice A6 S.ds.length a6,.int .i64 S.fund] 34)).alloc (.cells #[] 3):=⟨_,rfl⟩;have H2:=RunAt.start' (q:=w1.heap.size+1) gB.out (by simp);rw[<-gS] at H2⊢;have H2:=h_ H2;obtain⟨q,hq⟩:∃q,q=w1.heap.size+1:=⟨_,rfl⟩;rw[<-hq] at H2⊢;clear hq;generalize w1.heap.size=Z at*;clear gS gh gu h8 x_0 x_1 x_2 x_3 x_4 x_5 x_6 x_7 mH gB;refine(j8 _ _ _ _ _ _ _ S r _ (HH.out.below H2.out.blw) HR).mono ?_
 rintro e w3 ⟨rfl,Hf⟩;have H3:=h_ (H2.out.below Hf);clear Hf H2
 have hq:(r=true/\l.length<=40)∨(r=false∨(((l.length:Int)>40)=True/\(40:Int)<(l.length:Int)/\r=true)):=by
  cases r
  ·exact .inr (.inl rfl)
  ·by_cases cY:l.length<=40
   ·exact .inl ⟨rfl,cY⟩
   ·exact .inr (.inr ⟨by simp;omega,by omega,rfl⟩)
 rcases hq with ⟨rfl,cY⟩|hq
 ·have F6:runB S l=true:=by unfold runB;rw[HR.out];simpa using cY
  have e1:Hid (runS S l l.length=RS_):=h_ (by rw[<-mR.out];unfold kQ;rw[F6];rfl);have e2:Hid (runN S l l.length=RN):=h_ (by rw[<-UF.out];unfold kD;rw[F6];rfl);clear mR UF F6;have Ma:((l.length:Int)>40)=False:=by simp;omega
  obtain⟨r0,YS⟩:∃x:List Int,x=[]:=⟨_,rfl⟩;go_wp2
  go_loopw [7,8] (fun s7 x wr=>∃j:Nat,j<=l.length/\x= .int .i64 j/\∃(T:Option Addr) (t:Nat) (B0:Option Addr) (b0:Nat) (B1:Option Addr) (b1:Nat) (B2:Option Addr) (b2:Nat) (B3:Option Addr) (b3:Nat) (B4:Option Addr) (b4:Nat) (B5:Option Addr) (b5:Nat) (B6:Option Addr) (b6:Nat) (gs:List SF),s7= .slice T (runN S l j).length t/\RunAt w v0 v1 v2 v3 v4 v5 v6 S.fund Z (.slice T (runN S l j).length t) (runN S l j) (.slice B0 (runS S l j).D.fn.length b0) (.slice B1 (runS S l j).D.fl.length b1) (.slice B2 (runS S l j).D.nn.length b2) (.slice B3 (runS S l j).D.nl.length b3) (.slice B4 (runS S l j).D.ss.length b4) (.slice B5 (runS S l j).cs.length b5) (.slice B6 (runS S l j).ds.length b6) (runS S l j) gs wr) (fun _ x _=>l.length -(intOf x).toNat)
  case atStart=>exact⟨0,aab _,rfl,_,_,_,_,_,_,_,_,_,_,_,_,_,_,_,_,_,rfl,H3.out⟩
  case round=>
   clear H3 r0 YS;obtain⟨j,hj,rfl,T,t,B0,b0,B1,b1,B2,b2,B3,b3,B4,b4,B5,b5,B6,b6,gs,rfl,GC⟩:=hrel;have H3:=h_ GC;clear GC;have mQ:Hid ((runN S l j).length =j):=h_ (Zu S l j)
   by_cases Hd:j<l.length
   ·have Hr:(j:Int)<(l.length:Int):=o_
    have ij1:(0:Int)<=(j:Int):=o_
    obtain⟨ba,oa,rfl,fe,hac⟩:=Ft.out o_;obtain⟨k0,k1,k2⟩:=hac j Hd;have Ms:acI l j=l[j]:=by unfold acI;rw[aa7,aac Hd];rfl
    have HSS:Hid (runS S l (j+1)=doS (runS S l j) l[j].k l[j].a l[j].b):=h_ (by rw[<-Ms];rfl);have bU:Hid (runN S l (j+1)=runN S l j++[doN (runS S l j) l[j].k l[j].a l[j].b]):=h_ (by rw[<-Ms];rfl);have HLJ:Hid (StLe (runS S l j)):=h_ (z8V (V2 HR.out j));have bd:=H3.out.blw;have q0:=(bd.cell (p:=⟨ba,oa+j*3,none⟩) fe).trans k0;have q1:=(bd.cell (p:=⟨ba,oa+j*3+1,none⟩) fe).trans k1;have q2:=(bd.cell (p:=⟨ba,oa+j*3+2,none⟩) fe).trans k2;have hbal:ba<wr.heap.size:=by have:=bd.size;omega
    generalize hE1:runS S l j=S1 at*;generalize U9:runN S l j=G at*;generalize l[j].k =ak at*;generalize l[j].a =aa at*;generalize l[j].b =ab at*;clear hE1 U9 k0 k1 k2 hac Ms bd;have hZ:=H3.out.Z_;obtain⟨z_0,z_1,z_2,z_3,z_4,z_5,z_6,z_7⟩:=hZ.c8;have Ga:=hZ.lt;clear hZ;obtain⟨E,hE⟩:∃E,doS S1 ak aa ab=E:=⟨_,rfl⟩;obtain⟨nn,Ch⟩:∃n,doN S1 ak aa ab=n:=⟨_,rfl⟩;rw[hE] at HSS;rw[Ch] at bU;have HC:=fun (v:World) (hv:Below wr.heap.size wr v)=>z6E (.slice B0 S1.D.fn.length b0) (.slice B1 S1.D.fl.length b1) (.slice B2 S1.D.nn.length b2) (.slice B3 S1.D.nl.length b3) (.slice B4 S1.D.ss.length b4) (.slice B5 S1.cs.length b5) (.slice B6 S1.ds.length b6) S1 ak aa ab v (H3.out.own.reads.below hv) HLJ.out
    rw[hE,Ch] at HC;have HC:=h_ HC;clear hE Ch
    go_upto_region 8 with (fail)
    go_cut [9,10] (fun s9 s10 wx=>∃(y:Nat) (C0:Option Addr) (c0:Nat) (C1:Option Addr) (c1:Nat) (C2:Option Addr) (c2:Nat) (C3:Option Addr) (c3:Nat) (C4:Option Addr) (c4:Nat) (C5:Option Addr) (c5:Nat) (C6:Option Addr) (c6:Nat) (fs2:List SF),s9= .pointer (some ⟨y,0,none⟩)/\s10= .int .i64 nn/\Blk wx y 34 #[.slice C0 E.D.fn.length c0,.slice C1 E.D.fl.length c1,.slice C2 E.D.nn.length c2,.slice C3 E.D.nl.length c3,.slice C4 E.D.ss.length c4,.slice C5 E.cs.length c5,.slice C6 E.ds.length c6,.int .i64 E.fund]/\wr.heap.size<=y/\OwnSt wr.heap.size wx (.slice C0 E.D.fn.length c0) (.slice C1 E.D.fl.length c1) (.slice C2 E.D.nn.length c2) (.slice C3 E.D.nl.length c3) (.slice C4 E.D.ss.length c4) (.slice C5 E.cs.length c5) (.slice C6 E.ds.length c6) E fs2/\Below wr.heap.size wr wx)
    case first=>
     have fr:Below wr.heap.size wr wr.drew:=(aaj _ _).drew;refine vo (n:=10) (S:=fun w'=>w'.cell? ⟨Z,0,none⟩=some (.slice B0 S1.D.fn.length b0)/\w'.cell? ⟨Z,1,none⟩=some (.slice B1 S1.D.fl.length b1)/\w'.cell? ⟨Z,2,none⟩=some (.slice B2 S1.D.nn.length b2)/\w'.cell? ⟨Z,3,none⟩=some (.slice B3 S1.D.nl.length b3)/\w'.cell? ⟨Z,4,none⟩=some (.slice B4 S1.D.ss.length b4)/\w'.cell? ⟨Z,5,none⟩=some (.slice B5 S1.cs.length b5)/\w'.cell? ⟨Z,6,none⟩=some (.slice B6 S1.ds.length b6)/\w'.cell? ⟨Z,7,none⟩=some (.int .i64 S1.fund)/\w'.cell? ⟨ba,oa+j*3,none⟩=some (.int .i64 ak)/\w'.cell? ⟨ba,oa+j*3+1,none⟩=some (.int .i64 aa)/\w'.cell? ⟨ba,oa+j*3+2,none⟩=some (.int .i64 ab)) k_ ⟨z_0,z_1,z_2,z_3,z_4,z_5,z_6,z_7,q0,q1,q2⟩ (fun hS=>?_)
     have HS:=h_ (fun (v:World) (hb:Below wr.heap.size wr v)=>(⟨(hb.cell (p:=⟨Z,0,none⟩) Ga).trans z_0,(hb.cell (p:=⟨Z,1,none⟩) Ga).trans z_1,(hb.cell (p:=⟨Z,2,none⟩) Ga).trans z_2,(hb.cell (p:=⟨Z,3,none⟩) Ga).trans z_3,(hb.cell (p:=⟨Z,4,none⟩) Ga).trans z_4,(hb.cell (p:=⟨Z,5,none⟩) Ga).trans z_5,(hb.cell (p:=⟨Z,6,none⟩) Ga).trans z_6,(hb.cell (p:=⟨Z,7,none⟩) Ga).trans z_7,(hb.cell (p:=⟨ba,oa+j*3,none⟩) hbal).trans q0,(hb.cell (p:=⟨ba,oa+j*3+1,none⟩) hbal).trans q1,(hb.cell (p:=⟨ba,oa+j*3+2,none⟩) hbal).trans q2⟩:v.cell? ⟨Z,0,none⟩=some (.slice B0 S1.D.fn.length b0)/\v.cell? ⟨Z,1,none⟩=some (.slice B1 S1.D.fl.length b1)/\v.cell? ⟨Z,2,none⟩=some (.slice B2 S1.D.nn.length b2)/\v.cell? ⟨Z,3,none⟩=some (.slice B3 S1.D.nl.length b3)/\v.cell? ⟨Z,4,none⟩=some (.slice B4 S1.D.ss.length b4)/\v.cell? ⟨Z,5,none⟩=some (.slice B5 S1.cs.length b5)/\v.cell? ⟨Z,6,none⟩=some (.slice B6 S1.ds.length b6)/\v.cell? ⟨Z,7,none⟩=some (.int .i64 S1.fund)/\v.cell? ⟨ba,oa+j*3,none⟩=some (.int .i64 ak)/\v.cell? ⟨ba,oa+j*3+1,none⟩=some (.int .i64 aa)/\v.cell? ⟨ba,oa+j*3+2,none⟩=some (.int .i64 ab)));generalize wr.drew=wd at*;refine tE_ 0 rfl rfl ?_;(try simp only[lp_])
     refine tE_ 1 rfl rfl ?_;(try simp only[lp_])
     refine tE_ 2 rfl rfl ?_;(try simp only[lp_])
     refine tE_ 3 rfl rfl ?_;(try simp only[lp_])
     refine tE_ 4 rfl rfl ?_;(try simp only[lp_])
     refine zaz (i:=5) (j:=9) rfl rfl k_ (fun K hK=>?_) (fun K hK=>?_)
     ·rw[aao (by rfl)]
      have UG:=fr.size;go_simp
      go_at_call 16
      refine(HC.out _ fr).mono ?_
      rintro e w4 ⟨C0,c0,C1,c1,C2,c2,C3,c3,C4,c4,C5,c5,C6,c6,fs2,rfl,ho,Hv⟩;have gf:=fr.trans (Hv.mono fr.size)
      go_wp2_with fail
      refine hK _ _ (fun _=>HS.out _ gf) (fun gl=>?_)
      have hS:=gl k_;clear hK K gl
      (try simp only[lp_])
      refine tE_ 6 rfl rfl ?_;(try simp only[lp_])
      refine tE_ 7 rfl rfl ?_;(try simp only[lp_])
      refine tF_ 8 rfl ?_;(try simp only[lp_])
      (refine qg (i:=9) rfl k_ (fun K hK=>?_));(rw[aao (by rfl)])
      go_simp;refine hK _ _ (fun _=>HS.out _ (gf.alloc gf.size _)) (fun gl=>?_)
      clear hK K gl z_0 z_1 z_2 z_3 z_4 z_5 z_6 z_7
      (try simp only[lp_])
      have gI:=Blk.newAt (w:=w4) (g:=w4.heap.size) (t:=34) (cs:= z8_) rfl;obtain⟨z_0,z_1,z_2,z_3,z_4,z_5,z_6,z_7,z_f0,z_f1,z_f2,z_f3,z_f4,z_f5,z_f6,z_f7⟩:=gI.b8
      (refine qg (i:=10) rfl k_ (fun K hK=>?_));(rw[aao (by rfl)])
      go_simp;refine hK _ _ (fun h=>by cases h) (fun _=>?_)
      clear hK K z_0 z_1 z_2 z_3 z_4 z_5 z_6 z_7 z_f0 z_f1 z_f2 z_f3 z_f4 z_f5 z_f6 z_f7
      (try simp only[lp_])
      (refine qg (i:=11) rfl k_ (fun K hK=>?_));(rw[aao (by rfl)])
      go_simp;refine hK _ _ (fun h=>by cases h) (fun _=>?_)
      clear hK K
      (try simp only[lp_])
      refine ky k_ ?_ _
      go_wp2;go_meet
      exact⟨w4.heap.size,_,_,_,_,_,_,_,_,_,_,_,_,_,_,fs2,rfl,rfl,Blk.newAt rfl,gf.size,(ho.mono UG).alloc _,gf.alloc gf.size _⟩
     ·rw[aao (by rfl)]
      go_simp;have gI:=Blk.newAt (w:=wd) (g:=wd.heap.size) (t:=34) (cs:= z8_) rfl;have G9:=fr.alloc fr.size (.cells z8_ 34);obtain⟨wA,cN⟩:∃v,v=wd.alloc (.cells z8_ 34):=⟨_,rfl⟩;have UB:wA.heap.size=wd.heap.size+1:=by rw[cN];simp
      rw[<-cN] at gI G9⊢;clear cN;refine hK _ _ (fun _=>HS.out _ G9) (fun gl=>?_)
      clear hK K gl
      (try simp only[lp_])
      (refine qg (i:=5) rfl k_ (fun K hK=>?_));(rw[aao (by rfl)])
      go_simp
      go_at_call 16
      refine(HC.out _ G9).mono ?_
      rintro e w4 ⟨C0,c0,C1,c1,C2,c2,C3,c3,C4,c4,C5,c5,C6,c6,fs2,rfl,ho,Hv⟩;have gf:=G9.trans (Hv.mono G9.size);have hBA4:=gI.below Hv gI.lt
      go_wp2_with fail
      refine hK _ _ (fun _=>HS.out _ gf) (fun gl=>?_)
      have hS:=gl k_;clear hK K gl
      (try simp only[lp_])
      refine tE_ 6 rfl rfl ?_;(try simp only[lp_])
      refine tE_ 7 rfl rfl ?_;(try simp only[lp_])
      refine tF_ 8 rfl ?_;(try simp only[lp_])
      clear z_0 z_1 z_2 z_3 z_4 z_5 z_6 z_7;obtain⟨z_0,z_1,z_2,z_3,z_4,z_5,z_6,z_7,z_f0,z_f1,z_f2,z_f3,z_f4,z_f5,z_f6,z_f7⟩:=hBA4.b8;have UG:=fr.size
      (refine qg (i:=10) rfl k_ (fun K hK=>?_));(rw[aao (by rfl)])
      go_simp;refine hK _ _ (fun h=>by cases h) (fun _=>?_)
      clear hK K z_0 z_1 z_2 z_3 z_4 z_5 z_6 z_7 z_f0 z_f1 z_f2 z_f3 z_f4 z_f5 z_f6 z_f7
      (try simp only[lp_])
      (refine qg (i:=11) rfl k_ (fun K hK=>?_));(rw[aao (by rfl)])
      go_simp;refine hK _ _ (fun h=>by cases h) (fun _=>?_)
      clear hK K
      (try simp only[lp_])
      refine ky k_ ?_ _
      go_wp2;go_meet
      exact⟨wd.heap.size,_,_,_,_,_,_,_,_,_,_,_,_,_,_,fs2,rfl,rfl,blk8 hBA4,UG,(far8 ho o_ _ _ _ _ _ _ _ _).mono o_,bel8 gf UG _ _ _ _ _ _ _ _⟩
    case rest=>
     clear HC z_0 z_1 z_2 z_3 z_4 z_5 z_6 z_7 q0 q1 q2 Ga;obtain⟨y,C0,c0,C1,c1,C2,c2,C3,c3,C4,c4,C5,c5,C6,c6,fs2,rfl,rfl,hY,hy,hO,hB⟩:=hcut;have H4:=h_ (RunAt.next H3.out hB (aaa _) hO);have hZw:=(H3.out.below hB).Z_;obtain⟨z_0,z_1,z_2,z_3,z_4,z_5,z_6,z_7,z_f0,z_f1,z_f2,z_f3,z_f4,z_f5,z_f6,z_f7⟩:=hZw.b8;obtain⟨y_0,y_1,y_2,y_3,y_4,y_5,y_6,y_7⟩:=hY.c8;have H5:=H4.out;clear H3 H4 hZw hY hO hB
     go_upto_region 10 with (fail)
     obtain⟨w5,GH⟩:∃v,v=((((((((wc.setCell ⟨Z,0,none⟩ (.slice C0 E.D.fn.length c0)).setCell ⟨Z,1,none⟩ (.slice C1 E.D.fl.length c1)).setCell ⟨Z,2,none⟩ (.slice C2 E.D.nn.length c2)).setCell ⟨Z,3,none⟩ (.slice C3 E.D.nl.length c3)).setCell ⟨Z,4,none⟩ (.slice C4 E.D.ss.length c4)).setCell ⟨Z,5,none⟩ (.slice C5 E.cs.length c5)).setCell ⟨Z,6,none⟩ (.slice C6 E.ds.length c6)).setCell ⟨Z,7,none⟩ (.int .i64 E.fund)):=⟨_,rfl⟩;rw[<-GH] at H5⊢;clear GH z_0 z_1 z_2 z_3 z_4 z_5 z_6 z_7 z_f0 z_f1 z_f2 z_f3 z_f4 z_f5 z_f6 z_f7 y_0 y_1 y_2 y_3 y_4 y_5 y_6 y_7 hy;have uw:=H5.num;have hrse:=H5.R.lt;have H5:=h_ H5
     go_wp2_with (at_builtin;refine zR rfl _ _ rfl (w.heap.size+1+1) _ G nn rfl w5.heap.size rfl (qH rfl) (OwnI.alloc uw _) (by have:=mQ.out;omega) (by simp;omega) ?_)
     intro v2 w6 fD F7 Cf;obtain⟨A6',c6',rfl⟩:=OwnI.form fD;have H6:=h_ (RunAt.app (H5.out.below ((aaj _ _).alloc (aaa _) (.cells #[.int .i64 nn] 3))) fD F7 (by simpa using Cf));clear uw fD F7 Cf H5;go_wp2;go_roundw
     case rel=>exact⟨j+1,by omega,by go_num,_,_,_,_,_,_,_,_,_,_,_,_,_,_,_,_,fs2,by rw[bU.out],by rw[bU.out,HSS.out];exact H6.out⟩
     case measure=>simp[intOf];omega
   ·have GV:j=l.length:=o_
    subst GV;have Hr:¬(l.length:Int)<(l.length:Int):=o_
    rw[e1.out,e2.out] at H3;rw[e2.out];clear e1 e2 mQ;obtain⟨_,_,_,_,hR,hZ,m7,_,_,_⟩:=H3.out;obtain⟨z_0,z_1,z_2,z_3,z_4,z_5,z_6,z_7⟩:=hZ.c8;obtain⟨r_0,r_1,r_2,r_3,r_4,r_5,r_6,r_7,r_f0,r_f1,r_f2,r_f3,r_f4,r_f5,r_f6,r_f7⟩:=hR.b8;have FC:=hR.lt;have HF:=h_ (H3.out.fin);have NO:=h_ H3.out.ap;clear hR hZ H3;go_wp2;exact bodyPost_ret (v:= .tuple #[.agg (s8_ B0 B1 B2 B3 B4 B5 B6 b0 b1 b2 b3 b4 b5 b6 RS_),.slice T RN.length t]) (by simp[results,Tryz.results60,go_sem,r_0,r_1,r_2,r_3,r_4,r_5,r_6,r_7,FC]) rfl ⟨_,_,_,_,_,_,_,_,_,_,_,_,_,_,gs,_,_,rfl,(HF.out _ _ _ _ _ _ _ _).1,(HF.out _ _ _ _ _ _ _ _).2.1,NO.out,(HF.out _ _ _ _ _ _ _ _).2.2⟩
 ·have F6:runB S l=false:=by
   unfold runB;rw[HR.out]
   rcases hq with rfl|⟨_,hn,rfl⟩
   ·rfl
   ·simp;omega
  obtain rfl:S=RS_:=by rw[<-mR.out];unfold kQ;rw[F6];rfl
  obtain rfl: []=RN:=by rw[<-UF.out];unfold kD;rw[F6];rfl
  clear mR UF F6
  rcases hq with rfl|⟨Ma,CK,rfl⟩
  all_goals
   obtain⟨_,_,_,_,hR,hZ,m7,_,_,_⟩:=H3.out;obtain⟨z_0,z_1,z_2,z_3,z_4,z_5,z_6,z_7⟩:=hZ.c8;obtain⟨r_0,r_1,r_2,r_3,r_4,r_5,r_6,r_7,r_f0,r_f1,r_f2,r_f3,r_f4,r_f5,r_f6,r_f7⟩:=hR.b8;have FC:=hR.lt;have HF:=h_ (H3.out.fin);have NO:=h_ H3.out.ap;clear hR hZ H3;go_wp2;exact bodyPost_ret (v:= .tuple #[.agg (s8_ A0 A1 A2 A3 A4 A5 A6 a0 a1 a2 a3 a4 a5 a6 S),.slice (some ⟨q,0,none⟩) 0 0]) (by simp[results,Tryz.results60,go_sem,r_0,r_1,r_2,r_3,r_4,r_5,r_6,r_7,FC]) rfl ⟨_,_,_,_,_,_,_,_,_,_,_,_,_,_,fs,_,_,rfl,(HF.out _ _ _ _ _ _ _ _).1,(HF.out _ _ _ _ _ _ _ _).2.1,NO.out,(HF.out _ _ _ _ _ _ _ _).2.2⟩
theorem zap (S:St) (h:¬szSt S<0):szSt S<=1048576:=by
 unfold szSt at h⊢
 split
 ·omega
 ·rename_i h1
  rw[aaq h1] at h
  split
  ·omega
  ·rename_i h2
   rw[aaq h2] at h;have e0:=z5j h1;have e1:=Zv h2;have e2:=Zv h;omega
def Vi (a:Int) (n:Nat):List Ac:=(List.range n).map fun (i:Nat)=>⟨a+3*(i:Int),a+3*(i:Int)+1,a+3*(i:Int)+2⟩
theorem z2j (a:Int) (n:Nat):(Vi a n).length =n:=by simp[Vi]
def yn (a:Int) (l:List Ac) (k:Nat):List Ac:=Vi a k++l.drop k
theorem QY (a:Int) (l:List Ac) (k:Nat) (h:k<=l.length):(yn a l k).length =l.length:=by simp[yn,z2j];omega
theorem z39 (a:Int) (l:List Ac):yn a l 0=l:=by simp[yn,Vi]
theorem z4B (a:Int) (l:List Ac):yn a l l.length=Vi a l.length:=by simp[yn]
theorem z3e (a:Int) (l:List Ac) (k:Nat) (h:k<l.length):yn a l (k+1)=(yn a l k).set k ⟨a+3*k,a+3*k+1,a+3*k+2⟩:=by
 unfold yn Vi;rw[abf,aaA,aan];simp only[aaT,aaU,List.length_map,abr,aaW,if_false,aae,aay,List.cons_append,List.nil_append]
 rw[aas h,aal]
theorem Qy:∀(l:List Ac) (k j:Nat) (u:Value) (f:Ac) (hk:k<l.length),j<3->(Ac.cs l[k]).set j u=Ac.cs f->(l.flatMap Ac.cs).set (k*3+j) u=(l.set k f).flatMap Ac.cs
 | [],k,_,_,_,h,_,_=>absurd h (by simp)
 |a::l,0,j,u,f,h,hj,he=>by
  rw[aal,aam,aam,<-he,aan,aao (by simp[Ac.cs];omega)];simp
 |a::l,k+1,j,u,f,h,hj,he=>by
  have ih:=Qy l k j u f (by simpa using h) hj he;rw[aap,aam,aam,<-ih,aan,aaq (by simp[Ac.cs];omega)];have e:(k+1)*3+j -(Ac.cs a).length =k*3+j:=by simp[Ac.cs];omega
  rw[e]
theorem z1L (base:Nat) (v:Value) (l:List Ac) (a:Int) (w:World) (h:OwnA base w v l) (ha:0<=a) (hb:a+3*l.length<=1000000000000):
  Calls Tryz.prog 61 #[v,.int .i64 a] w fun e w'=>e= .returned (.int .i64 (a+3*l.length))/\OwnA base w' v (Vi a l.length)/\w.grownBy w' v.ownBlock:=by
 rcases Gf:h.2 with ⟨rfl,hn⟩|⟨g,cap,cur,rfl,mI,hh,cO,Co,gj,Fy⟩
 ·have hz:l=[]:=aby hn
  subst hz;clear Gf hn hb
  go_enter Tryz.func61,Tryz.ntmps61
  go_wp2
  go_loop [1,5] (fun x i=>i= .int .i64 0/\x= .int .i64 a) (fun _ _=>0)
  case atStart=>exact⟨rfl,rfl⟩
  case round=>
   obtain⟨rfl,rfl⟩:=hrel;go_wp2;go_ret
   exact⟨by simp,World.ownsRow_nil _ _ _ _,World.grownBy.refl _ _⟩
 ·clear Gf hh Fy gj
  have GO:l.length<=1000000000000:=o_
  have h0:OwnA base w (.slice (some ⟨g,0,none⟩) l.length cap) (yn a l 0):=by rw[z39];exact h
  clear h
  go_enter Tryz.func61,Tryz.ntmps61
  go_wp2
  go_loopw [1,5] (fun x i wr=>∃k:Nat,k<=l.length/\i= .int .i64 k/\x= .int .i64 (a+3*k)/\OwnA base wr (.slice (some ⟨g,0,none⟩) l.length cap) (yn a l k)/\w.grownBy wr (some g)) (fun _ i _=>l.length -(intOf i).toNat)
  case atStart=>exact⟨0,aab _,rfl,by simp,h0,World.grownBy.refl _ _⟩
  case round=>
   obtain⟨k,hk,rfl,rfl,ho,hg⟩:=hrel;clear h0;have Fe:=QY a l k hk
   by_cases Hd:k<l.length
   ·have Fu:k<(yn a l k).length :=o_
    have Hk:wr.ownsRow base 41 3 (.slice (some ⟨g,0,none⟩) l.length cap) l.length ((yn a l k).flatMap Ac.cs):=by rw[<-Fe];have:=ho;unfold OwnA at this;rw[Fe] at this⊢;exact this
    have x0:=Hk.cellAt (k*3+0) o_;have x1:=Hk.cellAt (k*3+1) o_;have x2:=Hk.cellAt (k*3+2) o_;rw[qi Ac.cs 3 (fun _=>rfl) _ k _ Fu o_] at x0 x1 x2;generalize hq:(yn a l k)[k]=q at*;simp only[Ac.cs,aaf,aag,aah] at x0 x1 x2
    have f0:=Hk.frozenAt (k*3);have f1:=Hk.frozenAt (k*3+1);have f2:=Hk.frozenAt (k*3+2);have s1:=(Hk.stored (k*3+0) (.int .i64 (a+3*k))).1;have s2:=(s1.stored (k*3+1) (.int .i64 (a+3*k+1))).1;have s3:=(s2.stored (k*3+2) (.int .i64 (a+3*k+2))).1
    rw[Qy _ k 0 _ ⟨a+3*k,q.a,q.b⟩ Fu o_ (by rw[hq];rfl),
     Qy _ k 1 _ ⟨a+3*k,a+3*k+1,q.b⟩ (by rw[aar];exact Fu) o_ (by rw[aaz];rfl),
     Qy _ k 2 _ ⟨a+3*k,a+3*k+1,a+3*k+2⟩ (by rw[aar,aar];exact Fu) o_ (by rw[aaz];rfl),
     List.set_set,List.set_set,<-z3e a l k Hd,aaf] at s3
    have NM:=QY a l (k+1) Hd;have HS:Hid (OwnA base (((wr.setCell ⟨g,k*3,none⟩ (.int .i64 (a+3*k))).setCell ⟨g,k*3+1,none⟩ (.int .i64 (a+3*k+1))).setCell ⟨g,k*3+2,none⟩ (.int .i64 (a+3*k+2))) (.slice (some ⟨g,0,none⟩) l.length cap) (yn a l (k+1))):=h_ (by unfold OwnA;rw[NM];exact s3);have HG:=h_ (qq (qq (qq hg (k*3) (.int .i64 (a+3*k))) (k*3+1) (.int .i64 (a+3*k+1))) (k*3+2) (.int .i64 (a+3*k+2)));have e2:a+3*(k:Int)+1+1=a+3*(k:Int)+2:=o_
    clear s1 s2 s3 Hk ho hg Fe NM hq Fu;go_wp2
    try rw[e2]
    clear e2;go_roundw
    case rel=>exact⟨k+1,by omega,by go_num,by go_num,HS.out,HG.out⟩
    case measure=>simp[intOf];omega
   ·have Hw:k=l.length:=o_
    subst Hw;rw[z4B] at ho;clear Fe;go_wp2;go_ret
    exact⟨rfl,ho,hg⟩
end Go.Proofs.YtnjcpljhmhdhkaaGreat
