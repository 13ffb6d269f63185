/- part 40 -/
import Derived.Test.YtnjcpljhmhdhkaaGreatEPk36
import Derived.Deep.DeepCutAuto
set_option linter.unusedSimpArgs false
set_option linter.unusedVariables false
set_option maxRecDepth 100000
set_option maxHeartbeats 16000000
namespace Go.Proofs.YtnjcpljhmhdhkaaGreat
open Go.RowKit
def z7I (S:St) (l:List Int) (w:World) (e:Ending) (w':World):Prop:=∃A0 ac0 A1 ac1 A2 ac2 A3 ac3 A4 ac4 A5 ac5 A6 ac6 fs T t,e= .returned (.tuple #[.agg #[.slice A0 S.D.fn.length ac0,.slice A1 S.D.fl.length ac1,.slice A2 S.D.nn.length ac2,.slice A3 S.D.nl.length ac3,.slice A4 S.D.ss.length ac4,.slice A5 S.cs.length ac5,.slice A6 S.ds.length ac6,.int .i64 S.fund],.slice T l.length t])/\
 OwnSt w.heap.size w' (.slice A0 S.D.fn.length ac0) (.slice A1 S.D.fl.length ac1) (.slice A2 S.D.nn.length ac2) (.slice A3 S.D.nl.length ac3) (.slice A4 S.D.ss.length ac4) (.slice A5 S.cs.length ac5) (.slice A6 S.ds.length ac6) S fs/\OwnI w.heap.size w' (.slice T l.length t) l/\
 (∀k,(Value.slice T l.length t).ownBlock =some k->¬jY (.slice A0 S.D.fn.length ac0) (.slice A1 S.D.fl.length ac1) (.slice A2 S.D.nn.length ac2) (.slice A3 S.D.nl.length ac3) (.slice A4 S.D.ss.length ac4) (.slice A5 S.cs.length ac5) (.slice A6 S.ds.length ac6) fs k)/\Below w.heap.size w w'
structure RunAt (w:World) (v0 v1 v2 v3 v4 v5 v6:Value) (m:Int) (Z:Nat) (u:Value) (l:List Int) (a b c d e f g:Value) (S:St) (fs:List SF) (wr:World):Prop where
 own:OwnSt (w.heap.size+1+1) wr a b c d e f g S fs
 num:OwnI (w.heap.size+1+1) wr u l
 ap:∀k,u.ownBlock=some k->¬jY a b c d e f g fs k
 X:Blk wr w.heap.size 34 #[v0,v1,v2,v3,v4,v5,v6,.int .i64 m]
 R:Blk wr (w.heap.size+1) 34 z8_
 Z_:Blk wr Z 34 #[a,b,c,d,e,f,g,.int .i64 S.fund]
 zl:w.heap.size+1<Z
 zs:¬jY a b c d e f g fs Z
 zn:∀k,u.ownBlock=some k->¬k=Z
 blw:Below w.heap.size w wr
section
variable {w wr wr':World} {v0 v1 v2 v3 v4 v5 v6 a b c d e f g a' b' c' d' e' f' g' u u':Value} {m z:Int} {Z:Nat} {l:List Int} {S S':St} {fs fs':List SF}
theorem RunAt.below (h:RunAt w v0 v1 v2 v3 v4 v5 v6 m Z u l a b c d e f g S fs wr) (hb:Below wr.heap.size wr wr'):RunAt w v0 v1 v2 v3 v4 v5 v6 m Z u l a b c d e f g S fs wr':=
 ⟨h.own.kept hb,h.num.kept hb,h.ap,h.X.below hb h.X.lt,h.R.below hb h.R.lt,h.Z_.below hb h.Z_.lt,h.zl,h.zs,h.zn,h.blw.trans (hb.mono h.blw.size)⟩
theorem RunAt.start (h:OutSS w v0 v1 v2 v3 v4 v5 v6 m Z a b c d e f g S fs wr):RunAt w v0 v1 v2 v3 v4 v5 v6 m Z (.slice none 0 0) [] a b c d e f g S fs wr:=
 ⟨h.own,OwnI.nil _ _,fun k hk=>(by cases hk),h.X,h.R,h.Z_,h.lt,h.far,fun k hk=>(by cases hk),h.blw⟩
theorem RunAt.next (h:RunAt w v0 v1 v2 v3 v4 v5 v6 m Z u l a b c d e f g S fs wr) (hb:Below wr.heap.size wr wr') {base:Nat} (Hu:wr.heap.size<=base) (ho:OwnSt base wr' a' b' c' d' e' f' g' S' fs'):
  RunAt w v0 v1 v2 v3 v4 v5 v6 m Z u l a' b' c' d' e' f' g' S' fs' ((((((((wr'.setCell ⟨Z,0,none⟩ a').setCell ⟨Z,1,none⟩ b').setCell ⟨Z,2,none⟩ c').setCell ⟨Z,3,none⟩ d').setCell ⟨Z,4,none⟩ e').setCell ⟨Z,5,none⟩ f').setCell ⟨Z,6,none⟩ g').setCell ⟨Z,7,none⟩ (.int .i64 S'.fund)):=by
 have hZ:=h.Z_.lt;have h1:=h.below hb;have hz:=h.zl;have hn:∀k,u.ownBlock=some k->w.heap.size+1+1<=k/\k<wr.heap.size:=h.num.lt
 have mz:∀(W:World) (j:Nat) (x:Value),OwnI (w.heap.size+1+1) W u l->OwnI (w.heap.size+1+1) (W.setCell ⟨Z,j,none⟩ x) u l:=fun W j x hW=>
  World.ownsRow.kept hW (qS W ⟨Z,j,none⟩ x) (.inr (fun e=>h.zn Z e rfl))
 refine⟨(far8 ho o_ _ _ _ _ _ _ _ _).mono (by have:=h.blw.size;have:=h.R.lt;omega),mz _ _ _ (mz _ _ _ (mz _ _ _ (mz _ _ _ (mz _ _ _ (mz _ _ _ (mz _ _ _ (mz _ _ _ h1.num))))))),fun k hk gG=>by have:=(hn k hk).2;have:=(ho.lt k gG).1;omega,Jf h1.X o_,Jf h1.R o_,blk8 h1.Z_,h.zl,fun hk=>by have:=(ho.lt _ hk).1;omega,h.zn,bel8 h1.blw o_ _ _ _ _ _ _ _ _⟩
theorem RunAt.app (h:RunAt w v0 v1 v2 v3 v4 v5 v6 m Z u l a b c d e f g S fs wr) (ho:OwnI (w.heap.size+1+1) wr' u' (l++[z])) (hg:wr.grownBy wr' u.ownBlock) (hw:u'.ownBlock=u.ownBlock∨u'.ownBlock=some wr.heap.size):
  RunAt w v0 v1 v2 v3 v4 v5 v6 m Z u' (l++[z]) a b c d e f g S fs wr':=by
 have Hf:∀k,u.ownBlock=some k->w.heap.size+1+1<=k/\k<wr.heap.size:=h.num.lt
 have bz:∀k,u'.ownBlock=some k->¬jY a b c d e f g fs k:=fun k hk gG=>by
  rcases hw with hw|hw
  ·exact h.ap k (hw▸hk) gG
  ·rw[hw] at hk;injection hk with hk;have:=(h.own.lt k gG).2;omega
 have ht:=Turns.ofGrown (S:=fun k=>u.ownBlock=some k) hg (fun k hk=>hk);refine⟨h.own.turned ht (fun k hk gG=>h.ap k gG hk),ho,bz,h.X.turned ht (fun hk=>by have:=(Hf _ hk).1;omega),h.R.turned ht (fun hk=>by have:=(Hf _ hk).1;omega),h.Z_.turned ht (fun hk=>h.zn _ hk rfl),h.zl,h.zs,fun k hk=>?_,h.blw.trans (ht.below (fun k hk=>by have:=(Hf k hk).1;omega) h.blw.size)⟩
 rcases hw with hw|hw
 ·exact h.zn k (hw▸hk)
 ·rw[hw] at hk;injection hk with hk;have:=h.Z_.lt;omega
theorem RunAt.fin (h:RunAt w v0 v1 v2 v3 v4 v5 v6 m Z u l a b c d e f g S fs wr) (u0 u1 u2 u3 u4 u5 u6 u7:Value):
  OwnSt w.heap.size ((((((((wr.setCell ⟨w.heap.size+1,0,none⟩ u0).setCell ⟨w.heap.size+1,1,none⟩ u1).setCell ⟨w.heap.size+1,2,none⟩ u2).setCell ⟨w.heap.size+1,3,none⟩ u3).setCell ⟨w.heap.size+1,4,none⟩ u4).setCell ⟨w.heap.size+1,5,none⟩ u5).setCell ⟨w.heap.size+1,6,none⟩ u6).setCell ⟨w.heap.size+1,7,none⟩ u7) a b c d e f g S fs/\
  OwnI w.heap.size ((((((((wr.setCell ⟨w.heap.size+1,0,none⟩ u0).setCell ⟨w.heap.size+1,1,none⟩ u1).setCell ⟨w.heap.size+1,2,none⟩ u2).setCell ⟨w.heap.size+1,3,none⟩ u3).setCell ⟨w.heap.size+1,4,none⟩ u4).setCell ⟨w.heap.size+1,5,none⟩ u5).setCell ⟨w.heap.size+1,6,none⟩ u6).setCell ⟨w.heap.size+1,7,none⟩ u7) u l/\
  Below w.heap.size w ((((((((wr.setCell ⟨w.heap.size+1,0,none⟩ u0).setCell ⟨w.heap.size+1,1,none⟩ u1).setCell ⟨w.heap.size+1,2,none⟩ u2).setCell ⟨w.heap.size+1,3,none⟩ u3).setCell ⟨w.heap.size+1,4,none⟩ u4).setCell ⟨w.heap.size+1,5,none⟩ u5).setCell ⟨w.heap.size+1,6,none⟩ u6).setCell ⟨w.heap.size+1,7,none⟩ u7):=by
 have hn:∀(W:World) (j:Nat) (x:Value),OwnI (w.heap.size+1+1) W u l->OwnI (w.heap.size+1+1) (W.setCell ⟨w.heap.size+1,j,none⟩ x) u l:=fun W j x hW=>
  OwnI.far hW (qS W ⟨w.heap.size+1,j,none⟩ x) (fun k hk=>by injection hk with hk;show k<_;have:k=w.heap.size+1:=hk.symm;omega)
 exact⟨(far8 h.own (aaB _) _ _ _ _ _ _ _ _).mono o_,OwnI.mono (hn _ _ _ (hn _ _ _ (hn _ _ _ (hn _ _ _ (hn _ _ _ (hn _ _ _ (hn _ _ _ (hn _ _ _ h.num)))))))) o_,bel8 h.blw (Nat.le_succ _) _ _ _ _ _ _ _ _⟩
end
theorem z1t (v0 v1 v2 v3 v4 v5 v6 va:Value) (S:St) (l:List Ac) (w:World) (h:RSt w v0 v1 v2 v3 v4 v5 v6 S) (hle:StLe S) (hA:RA w va l):
  Calls Tryz.prog 49 #[.agg #[v0,v1,v2,v3,v4,v5,v6,.int .i64 S.fund],va] w (z7I (ZG S l) (ZR S l) w):=by
 obtain⟨r,hr⟩:∃x,zd S=x:=⟨_,rfl⟩;obtain⟨RS_,hRS⟩:∃x,ZG S l=x:=⟨_,rfl⟩;obtain⟨RN,hRN⟩:∃x,ZR S l=x:=⟨_,rfl⟩;rw[hRS,hRN];have nO:=h_ hRS;have HRN:=h_ hRN;clear hRS hRN;obtain⟨A,ca,rfl,rS,Yk,fr⟩:=hA.form;unfold maxLen at Yk;have HR:=h_ hr;have HH:=h_ h;have gf:=h_ hle;have Fg:=h_ fr;clear hr h hle fr hA
 go_enter Tryz.func49,Tryz.ntmps49
 go_wp2_with fail
 refine(qw _ _ _ _ _ _ _ S _ (HH.out.below bel_) gf.out).mono ?_
 rintro e w1 ⟨A0,a0,A1,a1,A2,a2,A3,a3,A4,a4,A5,a5,A6,a6,fs,rfl,Hi,h9⟩;have Ga:Blk w1 w.heap.size 34 #[v0,v1,v2,v3,v4,v5,v6,.int .i64 S.fund]:=Blk.below ((Blk.newAt rfl).alloc _) h9 sz_;have Hx:Blk w1 (w.heap.size+1) 34 z8_:=Blk.below (Blk.newAt (by simp)) h9 sz_;have h8:Below w.heap.size w w1:=bel_
 have GQ:OwnSt (w.heap.size+1+1) w1 (.slice A0 S.D.fn.length a0) (.slice A1 S.D.fl.length a1) (.slice A2 S.D.nn.length a2) (.slice A3 S.D.nl.length a3) (.slice A4 S.D.ss.length a4) (.slice A5 S.cs.length a5) (.slice A6 S.ds.length a6) S fs:=by simpa using Hi
 have gU:=h_ (OutSS.start GQ (aaa _) Ga Hx h8);obtain⟨x_0,x_1,x_2,x_3,x_4,x_5,x_6,x_7⟩:=Ga.c8;have Uc:=Ga.lt;clear Hi h9 GQ
 go_wp2_with fail
 obtain⟨w2,gR⟩:∃v,v=w1.alloc (.cells #[.slice A0 S.D.fn.length a0,.slice A1 S.D.fl.length a1,.slice A2 S.D.nn.length a2,.slice A3 S.D.nl.length a3,.slice A4 S.D.ss.length a4,.slice A5 S.cs.length a5,.slice A6 S.ds.length a6,.int .i64 S.fund] 34):=⟨_,rfl⟩;rw[<-gR] at gU⊢;generalize w1.heap.size=Z at*;have H2:=h_ (RunAt.start gU.out);clear gR Ga Hx h8 x_0 x_1 x_2 x_3 x_4 x_5 x_6 x_7 Uc gU;refine(qb _ _ _ _ _ _ _ S r _ (HH.out.below H2.out.blw) HR).mono ?_
 rintro e w3 ⟨rfl,He⟩;have H3:=h_ (H2.out.below He);clear He H2
 have hq:(r=true/\l.length<=40)∨(r=false∨(((l.length:Int)>40)=True/\(40:Int)<(l.length:Int)/\r=true)):=by
  cases r
  ·exact .inr (.inl rfl)
  ·by_cases CA:l.length<=40
   ·exact .inl ⟨rfl,CA⟩
   ·exact .inr (.inr ⟨by simp;omega,by omega,rfl⟩)
 rcases hq with ⟨rfl,CA⟩|hq
 ·have Cj:runB S l=true:=by unfold runB;rw[HR.out];simpa using CA
  have e1:Hid (runS S l l.length=RS_):=h_ (by rw[<-nO.out];unfold ZG;rw[Cj];rfl);have e2:Hid (runN S l l.length=RN):=h_ (by rw[<-HRN.out];unfold ZR;rw[Cj];rfl);clear nO HRN Cj;have BW:((l.length:Int)>40)=False:=by simp;omega
  obtain⟨r0,hr0⟩:∃x:List Int,x=[]:=⟨_,rfl⟩;go_wp2
  go_loopw [7,25] (fun s7 x wr=>∃j:Nat,j<=l.length/\x= .int .i64 j/\∃(T:Option Addr) (t:Nat) (B0:Option Addr) (b0:Nat) (B1:Option Addr) (b1:Nat) (B2:Option Addr) (b2:Nat) (B3:Option Addr) (b3:Nat) (B4:Option Addr) (b4:Nat) (B5:Option Addr) (b5:Nat) (B6:Option Addr) (b6:Nat) (gs:List SF),s7= .slice T (runN S l j).length t/\RunAt w v0 v1 v2 v3 v4 v5 v6 S.fund Z (.slice T (runN S l j).length t) (runN S l j) (.slice B0 (runS S l j).D.fn.length b0) (.slice B1 (runS S l j).D.fl.length b1) (.slice B2 (runS S l j).D.nn.length b2) (.slice B3 (runS S l j).D.nl.length b3) (.slice B4 (runS S l j).D.ss.length b4) (.slice B5 (runS S l j).cs.length b5) (.slice B6 (runS S l j).ds.length b6) (runS S l j) gs wr) (fun _ x _=>l.length -(intOf x).toNat)
  case atStart=>exact⟨0,aab _,rfl,_,_,_,_,_,_,_,_,_,_,_,_,_,_,_,_,_,rfl,H3.out⟩
  case round=>
   clear H3 r0 hr0;obtain⟨j,hj,rfl,T,t,B0,b0,B1,b1,B2,b2,B3,b3,B4,b4,B5,b5,B6,b6,gs,rfl,GC⟩:=hrel;have H3:=h_ GC;clear GC;have mI:Hid ((runN S l j).length =j):=h_ (JC S l j)
   by_cases Hf:j<l.length
   ·have Hp:(j:Int)<(l.length:Int):=o_
    have ij1:(0:Int)<=(j:Int):=o_
    obtain⟨ba,oa,rfl,GZ,hac⟩:=Fg.out o_;obtain⟨k0,k1,k2⟩:=hac j Hf;have Up:acI l j=l[j]:=by unfold acI;rw[aa6,aac Hf];rfl
    have HSS:Hid (runS S l (j+1)=doS (runS S l j) l[j].k l[j].a l[j].b):=h_ (by rw[<-Up];rfl);have BP:Hid (runN S l (j+1)=runN S l j++[doN (runS S l j) l[j].k l[j].a l[j].b]):=h_ (by rw[<-Up];rfl);have HLJ:Hid (StLe (runS S l j)):=h_ (z3Q (z0A HR.out j));have rc:=H3.out.blw;have q0:=(rc.cell (p:=⟨ba,oa+j*3,none⟩) GZ).trans k0;have q1:=(rc.cell (p:=⟨ba,oa+j*3+1,none⟩) GZ).trans k1;have q2:=(rc.cell (p:=⟨ba,oa+j*3+2,none⟩) GZ).trans k2;generalize hE1:runS S l j=S1 at*;generalize Ze:runN S l j=G at*;generalize l[j].k =ak at*;generalize l[j].a =aa at*;generalize l[j].b =ab at*;clear hE1 Ze k0 k1 k2 hac Up rc;have hZ:=H3.out.Z_;obtain⟨z_0,z_1,z_2,z_3,z_4,z_5,z_6,z_7⟩:=hZ.c8;have Gu:=hZ.lt;clear hZ;obtain⟨E,hE⟩:∃E,doS S1 ak aa ab=E:=⟨_,rfl⟩;obtain⟨nn,Bw⟩:∃n,doN S1 ak aa ab=n:=⟨_,rfl⟩;rw[hE] at HSS;rw[Bw] at BP;have HC:=fun (v:World) (hv:Below wr.heap.size wr v)=>z4V (.slice B0 S1.D.fn.length b0) (.slice B1 S1.D.fl.length b1) (.slice B2 S1.D.nn.length b2) (.slice B3 S1.D.nl.length b3) (.slice B4 S1.D.ss.length b4) (.slice B5 S1.cs.length b5) (.slice B6 S1.ds.length b6) S1 ak aa ab v (H3.out.own.reads.below hv) HLJ.out
    rw[hE,Bw] at HC;have HC:=h_ HC;clear hE Bw
    go_wp2_with fail
    refine(HC.out _ bel_).mono ?_
    rintro e w4 ⟨C0,c0,C1,c1,C2,c2,C3,c3,C4,c4,C5,c5,C6,c6,fs2,rfl,gH,Hw⟩;have hs4:=Hw.size;simp at hs4
    have H0:Below wr.heap.size wr w4:=bel_
    have H4:=h_ (RunAt.next H3.out H0 (Nat.le_succ _) (show OwnSt (wr.heap.size+1) _ _ _ _ _ _ _ _ _ _ from(by simpa using gH)));have hZl5:Z<w4.heap.size:=o_
    have hZw:=(H3.out.below H0).Z_;obtain⟨y_0,y_1,y_2,y_3,y_4,y_5,y_6,y_7,y_f0,y_f1,y_f2,y_f3,y_f4,y_f5,y_f6,y_f7⟩:=hZw.b8;have H5:=H4.out.below ((aaj _ _).alloc (aaa _) (.cells #[.slice C0 E.D.fn.length c0,.slice C1 E.D.fl.length c1,.slice C2 E.D.nn.length c2,.slice C3 E.D.nl.length c3,.slice C4 E.D.ss.length c4,.slice C5 E.cs.length c5,.slice C6 E.ds.length c6,.int .i64 E.fund] 34));clear hZw gH Hw H3 H4 z_0 z_1 z_2 z_3 z_4 z_5 z_6 z_7 q0 q1 q2
    go_upto_region 10 with (fail)
    obtain⟨w5,fe⟩:∃v,v=((((((((w4.setCell ⟨Z,0,none⟩ (.slice C0 E.D.fn.length c0)).setCell ⟨Z,1,none⟩ (.slice C1 E.D.fl.length c1)).setCell ⟨Z,2,none⟩ (.slice C2 E.D.nn.length c2)).setCell ⟨Z,3,none⟩ (.slice C3 E.D.nl.length c3)).setCell ⟨Z,4,none⟩ (.slice C4 E.D.ss.length c4)).setCell ⟨Z,5,none⟩ (.slice C5 E.cs.length c5)).setCell ⟨Z,6,none⟩ (.slice C6 E.ds.length c6)).setCell ⟨Z,7,none⟩ (.int .i64 E.fund)).alloc (.cells #[.slice C0 E.D.fn.length c0,.slice C1 E.D.fl.length c1,.slice C2 E.D.nn.length c2,.slice C3 E.D.nl.length c3,.slice C4 E.D.ss.length c4,.slice C5 E.cs.length c5,.slice C6 E.ds.length c6,.int .i64 E.fund] 34):=⟨_,rfl⟩;rw[<-fe] at H5⊢;clear fe y_0 y_1 y_2 y_3 y_4 y_5 y_6 y_7 y_f0 y_f1 y_f2 y_f3 y_f4 y_f5 y_f6 y_f7 H0 hZl5 hs4;have Rk:=H5.num;have hrse:=H5.R.lt;have H5:=h_ H5
    go_wp2_with (at_builtin;refine qH rfl _ _ rfl (w.heap.size+1+1) _ G nn rfl w5.heap.size rfl (jA rfl) (OwnI.alloc Rk _) (by have:=mI.out;omega) (by simp;omega) ?_)
    intro v2 w6 G2 GX F4;obtain⟨A6',c6',rfl⟩:=OwnI.form G2;have H6:=h_ (RunAt.app (H5.out.below ((aaj _ _).alloc (aaa _) (.cells #[.int .i64 nn] 3))) G2 GX (by simpa using F4));clear Rk G2 GX F4 H5;go_wp2;go_roundw
    case rel=>exact⟨j+1,by omega,by go_num,_,_,_,_,_,_,_,_,_,_,_,_,_,_,_,_,fs2,by rw[BP.out],by rw[BP.out,HSS.out];exact H6.out⟩
    case measure=>simp[intOf];omega
   ·have GP:j=l.length:=o_
    subst GP;have Hp:¬(l.length:Int)<(l.length:Int):=o_
    rw[e1.out,e2.out] at H3;rw[e2.out];clear e1 e2 mI;obtain⟨_,_,_,_,hR,hZ,uf,_,_,_⟩:=H3.out;obtain⟨z_0,z_1,z_2,z_3,z_4,z_5,z_6,z_7⟩:=hZ.c8;obtain⟨r_0,r_1,r_2,r_3,r_4,r_5,r_6,r_7,r_f0,r_f1,r_f2,r_f3,r_f4,r_f5,r_f6,r_f7⟩:=hR.b8;have Gw:=hR.lt;have HF:=h_ (H3.out.fin);have RJ:=h_ H3.out.ap;clear hR hZ H3;go_wp2;exact bodyPost_ret (v:= .tuple #[.agg #[.slice B0 RS_.D.fn.length b0,.slice B1 RS_.D.fl.length b1,.slice B2 RS_.D.nn.length b2,.slice B3 RS_.D.nl.length b3,.slice B4 RS_.D.ss.length b4,.slice B5 RS_.cs.length b5,.slice B6 RS_.ds.length b6,.int .i64 RS_.fund],.slice T RN.length t]) (by simp[results,Tryz.results49,go_sem,r_0,r_1,r_2,r_3,r_4,r_5,r_6,r_7,Gw]) rfl ⟨_,_,_,_,_,_,_,_,_,_,_,_,_,_,gs,_,_,rfl,(HF.out _ _ _ _ _ _ _ _).1,(HF.out _ _ _ _ _ _ _ _).2.1,RJ.out,(HF.out _ _ _ _ _ _ _ _).2.2⟩
 ·have Cj:runB S l=false:=by
   unfold runB;rw[HR.out]
   rcases hq with rfl|⟨_,hn,rfl⟩
   ·rfl
   ·simp;omega
  obtain rfl:S=RS_:=by rw[<-nO.out];unfold ZG;rw[Cj];rfl
  obtain rfl: []=RN:=by rw[<-HRN.out];unfold ZR;rw[Cj];rfl
  clear nO HRN Cj
  rcases hq with rfl|⟨BW,CT,rfl⟩
  all_goals
   obtain⟨_,_,_,_,hR,hZ,uf,_,_,_⟩:=H3.out;obtain⟨z_0,z_1,z_2,z_3,z_4,z_5,z_6,z_7⟩:=hZ.c8;obtain⟨r_0,r_1,r_2,r_3,r_4,r_5,r_6,r_7,r_f0,r_f1,r_f2,r_f3,r_f4,r_f5,r_f6,r_f7⟩:=hR.b8;have Gw:=hR.lt;have HF:=h_ (H3.out.fin);have RJ:=h_ H3.out.ap;clear hR hZ H3;go_wp2;exact bodyPost_ret (v:= .tuple #[.agg #[.slice A0 S.D.fn.length a0,.slice A1 S.D.fl.length a1,.slice A2 S.D.nn.length a2,.slice A3 S.D.nl.length a3,.slice A4 S.D.ss.length a4,.slice A5 S.cs.length a5,.slice A6 S.ds.length a6,.int .i64 S.fund],.slice none 0 0]) (by simp[results,Tryz.results49,go_sem,r_0,r_1,r_2,r_3,r_4,r_5,r_6,r_7,Gw]) rfl ⟨_,_,_,_,_,_,_,_,_,_,_,_,_,_,fs,_,_,rfl,(HF.out _ _ _ _ _ _ _ _).1,(HF.out _ _ _ _ _ _ _ _).2.1,RJ.out,(HF.out _ _ _ _ _ _ _ _).2.2⟩
end Go.Proofs.YtnjcpljhmhdhkaaGreat
