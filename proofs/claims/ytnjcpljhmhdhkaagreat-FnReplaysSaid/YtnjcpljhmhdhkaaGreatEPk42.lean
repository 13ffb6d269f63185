/- part 42 -/
import Derived.Test.YtnjcpljhmhdhkaaGreatEPk40
set_option linter.unusedSimpArgs false
set_option linter.unusedVariables false
set_option maxRecDepth 100000
set_option maxHeartbeats 8000000
namespace Go.Proofs.YtnjcpljhmhdhkaaGreat
open Go.RowKit
theorem z9s (v u:Value) (zs ys:List Int) (w:World) (hv:RI w v zs) (hu:RI w u ys):
  CB_ 124 #[v,u] w (.bool (decide (zs=ys))):=by
 obtain⟨A,c,rfl,hc,hm,hcell⟩:=hv.form;obtain⟨A',c',rfl,Yn,rY,Fi⟩:=hu.form;unfold maxLen at hm rY;clear hv hu
 by_cases Hj:zs.length=ys.length
 ·have e1:((zs.length:Int) != (ys.length:Int))=false:=by simp[Hj]
  have GV:=h_ Hj;clear Hj
  go_enter Tryz.func124,Tryz.ntmps124
  go_wp2
  go_loopw [13] (fun i wr=>∃k:Nat,k<=zs.length/\i= .int .i64 k/\Hid (zs.take k=ys.take k)/\Below w.heap.size w wr) (fun i _=>zs.length -(intOf i).toNat)
  case atStart=>exact⟨0,aab _,rfl,h_ (by simp),aaj _ _⟩
  case round=>
   obtain⟨k,hk,rfl,HT,Hb⟩:=hrel
   by_cases Hf:k<zs.length
   ·obtain⟨b,off,rfl,hb,Hy⟩:=hcell o_
    have Fj:k<ys.length:=by rw[<-GV.out];exact Hf
    obtain⟨b',off',rfl,gS,FY⟩:=Fi o_;have G8:=(Hb.cell (p:=⟨b,off+k,none⟩) hb).trans (Hy k Hf);have hck':=(Hb.cell (p:=⟨b',off'+k,none⟩) gS).trans (FY k Fj);have ct:(0:Int)<=(k:Int):=o_
    have Cq:(k:Int)<(zs.length:Int):=o_
    have Mq:(k:Int)<(ys.length:Int):=o_
    clear Hy hcell FY Fi;have HX:=h_ (show zs.getD k 0=zs[k] by simp[List.getD,aac Hf]);have HY:=h_ (show ys.getD k 0=ys[k] by simp[List.getD,aac Fj]);generalize zs.getD k 0=x at*;generalize ys.getD k 0=y at*
    by_cases fu:x=y
    ·have e2:(x != y)=false:=by simp[fu]
     have HE:=h_ fu;clear fu;go_wp2
     go_quiet (fail)
     go_wp2;go_roundw
     case rel=>exact⟨k+1,by omega,by go_num,h_ (vj HT.out Hf Fj (by rw[<-HX.out,<-HY.out,HE.out])),by exact bel_⟩
     case measure=>simp[intOf];omega
    ·have e2:(x != y)=true:=by simp[fu]
     have HE:=h_ fu;clear fu;go_wp2
     go_quiet (fail)
     go_wp2;go_ret
     refine⟨z8 ?_,by exact bel_⟩
     symm
     rw[aaJ];intro Fz;exact HE.out (by rw[HX.out,HY.out];simp[Fz])
   ·have gi:zs.length<=k:=o_
    have m7:zs=ys:=by
     have h:=HT.out;rw[aaK gi,aaK (by rw[<-GV.out];exact gi)] at h;exact h
    have HE:=h_ m7;clear m7 hcell Fi;go_wp2;go_ret
    exact⟨z8 (by symm;simpa using HE.out),Hb⟩
 ·have e1:((zs.length:Int) != (ys.length:Int))=true:=by simp;omega
  have HE:Hid (¬zs=ys):=h_ (fun h=>Hj (by rw[h]));clear Hj
  go_enter Tryz.func124,Tryz.ntmps124
  go_wp2;go_ret
  exact⟨z8 (by symm;simpa using HE.out),aaj _ _⟩
noncomputable def repB (S:St) (l:List Ac) (zs:List Int):Bool:=runB S l&&decide (ZR S l=zs)
theorem z9u {S:St} {l:List Ac} {zs:List Int} (h:runB S l=false):repB S l zs=false:=by unfold repB;rw[h];rfl
theorem z9t {S:St} {l:List Ac} {zs:List Int} (h:runB S l=true):repB S l zs=decide (ZR S l=zs):=by unfold repB;rw[h];rfl
theorem z9r (v0 v1 v2 v3 v4 v5 v6 va vb:Value) (S:St) (l:List Ac) (zs:List Int) (x:Bool) (w:World) (h:RSt w v0 v1 v2 v3 v4 v5 v6 S) (hle:StLe S) (hA:RA w va l) (hB:RI w vb zs) (hx:Hid (repB S l zs=x)):
  CB_ 50 #[.agg #[v0,v1,v2,v3,v4,v5,v6,.int .i64 S.fund],va,vb] w (.bool x):=by
 obtain⟨r,hr⟩:∃x,zd S=x:=⟨_,rfl⟩;have hA':=hA;obtain⟨A,ca,rfl,rS,Yk,fr⟩:=hA'.form;unfold maxLen at Yk;have HR:=h_ hr;have HH:=h_ h;have gf:=h_ hle;clear hr h hle fr hA'
 go_enter Tryz.func50,Tryz.ntmps50
 go_wp2_with fail
 refine(qb _ _ _ _ _ _ _ S r _ (HH.out.below bel_) HR).mono ?_
 rintro e w1 ⟨rfl,h9⟩;have Ga:Blk w1 w.heap.size 34 #[v0,v1,v2,v3,v4,v5,v6,.int .i64 S.fund]:=Blk.below (Blk.newAt rfl) h9 sz_;have h8:Below w.heap.size w w1:=bel_
 clear h9;obtain⟨x_0,x_1,x_2,x_3,x_4,x_5,x_6,x_7⟩:=Ga.c8;clear Ga
 cases r
 ·obtain rfl:false=x:=by rw[<-hx.out];exact(z9u (by unfold runB;rw[HR.out];rfl)).symm
  go_wp2;go_ret
  exact⟨rfl,h8⟩
 ·by_cases CA:l.length<=40
  ·have Cj:runB S l=true:=by unfold runB;rw[HR.out];simpa using CA
   have HX:=h_ (show decide (ZR S l=zs)=x by rw[<-hx.out];exact(z9t Cj).symm);clear Cj hx
   go_wp2_with fail
   refine(z1t _ _ _ _ _ _ _ _ S l _ (HH.out.below h8) gf.out (hA.below h8)).mono ?_
   rintro e w2 ⟨A0,a0,A1,a1,A2,a2,A3,a3,A4,a4,A5,a5,A6,a6,fs,T,t,rfl,Hk,hn,_,Hd⟩;have Ha:=h8.trans (Hd.mono h8.size);have HI:=h_ (OwnI.reads hn);have HB:=h_ (hB.below Ha);obtain⟨E,hE⟩:∃q,q=ZG S l:=⟨_,rfl⟩;obtain⟨ns,Bt⟩:∃q,q=ZR S l:=⟨_,rfl⟩;rw[<-hE,<-Bt];rw[<-Bt] at HI HX;clear hE Bt Hk hn Hd x_0 x_1 x_2 x_3 x_4 x_5 x_6 x_7
   go_wp2_with fail
   refine(z9s _ _ ns zs _ (HI.out.below ((aaj _ _).alloc (aaa _) _)) (HB.out.below ((aaj _ _).alloc (aaa _) _))).mono ?_
   rw[HX.out];rintro e w3 ⟨rfl,He⟩;have Hc:Below w.heap.size w w3:=(Ha.alloc Ha.size _).trans (He.mono (Ha.alloc Ha.size _).size);clear He Ha h8;go_wp2;go_ret
   exact⟨rfl,Hc⟩
  ·have CT:(40:Int)<(l.length:Int):=o_
   obtain rfl:false=x:=by rw[<-hx.out];exact(z9u (by unfold runB;rw[HR.out];simp;omega)).symm
   go_wp2;go_ret
   exact⟨rfl,h8⟩
end Go.Proofs.YtnjcpljhmhdhkaaGreat
