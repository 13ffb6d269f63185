/- part 36 -/
import Derived.Test.YtnjcpljhmhdhkaaGreatTPk34
import Derived.Test.YtnjcpljhmhdhkaaGreatTPk35
import Derived.Deep.RegionHeld3
import Derived.ChangeSlices
set_option linter.unusedSimpArgs false
set_option linter.unusedVariables false
set_option maxRecDepth 100000
set_option maxHeartbeats 16000000
namespace Go.Proofs.YtnjcpljhmhdhkaaGreat
open Go.RowKit
theorem z0t (S:St) (k a b:Int):(doS S k a b).D.fn =S.D.fn/\(doS S k a b).D.fl =S.D.fl:=by
 have hu:(qw S.D).fn =S.D.fn/\(qw S.D).fl =S.D.fl:=by
  unfold qw z07
  split<;>exact⟨rfl,rfl⟩
 have hd:(qJ S.D k a b).fn =S.D.fn/\(qJ S.D k a b).fl =S.D.fl:=by
  unfold qJ
  split<;>exact⟨rfl,rfl⟩
 unfold doS
 split
 ·split
  ·unfold jk;split
   ·exact hu
   ·exact⟨rfl,rfl⟩
  ·split
   ·unfold colS;split<;>exact⟨rfl,rfl⟩
   ·split
    ·unfold swpS;split<;>exact⟨rfl,rfl⟩
    ·split
     ·unfold stoS;split<;>exact⟨rfl,rfl⟩
     ·split
      ·unfold yc;split<;>exact⟨rfl,rfl⟩
      ·split
       ·exact⟨rfl,rfl⟩
       ·unfold chgS;split
        ·exact hd
        ·exact⟨rfl,rfl⟩
 ·exact⟨rfl,rfl⟩
noncomputable def z0x (S:St) (k a b:Int):Int:=if k<=3/\doN S k a b=1 then 1 else 0
theorem z7H {S:St} {k a b:Int} (Gn:ze S=true) (ha:actB k a b=true):(doS S k a b).fund =S.fund -10*z0x S k a b:=by
 have hk:=(z1J ha).1;have hc:(ze S&&actB k a b)=true:=by rw[Gn,ha];rfl
 unfold z0x doS doN;rw[aao hc,aao hc]
 by_cases h3:k<=3
 ·have h4:¬k=4:=o_
  have h5:¬k=5:=o_
  have h6:¬k=6:=o_
  have h7:¬k=7:=o_
  have h8:¬k=8:=o_
  have h9:¬k=9:=o_
  simp only[aaq h4,aaq h5,aaq h6,aaq h7,aaq h8,aaq h9]
  unfold chgS b01
  cases chgB S k a b<;>simp[h3]
 ·have hn:∀x:Prop,¬(k<=3/\x):=fun x h=>h3 h.1
  simp only[aaq (hn _)]
  have e:S.fund -10*0=S.fund:=o_
  rw[e]
  split
  ·unfold jk;split<;>rfl
  ·split
   ·unfold colS;split<;>rfl
   ·split
    ·unfold swpS;split<;>rfl
    ·split
     ·unfold stoS;split<;>rfl
     ·split
      ·unfold yc;split<;>rfl
      ·split
       ·rfl
       ·omega
theorem z9f (S:St) (k a b:Int):z0x S k a b=0∨z0x S k a b=1:=by
 unfold z0x;split
 ·exact .inr rfl
 ·exact .inl rfl
theorem xR {S:St} (k a b:Int) (h:PlcQ S):PlcQ (doS S k a b):=by
 have none:∀(D:Dr) (cs:List Int) (x:Int),PlcQ ⟨D,cs,[],x⟩:=fun D cs x d hd=>by cases hd
 unfold doS
 split
 ·split
  ·unfold jk;split
   ·exact none _ _ _
   ·exact h
  ·split
   ·exact x4 _ h
   ·split
    ·unfold swpS;split<;>exact h
    ·split
     ·exact x3 _ _ h
     ·split
      ·unfold yc;split
       ·exact fun d hd=>h d ((z8j S.ds _).subset hd)
       ·exact h
      ·split
       ·exact h
       ·unfold chgS;split
        ·exact none _ _ _
        ·exact h
 ·exact h
theorem q6 {S:St} {l:List Ac} (h:PlcQ S) (Gn:ze S=true):∀j,PlcQ (runS S l j)
 |0=>h
 |j+1=>xR _ _ _ (q6 h Gn j)
theorem z6f {S:St} (h:ze S=true) (hq:PlcQ S) {d:Dp} (hd:d∈S.ds):1<=d.k/\d.k<=qF S.D.nn S.D.nl/\d.k<=40/\∃f:Nat,fwnN S.D.nn S.D.nl d.k=f/\numN S.D.nn S.D.nl f=d.k:=by
 obtain⟨_,h2,_,_,h5,h6⟩:=jp.1 h;have hb:=zc.1 ((z2t.1 h2).2.1 d hd).1;have hp:=h6 d hd;have hp4:=(z6g S.D.nn S.D.nl).2
 have hw:zf S.D.nn S.D.nl=true:=by
  rcases h5 with h5|h5
  ·rw[abx h5] at hd;cases hd
  ·exact h5
 have h7:=hq d hd;have h8:=Xd hw;exact⟨hb.1,hp,by omega,z8Z hb.1 o_⟩
theorem XF {D:Dr} (h:okD D=true):k5 D=⟨D.fn,D.fl,D.fn,D.fl,[]⟩:=by unfold k5;rw[aao h]
theorem Xv (v u:Value) (zs:List Int) (w:World) (hv:RI w v zs) (hu:RI w u zs):
  CB_ 18 #[v,u] w (.bool true):=by
 obtain⟨A,c,rfl,hc,hm,hcell⟩:=hv.form;obtain⟨A',c',rfl,R8,R9,cE⟩:=hu.form;unfold maxLen at hm R9;clear hv hu
 go_enter Tryz.func18,Tryz.ntmps18
 go_wp2
 go_loopw [5] (fun i wr=>∃k:Nat,k<=zs.length/\i= .int .i64 k/\Below w.heap.size w wr) (fun i _=>zs.length -(intOf i).toNat)
 case atStart=>exact⟨0,aab _,rfl,aaj _ _⟩
 case round=>
  obtain⟨k,hk,rfl,Hd⟩:=hrel
  by_cases Hf:k<zs.length
  ·obtain⟨b,off,rfl,hb,Hz⟩:=hcell o_
   obtain⟨b',off',rfl,gH,Cd⟩:=cE o_;have fM:=(Hd.cell (p:=⟨b,off+k,none⟩) hb).trans (Hz k Hf);have hck':=(Hd.cell (p:=⟨b',off'+k,none⟩) gH).trans (Cd k Hf);have Cz:(0:Int)<=(k:Int):=o_
   have CS:(k:Int)<(zs.length:Int):=o_
   clear Hz hcell Cd cE;generalize zs.getD k 0=x at*;go_wp2
   go_quiet (fail)
   go_wp2;go_roundw
   case rel=>exact⟨k+1,by omega,by go_num,by exact bel_⟩
   case measure=>simp[intOf];omega
  ·have gn:zs.length<=k:=o_
   have hi:¬(k:Int)<(zs.length:Int):=o_
   go_wp2;go_ret
   exact⟨rfl,Hd⟩
attribute [local go_sem ↓] zr zq zU zT
theorem z2p {k:Int} (h0:0<=k) (h1:k<4):zf (QN k) (Qy k)=true:=by
 have hs:=z2e k;unfold zf;rw[hs,aaR];have hk:k=0∨k=1∨k=2∨k=3:=o_
 rcases hk with rfl|rfl|rfl|rfl<;>decide+kernel
def z72 (Pw:List Pr->List Pr->Prop) (W0:World) (v:Value) (g:Nat) (w:World) (e:Ending) (w':World):Prop:=
 ∃ns ls An cn Al cl,e= .returned (.agg #[.slice An ns.length cn,.slice Al ls.length cl])/\Pw ns ls/\OwnW (w.heap.size+1) w' (.slice An ns.length cn) (.slice Al ls.length cl) ns ls/\zw W0 v g w'/\w.grownBy w' (some g)
theorem XG (W0:World) (v:Value) (zs:List Int) (g:Nat) (w:World) (h:RB W0 v zs) (hle:zs.length<=1048576) (hc:zw W0 v g w):
  Calls Tryz.prog 258 #[.pointer (some ⟨g,0,none⟩)] w (z72 (fun ns ls=>zf ns ls=true) W0 v g w):=by
 have hgl:=hc.lt;have HC:=h_ hc;have GP:=h_ h;clear h hc
 go_enter Tryz.func258,Tryz.ntmps258
 go_wp2
 go_loopw [3] (fun i wr=>∃k:Nat,k<=4/\i= .int .i64 k/\Blk wr w.heap.size 27 #[.slice none 0 0,.slice none 0 0]/\zw W0 v g wr/\w.grownBy wr (some g)) (fun i _=>4 -(intOf i).toNat)
 case atStart=>exact⟨0,by omega,rfl,Blk.newAt rfl,HC.out.alloc _,jf (World.grownBy.refl w (some g)) _⟩
 case round=>
  obtain⟨k,hk,rfl,hR,cJ,fH⟩:=hrel;have Gx:=hR.lt
  by_cases Hf:k<4
  ·go_wp2_with fail
   refine(VH W0 v zs g _ GP.out hle cJ).mono ?_
   rintro e w1 ⟨ns,ls,An,cn,Al,cl,rfl,Hk,Hj,gl,gL⟩;have H6:=hR.grown gL o_;have CZ:=zb fH gL;obtain⟨w2,gw⟩:∃u,u=w1.alloc (.cells #[.slice An ns.length cn,.slice Al ls.length cl] 27):=⟨_,rfl⟩;have bZ:Blk w2 w1.heap.size 27 #[.slice An ns.length cn,.slice Al ls.length cl]:=gw▸Blk.newAt rfl;have Hn:=h_ (show OwnW (w.heap.size+1) w2 (.slice An ns.length cn) (.slice Al ls.length cl) ns ls from gw▸(Hj.mono (show w.heap.size+1<=_ by omega)).alloc _);have go:Blk w2 w.heap.size 27 #[.slice none 0 0,.slice none 0 0]:=gw▸H6.alloc _;have gV:zw W0 v g w2:=gw▸gl.alloc _;have By:w.grownBy w2 (some g):=gw▸jf CZ _
   go_upto_region 5 with (fail)
   rw[<-gw];clear gw H6 CZ gl gL Hj hR cJ fH;generalize w1.heap.size=T at*;obtain⟨t_0,t_1⟩:=bZ.c2;obtain⟨bw,gi⟩:∃bw,zf ns ls=bw:=⟨_,rfl⟩;have fY:=h_ gi
   go_wp2_with fail
   refine(qU _ _ ns ls bw _ Hn.out.1.reads Hn.out.2.1.reads gi).mono ?_
   rintro e w3 ⟨rfl,Hg⟩;have Bt:=bZ.below Hg bZ.lt;have Ga:=go.below Hg go.lt;have GK:=gV.below Hg;have ni:=zX By Hg;have Hq:=h_ (Hn.out.kept Hg);clear Hg bZ go gV By Hn t_0 t_1 gi;have hRl3:=Ga.lt
   cases bw
   ·go_wp2
    go_roundw
    case rel=>exact⟨k+1,by omega,by go_num,Ga,GK,ni⟩
    case measure=>simp[intOf];omega
   ·obtain⟨t_0,t_1⟩:=Bt.c2
    obtain⟨r_0,r_1,r_f0,r_f1⟩:=Ga.b2;have HO:=h_ ((Hq.out.setLow (p:=⟨w.heap.size,0,none⟩) (show w.heap.size<w.heap.size+1 by omega) (.slice An ns.length cn)).setLow (p:=⟨w.heap.size,1,none⟩) (show w.heap.size<w.heap.size+1 by omega) (.slice Al ls.length cl));have Fk:=h_ ((GK.far (p:=⟨w.heap.size,0,none⟩) (show g<w.heap.size by omega) (.slice An ns.length cn)).far (p:=⟨w.heap.size,1,none⟩) (show g<w.heap.size by omega) (.slice Al ls.length cl));have wC:=h_ (zy (p:=⟨w.heap.size,1,none⟩) (zy (p:=⟨w.heap.size,0,none⟩) ni (show w.heap.size<=w.heap.size by omega) (.slice An ns.length cn)) (show w.heap.size<=w.heap.size by omega) (.slice Al ls.length cl));clear Bt Ga GK ni Hq;go_wp2;exact bodyPost_ret (v:= .agg #[.slice An ns.length cn,.slice Al ls.length cl]) (by simp[results,Tryz.results258,go_sem,r_0,r_1,hRl3]) rfl ⟨ns,ls,An,cn,Al,cl,rfl,fY.out,HO.out,Fk.out,wC.out⟩
  ·have gn:k=4:=o_
   subst gn
   go_wp2_with fail
   refine(zo W0 v zs g 4 _ GP.out hle o_ cJ).mono ?_
   rintro e w1 ⟨x,rfl,x0,x1,gl,gL⟩;have H6:=hR.grown gL o_;have CZ:=zb fH gL;clear hR cJ fH gL
   go_wp2_with fail
   refine(Vi x _).mono ?_
   rintro e w2 ⟨An,cn,Al,cl,rfl,Hn,Hh⟩;have fY:=h_ (z2p x0 x1);have go:=H6.below Hh H6.lt;have gV:=gl.below Hh;have By:=zX CZ Hh;have Hs:w.heap.size+1<=w1.heap.size:=H6.lt;have Hq:=Hn.mono Hs;clear H6 gl CZ Hh Hn;generalize QN x=ns at*;generalize Qy x=ls at*;have hRl2:=go.lt;obtain⟨r_0,r_1,r_f0,r_f1⟩:=go.b2;have HO:=h_ ((Hq.setLow (p:=⟨w.heap.size,0,none⟩) (show w.heap.size<w.heap.size+1 by omega) (.slice An ns.length cn)).setLow (p:=⟨w.heap.size,1,none⟩) (show w.heap.size<w.heap.size+1 by omega) (.slice Al ls.length cl));have Fk:=h_ ((gV.far (p:=⟨w.heap.size,0,none⟩) (show g<w.heap.size by omega) (.slice An ns.length cn)).far (p:=⟨w.heap.size,1,none⟩) (show g<w.heap.size by omega) (.slice Al ls.length cl));have wC:=h_ (zy (p:=⟨w.heap.size,1,none⟩) (zy (p:=⟨w.heap.size,0,none⟩) By (show w.heap.size<=w.heap.size by omega) (.slice An ns.length cn)) (show w.heap.size<=w.heap.size by omega) (.slice Al ls.length cl));clear go gV By Hq;go_wp2;exact bodyPost_ret (v:= .agg #[.slice An ns.length cn,.slice Al ls.length cl]) (by simp[results,Tryz.results258,go_sem,r_0,r_1,hRl2]) rfl ⟨ns,ls,An,cn,Al,cl,rfl,fY.out,HO.out,Fk.out,wC.out⟩
attribute [local go_sem ↓] zr zq zU zT
theorem XA (W0:World) (v:Value) (zs:List Int) (g:Nat) (w:World) (h:RB W0 v zs) (hle:zs.length<=1048576) (hc:zw W0 v g w):
  Calls Tryz.prog 238 #[.pointer (some ⟨g,0,none⟩)] w (z72 (fun ns ls=>zC ns ls/\0<ls.length) W0 v g w):=by
 have hgl:=hc.lt;have HC:=h_ hc;have GP:=h_ h;clear h hc
 go_enter Tryz.func238,Tryz.ntmps238
 go_wp2_with fail
 refine(XG W0 v zs g _ GP.out hle (HC.out.alloc _)).mono ?_
 rintro e w1 ⟨ns,ls,An,cn,Al,cl,rfl,mW,Hj,gl,gL⟩;obtain⟨Hk,M2⟩:=zL mW;have H7:=gL.size;simp at H7
 have H6:Blk w1 w.heap.size 27 #[.slice none 0 0,.slice none 0 0]:=(Blk.new w _ _).grown gL o_;have CZ:=zb (jf (World.grownBy.refl w (some g)) (.cells #[.slice none 0 0,.slice none 0 0] 27)) gL;have Hu:=Hj.lt
 have GH:Hid (WSt W0 v g w w1.heap.size (w1.alloc (.cells #[.slice An ns.length cn,.slice Al ls.length cl] 27)) An cn Al cl ns ls):=h_
  ⟨Hk,(Hj.mono (by simp)).alloc _,Blk.newAt rfl,H6.alloc _,fun b hb e=>by have:=(Hu b hb).2;omega,gl.alloc _,jf CZ _,by omega,hgl⟩
 clear mW Hk H6 CZ gl gL Hj Hu
 go_wp2_with fail
 refine(zo W0 v zs g 4 _ GP.out hle o_ GH.out.cur).mono ?_
 rintro e w3 ⟨k,rfl,k0,k1,GK,gq⟩;have cd:=GH.out.drawn GK gq;clear GH GK gq;obtain⟨X,hX⟩:∃X,X=w1.heap.size:=⟨_,rfl⟩;rw[<-hX] at cd⊢;clear hX;obtain⟨kn,rfl⟩:∃kn:Nat,k=(kn:Int):=⟨k.toNat,by omega⟩;go_wp2
 go_loopw [4] (fun i wr=>∃(kn:Nat) (An:Option Addr) (cn:Nat) (Al:Option Addr) (cl:Nat) (ns ls:List Pr),i= .int .i64 kn/\kn<=4/\0<ls.length/\WSt W0 v g w X wr An cn Al cl ns ls) (fun i _=>(intOf i).toNat)
 case atStart=>exact⟨kn,An,cn,Al,cl,ns,ls,rfl,by omega,M2,cd⟩
 case round=>
  clear cd M2;obtain⟨kn,An,cn,Al,cl,ns,ls,rfl,hk4,M2,cd⟩:=hrel;have GH:=h_ cd;clear cd
  by_cases Nc:kn=0
  ·subst Nc
   have hR:=GH.out.res;have hT:=GH.out.box;obtain⟨t_0,t_1⟩:=hT.c2;obtain⟨r_0,r_1,r_f0,r_f1⟩:=hR.b2;have Gx:=hR.lt;have HO:=h_ ((GH.out.own.setLow (p:=⟨w.heap.size,0,none⟩) (show w.heap.size<w.heap.size+1 by omega) (.slice An ns.length cn)).setLow (p:=⟨w.heap.size,1,none⟩) (show w.heap.size<w.heap.size+1 by omega) (.slice Al ls.length cl));have Fk:=h_ ((GH.out.cur.far (p:=⟨w.heap.size,0,none⟩) (show g<w.heap.size by omega) (.slice An ns.length cn)).far (p:=⟨w.heap.size,1,none⟩) (show g<w.heap.size by omega) (.slice Al ls.length cl));have wC:=h_ (zy (p:=⟨w.heap.size,1,none⟩) (zy (p:=⟨w.heap.size,0,none⟩) GH.out.gr (show w.heap.size<=w.heap.size by omega) (.slice An ns.length cn)) (show w.heap.size<=w.heap.size by omega) (.slice Al ls.length cl));have HP:Hid (zC ns ls/\0<ls.length):=h_ ⟨GH.out.win,M2⟩;clear hR hT GH M2;go_wp2;exact bodyPost_ret (v:= .agg #[.slice An ns.length cn,.slice Al ls.length cl]) (by simp[results,Tryz.results238,go_sem,r_0,r_1,Gx]) rfl ⟨ns,ls,An,cn,Al,cl,rfl,HP.out,HO.out,Fk.out,wC.out⟩
  ·have hkp:(0:Int)<(kn:Int):=o_
   have hT:=GH.out.box;have FU:(0:Int)<(ls.length:Int):=o_
   obtain⟨t_0,t_1⟩:=hT.c2
   go_wp2_with fail
   refine(zo W0 v zs g (ls.length:Int) _ GP.out hle FU GH.out.cur).mono ?_
   rintro e w4 ⟨i,rfl,i0,i1,cf,Gf⟩;have gx:=h_ (GH.out.drawn cf Gf);clear GH hT t_0 t_1 cf Gf;obtain⟨m,rfl⟩:∃m:Nat,i=(m:Int):=⟨i.toNat,by omega⟩;have GM:m<ls.length:=o_
   go_upto_region 6 with (fail)
   refine qD (n:=9) (S:=fun w'=>w'.cell? ⟨X,0,none⟩=some (.slice An ns.length cn)/\w'.cell? ⟨X,1,none⟩=some (.slice Al ls.length cl)) k_ ⟨gx.out.box.cell 0,gx.out.box.cell 1⟩ (fun hS=>?_)
   refine tE_ 0 rfl rfl ?_;(try simp only[lp_])
   refine tE_ 1 rfl rfl ?_;(try simp only[lp_])
   refine tE_ 2 rfl rfl ?_;(try simp only[lp_])
   refine tE_ 3 rfl rfl ?_;(try simp only[lp_])
   (refine zm (i:=4) rfl k_ (fun K hK=>?_));(rw[aao (by rfl)])
   go_simp;have r0:=h_ gx.out.drew;clear gx
   go_at_call 260
   refine(z2N _ _ ns ls m _ r0.out.own.1.reads r0.out.own.2.1.reads r0.out.win GM).mono ?_
   rintro e w5 ⟨⟨x,y,rfl⟩,gk⟩;have Gu:=h_ (r0.out.below gk);clear r0 gk
   go_wp2_with fail
   refine hK _ _ (fun _=>⟨Gu.out.box.cell 0,Gu.out.box.cell 1⟩) (fun gh=>?_)
   clear hK K hS gh
   (try simp only[lp_])
   (refine zm (i:=5) rfl k_ (fun K hK=>?_));(rw[aao (by rfl)])
   go_simp
   go_at_call 259
   refine(z3w _ _ ns ls m x y _ Gu.out.own.1.reads Gu.out.own.2.1.reads Gu.out.win GM).mono ?_
   rintro e w6 ⟨A6,c6,B6,d6,rfl,fh,gJ⟩;have fS:=h_ (Gu.out.below gJ);have Ca:X<w5.heap.size:=Gu.out.box.lt;have CV:=z8W Gu.out.win m x y;have hl6:=z6r ns ls m x y;generalize splN ns ls m x y=N6 at*;generalize splL ns ls m x y=L6 at*;generalize splB ns ls m x y=bb at*;have my:=h_ (fS.out.put CV rfl rfl fh Ca);clear Gu gJ CV fh
   go_wp2_with fail
   refine hK _ _ (fun _=>⟨fS.out.box.cell 0,fS.out.box.cell 1⟩) (fun gh=>?_)
   have F5:=gh k_;clear hK K gh
   (try simp only[lp_])
   refine tE_ 6 rfl rfl ?_;(try simp only[lp_])
   refine tE_ 7 rfl rfl ?_;(try simp only[lp_])
   refine tF_ 8 rfl ?_;(try simp only[lp_])
   have hT:=fS.out.box;obtain⟨t_0,t_1,t_f0,t_f1⟩:=hT.b2
   (refine zm (i:=9) rfl k_ (fun K hK=>?_));(rw[aao (by rfl)])
   go_simp;refine hK _ _ (fun h=>by cases h) (fun _=>?_)
   clear hK K F5 hT fS
   (try simp only[lp_])
   refine jr k_ ?_ _
   clear t_0 t_1 t_f0 t_f1;obtain⟨kp,rfl⟩:∃kp,kn=kp+1:=⟨kn -1,by omega⟩;go_wp2;go_roundw
   case rel=>exact⟨kp,A6,c6,B6,d6,N6,L6,by go_num,by omega,by omega,my.out⟩
   case measure=>simp[intOf]
structure DSt (W0:World) (v:Value) (g:Nat) (w:World) (Z:Nat) (wr:World) (a b c d e:Value) (D:Dr) (fs:List SF):Prop where
 ok:okD D=true
 own:OwnD (w.heap.size+1) wr a b c d e D fs
 box:Blk wr Z 30 #[a,b,c,d,e]
 res:Blk wr w.heap.size 30 z5_
 ne:∀k,qE a b c d e fs k->¬k=Z
 cur:zw W0 v g wr
 gr:w.grownBy wr (some g)
 hX:w.heap.size<Z
 hg:g<w.heap.size
section
variable {W0:World} {v:Value} {g:Nat} {w:World} {Z:Nat} {wr w':World} {a b c d e:Value} {D:Dr} {fs:List SF}
theorem OwnD.far {base:Nat} {row:Option Nat} (h:OwnD base wr a b c d e D fs) (hg:wr.grownBy w' row) (hr:∀k,row=some k->k<base):OwnD base w' a b c d e D fs:=
 h.turned (S:=fun k=>row=some k) (Turns.ofGrown hg (fun k hk=>hk)) (fun k hk e1=>by have:=(h.lt k hk).1;have:=hr k e1;omega)
theorem DSt.drawn (h:DSt W0 v g w Z wr a b c d e D fs) (hc:zw W0 v g w') (hg:wr.grownBy w' (some g)):DSt W0 v g w Z w' a b c d e D fs:=
 ⟨h.ok,h.own.far hg (fun k hk=>by cases hk;have:=h.hg;omega),h.box.grown hg (by have:=h.hg;have:=h.hX;omega),h.res.grown hg (by have:=h.hg;omega),h.ne,hc,zb h.gr hg,h.hX,h.hg⟩
theorem DSt.below (h:DSt W0 v g w Z wr a b c d e D fs) (hb:Below wr.heap.size wr w'):DSt W0 v g w Z w' a b c d e D fs:=
 ⟨h.ok,h.own.kept hb,h.box.below hb h.box.lt,h.res.below hb h.res.lt,h.ne,h.cur.below hb,zX h.gr hb,h.hX,h.hg⟩
theorem DSt.drew (h:DSt W0 v g w Z wr a b c d e D fs):DSt W0 v g w Z wr.drew a b c d e D fs:=h.below (Below.drew (aaj _ _))
theorem DSt.put (h:DSt W0 v g w Z wr a b c d e D fs) {a' b' c' d' e':Value} {D':Dr} {fs':List SF} {base:Nat} (Gn:okD D'=true) (ho:OwnD base wr a' b' c' d' e' D' fs') (hb:Z<base):
  DSt W0 v g w Z (((((wr.setCell ⟨Z,0,none⟩ a').setCell ⟨Z,1,none⟩ b').setCell ⟨Z,2,none⟩ c').setCell ⟨Z,3,none⟩ d').setCell ⟨Z,4,none⟩ e') a' b' c' d' e' D' fs':=by
 have hX:=h.hX;have hg:=h.hg;have Hf:=ho.lt;have Hv:∀k,qE a' b' c' d' e' fs' k->¬k=Z:=fun k hk e1=>by have:=(Hf k hk).1;omega
 have FF:=ho.mono (show w.heap.size+1<=base by omega);have hz:¬qE a' b' c' d' e' fs' Z:=fun k=>Hv _ k rfl
 exact⟨Gn,(((((FF.setFar (p:=⟨Z,0,none⟩) hz _).setFar (p:=⟨Z,1,none⟩) hz _).setFar (p:=⟨Z,2,none⟩) hz _).setFar (p:=⟨Z,3,none⟩) hz _).setFar (p:=⟨Z,4,none⟩) hz _),(((((h.box.set_ 0 _).set_ 1 _).set_ 2 _).set_ 3 _).set_ 4 _),(((((h.res.far (p:=⟨Z,0,none⟩) (show w.heap.size≠Z by omega) _).far (p:=⟨Z,1,none⟩) (show w.heap.size≠Z by omega) _).far (p:=⟨Z,2,none⟩) (show w.heap.size≠Z by omega) _).far (p:=⟨Z,3,none⟩) (show w.heap.size≠Z by omega) _).far (p:=⟨Z,4,none⟩) (show w.heap.size≠Z by omega) _),Hv,(((((h.cur.far (p:=⟨Z,0,none⟩) (show g<Z by omega) _).far (p:=⟨Z,1,none⟩) (show g<Z by omega) _).far (p:=⟨Z,2,none⟩) (show g<Z by omega) _).far (p:=⟨Z,3,none⟩) (show g<Z by omega) _).far (p:=⟨Z,4,none⟩) (show g<Z by omega) _),(zy (p:=⟨Z,4,none⟩) (zy (p:=⟨Z,3,none⟩) (zy (p:=⟨Z,2,none⟩) (zy (p:=⟨Z,1,none⟩) (zy (p:=⟨Z,0,none⟩) h.gr (show w.heap.size<=Z by omega) _) (show w.heap.size<=Z by omega) _) (show w.heap.size<=Z by omega) _) (show w.heap.size<=Z by omega) _) (show w.heap.size<=Z by omega) _),hX,hg⟩
theorem DSt.fin (h:DSt W0 v g w Z wr a b c d e D fs) (u0 u1 u2 u3 u4:Value):
  OwnD (w.heap.size+1) (((((wr.setCell ⟨w.heap.size,0,none⟩ u0).setCell ⟨w.heap.size,1,none⟩ u1).setCell ⟨w.heap.size,2,none⟩ u2).setCell ⟨w.heap.size,3,none⟩ u3).setCell ⟨w.heap.size,4,none⟩ u4) a b c d e D fs/\zw W0 v g (((((wr.setCell ⟨w.heap.size,0,none⟩ u0).setCell ⟨w.heap.size,1,none⟩ u1).setCell ⟨w.heap.size,2,none⟩ u2).setCell ⟨w.heap.size,3,none⟩ u3).setCell ⟨w.heap.size,4,none⟩ u4)/\w.grownBy (((((wr.setCell ⟨w.heap.size,0,none⟩ u0).setCell ⟨w.heap.size,1,none⟩ u1).setCell ⟨w.heap.size,2,none⟩ u2).setCell ⟨w.heap.size,3,none⟩ u3).setCell ⟨w.heap.size,4,none⟩ u4) (some g):=by
 have hz:¬qE a b c d e fs w.heap.size:=fun hk=>by have:=(h.own.lt _ hk).1;omega
 have hg:=h.hg;exact⟨(((((h.own.setFar (p:=⟨w.heap.size,0,none⟩) hz _).setFar (p:=⟨w.heap.size,1,none⟩) hz _).setFar (p:=⟨w.heap.size,2,none⟩) hz _).setFar (p:=⟨w.heap.size,3,none⟩) hz _).setFar (p:=⟨w.heap.size,4,none⟩) hz _),(((((h.cur.far (p:=⟨w.heap.size,0,none⟩) (show g<w.heap.size from hg) _).far (p:=⟨w.heap.size,1,none⟩) (show g<w.heap.size from hg) _).far (p:=⟨w.heap.size,2,none⟩) (show g<w.heap.size from hg) _).far (p:=⟨w.heap.size,3,none⟩) (show g<w.heap.size from hg) _).far (p:=⟨w.heap.size,4,none⟩) (show g<w.heap.size from hg) _),(zy (p:=⟨w.heap.size,4,none⟩) (zy (p:=⟨w.heap.size,3,none⟩) (zy (p:=⟨w.heap.size,2,none⟩) (zy (p:=⟨w.heap.size,1,none⟩) (zy (p:=⟨w.heap.size,0,none⟩) h.gr (show w.heap.size<=w.heap.size from aaa _) _) (show w.heap.size<=w.heap.size from aaa _) _) (show w.heap.size<=w.heap.size from aaa _) _) (show w.heap.size<=w.heap.size from aaa _) _) (show w.heap.size<=w.heap.size from aaa _) _)⟩
theorem DSt.start {base:Nat} {An:Option Addr} {cn:Nat} {Al:Option Addr} {cl:Nat} {Bn:Option Addr} {dn:Nat} {Bl:Option Addr} {dl:Nat} {ns ls:List Pr} (Hk:zC ns ls)
  (ho:OwnW (w.heap.size+1) wr (.slice An ns.length cn) (.slice Al ls.length cl) ns ls) (hc:OwnW base wr (.slice Bn ns.length dn) (.slice Bl ls.length dl) ns ls)
  (Hf:∀k,zp (.slice An ns.length cn) (.slice Al ls.length cl) k->k<base) (Hs:w.heap.size+1<=base)
  (hbox:Blk wr Z 30 #[.slice An ns.length cn,.slice Al ls.length cl,.slice Bn ns.length dn,.slice Bl ls.length dl,.slice none 0 0])
  (hR:Blk wr w.heap.size 30 z5_) (BP:∀k,zp (.slice An ns.length cn) (.slice Al ls.length cl) k->¬k=Z) (bE:∀k,zp (.slice Bn ns.length dn) (.slice Bl ls.length dl) k->¬k=Z)
  (cJ:zw W0 v g wr) (fH:w.grownBy wr (some g)) (hX:w.heap.size<Z) (hg:g<w.heap.size):
  DSt W0 v g w Z wr (.slice An ns.length cn) (.slice Al ls.length cl) (.slice Bn ns.length dn) (.slice Bl ls.length dl) (.slice none 0 0) ⟨ns,ls,ns,ls,[]⟩ []:=by
 have hz:∀k,¬kH (.slice none 0 0) [] k:=by
  rintro k (h|⟨i,hi,_⟩)
  ·simp[Value.ownBlock] at h
  ·simp at hi
 refine⟨z50 Hk,⟨ho,hc.mono Hs,OwnT.nil _ _,rfl,fun k hk gU=>?_,fun k _ hk=>hz k hk,fun k _ hk=>hz k hk⟩,hbox,hR,fun k hk=>?_,cJ,fH,hX,hg⟩
 ·first|(have h1:=Hf k gU;have h2:=(hc.lt k hk).1;omega)|(have h1:=Hf k hk;have h2:=(hc.lt k gU).1;omega)
 ·rcases hk with hk|hk|hk
  ·exact BP k hk
  ·exact bE k hk
  ·exact absurd hk (hz k)
end
def z9A (W0:World) (v:Value) (g:Nat) (w:World) (e:Ending) (w':World):Prop:=
 ∃(D:Dr) (fs:List SF) (A0:Option Addr) (c0:Nat) (A1:Option Addr) (c1:Nat) (A2:Option Addr) (c2:Nat) (A3:Option Addr) (c3:Nat) (A4:Option Addr) (c4:Nat),e= .returned (.agg #[.slice A0 D.fn.length c0,.slice A1 D.fl.length c1,.slice A2 D.nn.length c2,.slice A3 D.nl.length c3,.slice A4 D.ss.length c4])/\okD D=true/\D.ss.length<=5/\
  OwnD (w.heap.size+1) w' (.slice A0 D.fn.length c0) (.slice A1 D.fl.length c1) (.slice A2 D.nn.length c2) (.slice A3 D.nl.length c3) (.slice A4 D.ss.length c4) D fs/\zw W0 v g w'/\w.grownBy w' (some g)
theorem Vr (W0:World) (v:Value) (zs:List Int) (g:Nat) (w:World) (h:RB W0 v zs) (hle:zs.length<=1048576) (hc:zw W0 v g w):
  Calls Tryz.prog 184 #[.pointer (some ⟨g,0,none⟩)] w (z9A W0 v g w):=by
 have hgl:=hc.lt;have HC:=h_ hc;have GP:=h_ h;clear h hc
 go_enter Tryz.func184,Tryz.ntmps184
 go_wp2_with fail
 refine(XA W0 v zs g _ GP.out hle (HC.out.alloc _)).mono ?_
 rintro e w1 ⟨ns,ls,An,cn,Al,cl,rfl,⟨Hk,M2⟩,Hj,gl,gL⟩;have H7:=gL.size;simp at H7
 have H6:Blk w1 w.heap.size 30 z5_:=(Blk.new w _ _).grown gL o_;have CZ:=zb (jf (World.grownBy.refl w (some g)) (.cells z5_ 30)) gL;have gd:OwnW (w.heap.size+1) w1 (.slice An ns.length cn) (.slice Al ls.length cl) ns ls:=Hj.mono (by simp);have FG:=Hk.2.1;have Zc:=Hk.2.2.1;have HW:=h_ Hk;obtain⟨w2,gw⟩:∃u,u=w1.alloc (.cells #[.slice An ns.length cn,.slice Al ls.length cl] 27):=⟨_,rfl⟩;have bZ:Blk w2 w1.heap.size 27 #[.slice An ns.length cn,.slice Al ls.length cl]:=gw▸Blk.newAt rfl;have Hn:=h_ (show OwnW (w.heap.size+1) w2 (.slice An ns.length cn) (.slice Al ls.length cl) ns ls from gw▸gd.alloc _);have go:Blk w2 w.heap.size 30 z5_:=gw▸H6.alloc _;have gV:zw W0 v g w2:=gw▸gl.alloc _;have By:w.grownBy w2 (some g):=gw▸jf CZ _;have Fi:w1.heap.size<w2.heap.size:=bZ.lt
 go_upto_region 2 with (fail)
 try rw[<-gw]
 clear gw H6 CZ gl gL Hj gd Hk;generalize w1.heap.size=T at*
 go_cut [4] (fun s4 wx=>∃(Z:Nat) (Bn:Option Addr) (dn:Nat) (Bl:Option Addr) (dl:Nat),s4= .pointer (some ⟨Z,0,none⟩)/\DSt W0 v g w Z wx (.slice An ns.length cn) (.slice Al ls.length cl) (.slice Bn ns.length dn) (.slice Bl ls.length dl) (.slice none 0 0) ⟨ns,ls,ns,ls,[]⟩ [])
 case first=>
  refine vO (n:=5) (S:=fun w'=>w'.cell? ⟨T,0,none⟩=some (.slice An ns.length cn)/\w'.cell? ⟨T,1,none⟩=some (.slice Al ls.length cl)) k_ ⟨bZ.cell 0,bZ.cell 1⟩ (fun hS=>?_)
  (refine zv (i:=0) (v:=?_) rfl rfl k_ k_ k_ k_ (fun _ _ _ h=>h) (Or.inl ⟨by rfl,?_⟩) (by assumption) ?_);rotate_left;(focus (intro w' gm;(try dsimp only at gm);go_simp;(try with_reducible rfl)));(try simp only[lp_])
  (refine zv (i:=1) (v:=?_) rfl rfl k_ k_ k_ k_ (fun _ _ _ h=>h) (Or.inl ⟨by rfl,?_⟩) (by assumption) ?_);rotate_left;(focus (intro w' gm;(try dsimp only at gm);go_simp;(try with_reducible rfl)));(try simp only[lp_])
  refine z9e (i:=2) (j:=4) rfl rfl k_ (fun K hK=>?_) (fun K hK=>?_)
  ·rw[aao (by rfl)]
   go_simp
   go_at_call 110
   refine(zR _ _ ns ls _ (OwnP.drew Hn.out.1).reads (OwnP.drew Hn.out.2.1).reads o_ o_).mono ?_
   rintro e w3 ⟨Bn,dn,Bl,dl,rfl,Hq,Hg⟩;have GB:Below w2.heap.size w2 w3:=((aaj w2.heap.size w2).drew).trans Hg;have Bt:=bZ.below GB bZ.lt;have gj:=Hq.lt;have GF:=GB.size
   go_wp2_with fail
   refine hK _ _ (fun _=>⟨Bt.cell 0,Bt.cell 1⟩) (fun gh=>?_)
   have fT:=gh (by decide);clear hK K hS gh
   (try simp only[lp_])
   (refine zv (i:=3) (v:=?_) rfl rfl k_ k_ k_ k_ (fun _ _ _ h=>h) (Or.inl ⟨by rfl,?_⟩) (by assumption) ?_);rotate_left;(focus (intro w' gm;(try dsimp only at gm);go_simp;(try with_reducible rfl)));(try simp only[lp_])
   (refine qP (i:=4) rfl k_ (fun K hK=>?_));(rw[aao (by rfl)])
   go_simp;refine hK _ _ (fun _=>⟨(Bt.alloc _).cell 0,(Bt.alloc _).cell 1⟩) (fun gh=>?_)
   clear hK K fT gh
   (try simp only[lp_])
   have MD:=Blk.newAt (w:=w3) (g:=w3.heap.size) (t:=30) (cs:= z5_) rfl;obtain⟨z_0,z_1,z_2,z_3,z_4,z_f0,z_f1,z_f2,z_f3,z_f4⟩:=MD.b5
   (refine qP (i:=5) rfl k_ (fun K hK=>?_));(rw[aao (by rfl)])
   go_simp;refine hK _ _ (fun h=>absurd rfl h) (fun _=>?_)
   clear hK K z_0 z_1 z_2 z_3 z_4 z_f0 z_f1 z_f2 z_f3 z_f4 MD
   (try simp only[lp_])
   refine xC k_ ?_ _
   go_wp2;go_meet
   simp at gj
   exact⟨w3.heap.size,Bn,dn,Bl,dl,rfl,DSt.start (base:=w2.heap.size) HW.out ((Hn.out.kept GB).alloc _) (Hq.alloc _) (fun k hk=>(Hn.out.lt k hk).2) o_ (Blk.newAt rfl) ((go.below GB go.lt).alloc _)
    (fun k hk e=>by have:=(Hn.out.lt k hk).2;omega) (fun k hk e=>by have:=(gj k hk).2;omega) ((gV.below GB).alloc _) (jf (zX By GB) _) o_ hgl⟩
  ·rw[aao (by rfl)]
   go_simp;have cX:=(Blk.newAt (w:=w2) (g:=w2.heap.size) (t:=30) (cs:= z5_) rfl).drew;have R3:Below w2.heap.size w2 (w2.alloc (.cells z5_ 30)).drew :=((aaj _ _).alloc (aaa _) _).drew;obtain⟨wA,Rb⟩:∃u,u=(w2.alloc (.cells z5_ 30)).drew :=⟨_,rfl⟩;have ri:wA.heap.size=w2.heap.size+1:=by rw[Rb];simp
   rw[<-Rb] at cX R3⊢;clear Rb;have hTA:=bZ.below R3 bZ.lt;have hoA:=Hn.out.kept R3;refine hK _ _ (fun _=>⟨hTA.cell 0,hTA.cell 1⟩) (fun gh=>?_)
   clear hK K hS gh
   (try simp only[lp_])
   (refine qP (i:=2) rfl k_ (fun K hK=>?_));(rw[aao (by rfl)])
   go_simp
   go_at_call 110
   refine(zR _ _ ns ls _ hoA.1.reads hoA.2.1.reads o_ o_).mono ?_
   rintro e w3 ⟨Bn,dn,Bl,dl,rfl,Hq,Hg⟩;have GB:Below w2.heap.size w2 w3:=R3.trans (Hg.mono R3.size);have Bt:=bZ.below GB bZ.lt;have gj:=Hq.lt;have GJ:=cX.below Hg cX.lt
   go_wp2_with fail
   refine hK _ _ (fun _=>⟨Bt.cell 0,Bt.cell 1⟩) (fun gh=>?_)
   have F5:=gh (by decide);clear hK K gh
   (try simp only[lp_])
   (refine zv (i:=3) (v:=?_) rfl rfl k_ k_ k_ k_ (fun _ _ _ h=>h) (Or.inl ⟨by rfl,?_⟩) (by assumption) ?_);rotate_left;(focus (intro w' gm;(try dsimp only at gm);go_simp;(try with_reducible rfl)));(try simp only[lp_])
   obtain⟨z_0,z_1,z_2,z_3,z_4,z_f0,z_f1,z_f2,z_f3,z_f4⟩:=GJ.b5
   (refine qP (i:=5) rfl k_ (fun K hK=>?_));(rw[aao (by rfl)])
   go_simp;refine hK _ _ (fun h=>absurd rfl h) (fun _=>?_)
   clear hK K z_0 z_1 z_2 z_3 z_4 z_f0 z_f1 z_f2 z_f3 z_f4
   (try simp only[lp_])
   refine xC k_ ?_ _
   go_wp2;go_meet
   rw[ri] at gj;have n1:∀k,zp (.slice An ns.length cn) (.slice Al ls.length cl) k->¬k=w2.heap.size:=fun k hk e=>by have:=(Hn.out.lt k hk).2;omega
   have n2:∀k,zp (.slice Bn ns.length dn) (.slice Bl ls.length dl) k->¬k=w2.heap.size:=fun k hk e=>by have:=(gj k hk).1;omega
   have m1:¬zp (.slice An ns.length cn) (.slice Al ls.length cl) w2.heap.size:=fun hk=>n1 _ hk rfl
   have m2:¬zp (.slice Bn ns.length dn) (.slice Bl ls.length dl) w2.heap.size:=fun hk=>n2 _ hk rfl
   have Ga:=go.below GB go.lt;have Yl:=gV.below GB;have NY:=zX By GB;have q1:w.heap.size<w2.heap.size:=o_
   have q2:g<w2.heap.size:=o_
   exact⟨w2.heap.size,Bn,dn,Bl,dl,rfl,DSt.start (base:=wA.heap.size) HW.out ((((((Hn.out.kept GB).setFar (p:=⟨w2.heap.size,0,none⟩) m1 _).setFar (p:=⟨w2.heap.size,1,none⟩) m1 _).setFar (p:=⟨w2.heap.size,2,none⟩) m1 _).setFar (p:=⟨w2.heap.size,3,none⟩) m1 _).setFar (p:=⟨w2.heap.size,4,none⟩) m1 _) (((((Hq.setFar (p:=⟨w2.heap.size,0,none⟩) m2 _).setFar (p:=⟨w2.heap.size,1,none⟩) m2 _).setFar (p:=⟨w2.heap.size,2,none⟩) m2 _).setFar (p:=⟨w2.heap.size,3,none⟩) m2 _).setFar (p:=⟨w2.heap.size,4,none⟩) m2 _) (fun k hk=>by have:=(Hn.out.lt k hk).2;omega) o_ (((((GJ.set_ 0 _).set_ 1 _).set_ 2 _).set_ 3 _).set_ 4 _) (((((Ga.far (p:=⟨w2.heap.size,0,none⟩) (show w.heap.size≠w2.heap.size by omega) _).far (p:=⟨w2.heap.size,1,none⟩) (show w.heap.size≠w2.heap.size by omega) _).far (p:=⟨w2.heap.size,2,none⟩) (show w.heap.size≠w2.heap.size by omega) _).far (p:=⟨w2.heap.size,3,none⟩) (show w.heap.size≠w2.heap.size by omega) _).far (p:=⟨w2.heap.size,4,none⟩) (show w.heap.size≠w2.heap.size by omega) _)
    n1 n2 (((((Yl.far (p:=⟨w2.heap.size,0,none⟩) (show g<w2.heap.size from q2) _).far (p:=⟨w2.heap.size,1,none⟩) (show g<w2.heap.size from q2) _).far (p:=⟨w2.heap.size,2,none⟩) (show g<w2.heap.size from q2) _).far (p:=⟨w2.heap.size,3,none⟩) (show g<w2.heap.size from q2) _).far (p:=⟨w2.heap.size,4,none⟩) (show g<w2.heap.size from q2) _) (zy (p:=⟨w2.heap.size,4,none⟩) (zy (p:=⟨w2.heap.size,3,none⟩) (zy (p:=⟨w2.heap.size,2,none⟩) (zy (p:=⟨w2.heap.size,1,none⟩) (zy (p:=⟨w2.heap.size,0,none⟩) NY (show w.heap.size<=w2.heap.size by omega) _) (show w.heap.size<=w2.heap.size by omega) _) (show w.heap.size<=w2.heap.size by omega) _) (show w.heap.size<=w2.heap.size by omega) _) (show w.heap.size<=w2.heap.size by omega) _) q1 hgl⟩
 case rest=>
  obtain⟨Z,Bn,dn,Bl,dl,rfl,cd⟩:=hcut;have GH:=h_ cd;clear cd bZ go gV By Hn Fi
  go_wp2_with fail
  refine(zo W0 v zs g 6 _ GP.out hle o_ GH.out.cur).mono ?_
  rintro e w3 ⟨k,rfl,k0,k1,GK,gq⟩;have cd:=GH.out.drawn GK gq;clear GH GK gq;obtain⟨kn,rfl⟩:∃kn:Nat,k=(kn:Int):=⟨k.toNat,by omega⟩;go_wp2
  go_loopw [5] (fun i wr=>∃(kn:Nat) (A0:Option Addr) (c0:Nat) (A1:Option Addr) (c1:Nat) (A2:Option Addr) (c2:Nat) (A3:Option Addr) (c3:Nat) (A4:Option Addr) (c4:Nat) (D:Dr) (fs:List SF),i= .int .i64 kn/\D.ss.length+kn<=5/\DSt W0 v g w Z wr (.slice A0 D.fn.length c0) (.slice A1 D.fl.length c1) (.slice A2 D.nn.length c2) (.slice A3 D.nl.length c3) (.slice A4 D.ss.length c4) D fs) (fun i _=>(intOf i).toNat)
  case atStart=>exact⟨kn,_,_,_,_,_,_,_,_,none,0,⟨ns,ls,ns,ls,[]⟩,[],rfl,by simp;omega,cd⟩
  case round=>
   clear cd;obtain⟨kn,A0,c0,A1,c1,A2,c2,A3,c3,A4,c4,D,fs,rfl,hkd,cd⟩:=hrel;have GH:=h_ cd;clear cd
   by_cases Nc:kn=0
   ·subst Nc
    have hR:=GH.out.res;have hT:=GH.out.box;obtain⟨t_0,t_1,t_2,t_3,t_4⟩:=hT.c5;obtain⟨r_0,r_1,r_2,r_3,r_4,r_f0,r_f1,r_f2,r_f3,r_f4⟩:=hR.b5;have Gx:=hR.lt;have HF:=h_ (fun u0 u1 u2 u3 u4=>GH.out.fin u0 u1 u2 u3 u4);have Fq:=h_ GH.out.ok;clear hR hT GH;go_wp2;exact bodyPost_ret (v:= .agg #[.slice A0 D.fn.length c0,.slice A1 D.fl.length c1,.slice A2 D.nn.length c2,.slice A3 D.nl.length c3,.slice A4 D.ss.length c4]) (by simp[results,Tryz.results184,go_sem,r_0,r_1,r_2,r_3,r_4,Gx]) rfl ⟨D,fs,A0,c0,A1,c1,A2,c2,A3,c3,A4,c4,rfl,Fq.out,by omega,(HF.out _ _ _ _ _).1,(HF.out _ _ _ _ _).2.1,(HF.out _ _ _ _ _).2.2⟩
   ·have hkp:(0:Int)<(kn:Int):=o_
    have BS:=z8m GH.out.ok;have BQ:(0:Int)<(D.nn.length:Int):=by have:=BS.1;omega
    clear BS
    go_upto_region 6 with (fail)
    refine qD (n:=20) (S:=fun w'=>w'.cell? ⟨Z,0,none⟩=some (.slice A0 D.fn.length c0)/\w'.cell? ⟨Z,1,none⟩=some (.slice A1 D.fl.length c1)/\w'.cell? ⟨Z,2,none⟩=some (.slice A2 D.nn.length c2)/\w'.cell? ⟨Z,3,none⟩=some (.slice A3 D.nl.length c3)/\w'.cell? ⟨Z,4,none⟩=some (.slice A4 D.ss.length c4)) k_ ⟨GH.out.box.cell 0,GH.out.box.cell 1,GH.out.box.cell 2,GH.out.box.cell 3,GH.out.box.cell 4⟩ (fun hS=>?_)
    refine tE_ 0 rfl rfl ?_;(try simp only[lp_])
    refine tE_ 1 rfl rfl ?_;(try simp only[lp_])
    refine tE_ 4 rfl rfl ?_;(try simp only[lp_])
    refine tE_ 5 rfl rfl ?_;(try simp only[lp_])
    refine tE_ 6 rfl rfl ?_;(try simp only[lp_])
    refine tE_ 7 rfl rfl ?_;(try simp only[lp_])
    refine tE_ 8 rfl rfl ?_;(try simp only[lp_])
    refine tE_ 10 rfl rfl ?_;(try simp only[lp_])
    refine tE_ 11 rfl rfl ?_;(try simp only[lp_])
    refine tE_ 12 rfl rfl ?_;(try simp only[lp_])
    refine tE_ 13 rfl rfl ?_;(try simp only[lp_])
    refine tE_ 14 rfl rfl ?_;(try simp only[lp_])
    (refine zm (i:=2) rfl k_ (fun K hK=>?_));(rw[aao (by rfl)])
    go_simp
    go_at_call 125
    refine(zo W0 v zs g 3 _ GP.out hle o_ GH.out.drew.cur).mono ?_
    rintro e wa ⟨xa,rfl,xa0,xa1,Wy,wu⟩;have Cp:=h_ (GH.out.drew.drawn Wy wu);clear Wy wu
    go_wp2_with fail
    refine hK _ _ (fun _=>⟨Cp.out.box.cell 0,Cp.out.box.cell 1,Cp.out.box.cell 2,Cp.out.box.cell 3,Cp.out.box.cell 4⟩) (fun gh=>?_)
    have hSa:=gh k_;clear hK K hS gh GH
    (try simp only[lp_])
    have Bm:IntKind.i64.wrap (1+xa)=1+xa:=aaP _ o_;refine tE_ 3 rfl rfl ?_;(try simp only[lp_])
    clear Bm
    (refine zm (i:=9) rfl k_ (fun K hK=>?_));(rw[aao (by rfl)])
    go_simp
    go_at_call 125
    refine(zo W0 v zs g (D.nn.length:Int) _ GP.out hle o_ Cp.out.cur).mono ?_
    rintro e wb ⟨xb,rfl,xb0,xb1,M8,Fn⟩;have Cq:=h_ (Cp.out.drawn M8 Fn);clear M8 Fn
    go_wp2_with fail
    refine hK _ _ (fun _=>⟨Cq.out.box.cell 0,Cq.out.box.cell 1,Cq.out.box.cell 2,Cq.out.box.cell 3,Cq.out.box.cell 4⟩) (fun gh=>?_)
    clear hK K hSa gh Cp
    (try simp only[lp_])
    (refine zm (i:=15) rfl k_ (fun K hK=>?_));(rw[aao (by rfl)])
    go_simp
    go_at_call 125
    refine(zo W0 v zs g (D.nn.length:Int) _ GP.out hle o_ Cq.out.cur).mono ?_
    rintro e wc ⟨xc,rfl,xc0,xc1,Gj,y9⟩;have CQ:=h_ (Cq.out.drawn Gj y9);clear Gj y9
    go_wp2_with fail
    refine hK _ _ (fun _=>⟨CQ.out.box.cell 0,CQ.out.box.cell 1,CQ.out.box.cell 2,CQ.out.box.cell 3,CQ.out.box.cell 4⟩) (fun gh=>?_)
    clear hK K gh Cq
    (try simp only[lp_])
    (refine zm (i:=16) rfl k_ (fun K hK=>?_));(rw[aao (by rfl)])
    go_simp
    go_at_call 139
    have gf:=h_ (z3D CQ.out.ok);have HOKn:=h_ (z7a CQ.out.ok (1+xa) xb xc);have fN:=h_ (z9x D (1+xa) xb xc);refine(JS _ _ _ _ _ D (1+xa) xb xc _ CQ.out.own.reads gf.out).mono ?_
    rintro e wd ⟨B0,d0,B1,d1,B2,d2,B3,d3,B4,d4,gs,rfl,rf,GB⟩;have mf:=h_ (CQ.out.below GB);have Gb:Z<wc.heap.size:=CQ.out.box.lt;generalize qJ D (1+xa) xb xc=D' at*;generalize zS D (1+xa) xb xc=bb at*;have HP:=h_ (mf.out.put HOKn.out rf Gb);clear rf GB CQ
    go_wp2_with fail
    refine hK _ _ (fun _=>⟨mf.out.box.cell 0,mf.out.box.cell 1,mf.out.box.cell 2,mf.out.box.cell 3,mf.out.box.cell 4⟩) (fun gh=>?_)
    have hSd:=gh k_;clear hK K gh
    (try simp only[lp_])
    refine tE_ 17 rfl rfl ?_;(try simp only[lp_])
    refine tE_ 18 rfl rfl ?_;(try simp only[lp_])
    refine tF_ 19 rfl ?_;(try simp only[lp_])
    have hT:=mf.out.box;obtain⟨t_0,t_1,t_2,t_3,t_4,t_f0,t_f1,t_f2,t_f3,t_f4⟩:=hT.b5
    (refine zm (i:=20) rfl k_ (fun K hK=>?_));(rw[aao (by rfl)])
    go_simp;refine hK _ _ (fun h=>by cases h) (fun _=>?_)
    clear hK K hSd hT mf t_0 t_1 t_2 t_3 t_4 t_f0 t_f1 t_f2 t_f3 t_f4
    (try simp only[lp_])
    refine jr k_ ?_ _
    obtain⟨kp,rfl⟩:∃kp,kn=kp+1:=⟨kn -1,by omega⟩;have Hm:=fN.out;go_wp2;go_roundw
    case rel=>exact⟨kp,B0,d0,B1,d1,B2,d2,B3,d3,B4,d4,D',gs,by go_num,by omega,HP.out⟩
    case measure=>simp[intOf]
noncomputable def z2g:St:=ZX jl jj 200
theorem Xo (w:World):Calls Tryz.prog 131 #[] w (z3L z2g w):=by
 obtain⟨E,hE⟩:∃E,ZX jl jj 200=E:=⟨_,rfl⟩;have HE:=h_ hE;obtain⟨bb,hB⟩:∃bb,J8 jl jj 200=bb:=⟨_,rfl⟩;have HB:=h_ hB;rw[show z2g=E from hE];clear hE hB
 go_enter Tryz.func131,Tryz.ntmps131
 go_wp2_with fail
 refine(J4 _).mono ?_
 rintro e w1 ⟨Tn,tn,Tl,tl,rfl,hoT,Hb⟩;have Ha:Below w.heap.size w w1:=bel_
 have H6:Blk w1 w.heap.size 34 z8_:=Blk.below (Blk.newAt rfl) Hb sz_;clear Hb
 go_wp2_with fail
 refine(z73 _ _ jl jj 200 _ hoT.1.reads hoT.2.1.reads (by simp[jl]) (by simp[jj])).mono ?_
 rw[HE.out,HB.out];rintro e w2 ⟨W0,wc0,W1,wc1,W2,wc2,W3,wc3,W4,wc4,W5,wc5,W6,wc6,wfs,rfl,uw,Hh⟩;have go:=H6.below Hh H6.lt;have Hc:=Ha.trans (Hh.mono Ha.size);have Hf:w.heap.size+1<=w1.heap.size:=H6.lt;clear Hh H6 Ha hoT;have HO:=h_ uw;have fY:=h_ Hc;obtain⟨r_0,r_1,r_2,r_3,r_4,r_5,r_6,r_7,r_f0,r_f1,r_f2,r_f3,r_f4,r_f5,r_f6,r_f7⟩:=go.b8;have Hl:=go.lt;clear uw Hc go;go_wp2;refine bodyPost_ret (v:= .agg #[.slice W0 E.D.fn.length wc0,.slice W1 E.D.fl.length wc1,.slice W2 E.D.nn.length wc2,.slice W3 E.D.nl.length wc3,.slice W4 E.D.ss.length wc4,.slice W5 E.cs.length wc5,.slice W6 E.ds.length wc6,.int .i64 E.fund]) (by simp[results,Tryz.results131,go_sem,r_0,r_1,r_2,r_3,r_4,r_5,r_6,r_7,Hl]) rfl ?_
 refine⟨W0,wc0,W1,wc1,W2,wc2,W3,wc3,W4,wc4,W5,wc5,W6,wc6,wfs,rfl,?_,?_⟩
 ·refine OwnSt.mono (base:=w.heap.size+1) ?_ o_
  iterate 12 (try first|(with_reducible refine OwnSt.alloc ?_ _)|(with_reducible refine OwnSt.setLow ?_ ?_ _))
  exact HO.out.mono Hf
  all_goals exact sz_
 ·have He:=fY.out
  exact bel_
open Go.ChangeShapes Go.WideShapes Go.RowKit
section
variable {H:Type} {enc:TypeId×Value->H} {P:Program} {w:World} {base:Nat} {spare:Nat->Bool} {mz:Bool}
theorem z1i {t e:TypeId} {k:IntKind} {v:Value} {d:DataW H} {p:List MemPlace} (ht:P.underlying t=some (.slice e)) (he:P.underlying e=some (.int k)) (hc:P.cellsOf e=1)
  (hval:Value.okWide P w .any base t v) (h:DataW.Trod enc P w 0 spare mz t v d p):
  ∃zs:List Int,RS w 1 v zs.length (zs.map (Value.int k))/\∀n∈zs,(Lit.int k n).wf =true:=by
 obtain⟨A,len,cap,rfl⟩:=okWide_slice ht hval;obtain⟨fuel,hf⟩:=h
 rcases open_ints ht he hc hf with ⟨Fm,hx⟩|⟨a,len',cap',zs,Fm,_,hl,hm,hz,hx,hcell,hwz⟩
 ·simp[Value.cells] at Fm
  obtain⟨rfl,rfl,rfl⟩:=Fm;exact⟨[],RS.nil _ _,by simp⟩
 ·simp[Value.cells] at Fm
  obtain⟨rfl,rfl,rfl⟩:=Fm;have hle:len<=zs.length:=by rw[hz];split<;>omega
  have Hm:(zs.take len).length =len:=by simp;omega
  refine⟨zs.take len,⟨by simp,some a,cap,by rw[Hm],by rw[Hm];exact hl,by rw[Hm];omega,fun hn=>?_⟩,fun n hn=>hwz n (List.mem_of_mem_take hn)⟩
  have h0:=hcell 0 o_;obtain⟨ab,ao,spot⟩:=a;have WD:spot=none:=by simpa[Addr.add] using World.cell?_spot h0
  subst WD;refine⟨ab,ao,rfl,?_,fun j u hu=>?_⟩
  ·have:=World.block_lt_of_cell? w _ h0
   simpa[Addr.add] using this
  ·have hj:j<len:=by
    have h1:=(List.getElem?_eq_some_iff.1 hu).1;simp at h1
    omega
   have hc:=hcell j o_;have e1:zs.getD j 0=zs[j]:=by simp[List.getD,aac (show j<zs.length by omega)]
   rw[e1] at hc
   have Be:u= .int k zs[j]:=by
    rw[aau,List.getElem?_take,aao hj,aac o_] at hu
    simpa using hu.symm
   rw[Be]
   by_cases h0:j=0
   ·subst h0;simpa[Addr.add] using hc
   ·simpa[Addr.add,h0] using hc
end
section
variable {H:Type} {enc:TypeId×Value->H} {w:World} {base:Nat} {spare:Nat->Bool} {mz:Bool}
theorem z9W {v:Value} {d:DataW H} {p:List MemPlace} (hval:Value.okWide Tryz.prog w .any base 22 v) (h:DataW.Trod enc Tryz.prog w 0 spare mz 22 v d p):∃zs:List Int,RB w v zs:=by
 obtain⟨zs,h1,h2⟩:=z1i Tryz.underlying22 Tryz.underlying5 k_ hval h;refine⟨zs,h1,fun z hz=>?_⟩
 have:=h2 z hz;simp[Lit.wf,IntKind.min,IntKind.max,IntKind.bits,IntKind.signed] at this
 omega
end
end Go.Proofs.YtnjcpljhmhdhkaaGreat
