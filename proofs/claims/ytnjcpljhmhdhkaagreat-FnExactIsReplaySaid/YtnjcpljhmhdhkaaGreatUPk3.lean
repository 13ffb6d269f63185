/- part 3 -/
import Derived.Test.YtnjcpljhmhdhkaaGreatUPk1
import Derived.Test.YtnjcpljhmhdhkaaGreatUPk2
import Derived.StillTailTactics
set_option linter.unusedSimpArgs false
set_option linter.unusedVariables false
set_option maxRecDepth 100000
set_option maxHeartbeats 8000000
namespace Go.Proofs.YtnjcpljhmhdhkaaGreat
open Go.RowKit
attribute [local go_sem ↓] zv zu qb qf
theorem zm (n lo hi:Int) (b:Bool) (w:World) (h:inB n lo hi=b):
  Calls Tryz.prog 78 #[.int .i64 n,.int .i64 lo,.int .i64 hi] w fun e w'=>e= .returned (.bool b)/\w=w':=by
 subst h;exact yS n lo hi w
theorem zN (n lo hi:Int) (b:Bool) (w:World) (h:inB n lo hi=b):
  Calls Tryz.prog 138 #[.int .i64 n,.int .i64 lo,.int .i64 hi] w fun e w'=>e= .returned (.bool b)/\w=w':=by
 subst h;exact qa n lo hi w
theorem XU (v:Value) (l:List Pr) (b:Bool) (w:World) (h:RP w v l) (hb:zW l=b):
  CB_ 154 #[v] w (.bool b):=by
 subst hb;exact Qg v l w h
theorem XD (v:Value) (ns:List Pr) (l:Pr) (b:Bool) (w:World) (h:RP w v ns) (fv:zW ns=true) (hb:zp ns l=b):
  CB_ 156 #[v,.agg #[.int .i64 l.1,.int .i64 l.2]] w (.bool b):=by
 subst hb;exact jn v ns l.1 l.2 w h fv
theorem z7p (v:Value) (ns:List Pr) (l m:Pr) (b:Bool) (w:World) (h:RP w v ns) (fv:zW ns=true) (hb:qW ns l m=b):
  CB_ 157 #[v,.agg #[.int .i64 l.1,.int .i64 l.2],.agg #[.int .i64 m.1,.int .i64 m.2]] w (.bool b):=by
 subst hb;exact z5i v ns l.1 l.2 m.1 m.2 w h fv
theorem z5k (v:Value) (ns:List Pr) (l n:Pr) (b:Bool) (w:World) (h:RP w v ns) (fv:zW ns=true) (hb:onB ns l n=b):
  CB_ 158 #[v,.agg #[.int .i64 l.1,.int .i64 l.2],.agg #[.int .i64 n.1,.int .i64 n.2]] w (.bool b):=by
 subst hb;exact z3V v ns l.1 l.2 n.1 n.2 w h fv
theorem z64 {ns:List Pr} {k:Nat} (hk:k<ns.length):((ndI ns k).1,(ndI ns k).2)∈ns.take k↔∃a:Nat,a<k/\qz (ndI ns a) (ndI ns k)=true:=by
 rw[List.mem_iff_getElem]
 constructor
 ·rintro⟨i,hi,h⟩
  rw[abn] at hi;refine⟨i,by omega,?_⟩
  rw[yw,qd ns i o_];rw[abq] at h;exact h
 ·rintro⟨a,ha,h⟩
  refine⟨a,by rw[abn];omega,?_⟩
  rw[abq,<-qd ns a o_];exact yw.1 h
theorem JC {ns ls:List Pr} (h:¬((1<=ns.length/\ns.length<=12)/\ls.length<=20)):winB ns ls=false:=
 jQ.2 fun hw=>h ⟨⟨hw.1,hw.2.1⟩,hw.2.2.1⟩
theorem z1A {ns ls:List Pr} (h:zW ns=false):winB ns ls=false:=
 jQ.2 fun hw=>by rw[hw.2.2.2.1] at h;cases h
theorem z4Y {ns ls:List Pr} {k:Nat} (hk:k<ns.length) (h:((ndI ns k).1,(ndI ns k).2)∈ns.take k):winB ns ls=false:=
 jQ.2 fun hw=>by
  obtain⟨a,ha,h⟩:=(z64 hk).1 h;rw[hw.2.2.2.2.1 a k ha hk] at h;cases h
theorem JN {ns ls:List Pr} {k:Nat} (hk:k<ls.length) (h:zp ns (ndI ls k)=false):winB ns ls=false:=
 jQ.2 fun hw=>by rw[(hw.2.2.2.2.2 k hk).1] at h;cases h
theorem ZN {ns ls:List Pr} {k i:Nat} (hk:k<ls.length) (hi:i<k) (h:qW ns (ndI ls k) (ndI ls i)=true):winB ns ls=false:=
 jQ.2 fun hw=>by rw[(hw.2.2.2.2.2 k hk).2.1 i hi] at h;cases h
theorem z0u {ns ls:List Pr} {k i:Nat} (hk:k<ls.length) (hi:i<ns.length) (h1:(i:Int)≠(ndI ls k).1) (h2:(i:Int)≠(ndI ls k).2) (h:onB ns (ndI ls k) (ndI ns i)=true):winB ns ls=false:=
 jQ.2 fun hw=>by rw[(hw.2.2.2.2.2 k hk).2.2 i hi h1 h2] at h;cases h
theorem z6j {ns ls:List Pr} (h1:(1<=ns.length/\ns.length<=12)/\ls.length<=20) (h2:zW ns=true) (h3:Dis ns ns.length) (h4:∀k:Nat,k<ls.length->LdOk ns ls k):winB ns ls=true:=
 zD.2 ⟨h1.1.1,h1.1.2,h1.2,h2,h3,h4⟩
theorem z62 (ns ls:List Pr):∀k:Nat,k<0->LdOk ns ls k:=fun k hk=>absurd hk o_
theorem z6l {ns ls:List Pr} {m:Nat} (h:∀k:Nat,k<m->LdOk ns ls k) (hm:LdOk ns ls m):∀k:Nat,k<m+1->LdOk ns ls k:=by
 intro k hk
 rcases Nat.lt_succ_iff_lt_or_eq.1 hk with h1|h1
 ·exact h k h1
 ·subst h1;exact hm
theorem z5b (vn vl:Value) (ns ls:List Pr) (w:World) (hn:RP w vn ns) (hl:RP w vl ls):
  CB_ 87 #[.agg #[vn,vl]] w (.bool (winB ns ls)):=by
 obtain⟨An,cn,rfl,ci,fC,Ht⟩:=hn.formI;obtain⟨Al,cl,rfl,Ho,GO,gx⟩:=hl.formI;unfold maxLen at fC GO
 by_cases hE:(1<=ns.length/\ns.length<=12)/\ls.length<=20
 case neg=>
  have HR:=h_ (JC hE);have HE:=h_ hE;obtain⟨b,hb⟩:∃b,zW ns=b:=⟨_,rfl⟩;clear hE Ht gx
  by_cases h1:1<=ns.length/\ns.length<=12
  ·have i1:inB (ns.length:Int) 1 12=true:=zd.2 o_
   have i2:(20:Int)<(ls.length:Int):=by
    have:¬ls.length<=20:=fun h=>HE.out ⟨h1,h⟩
    omega
   clear h1
   go_enter Tryz.func87,Tryz.ntmps87
   go_wp2_with (go_at_call 78;refine(zm _ _ _ _ _ i1).mono ?_;rintro e w' ⟨rfl,rfl⟩)
   go_ret
   exact⟨z8 HR.out.symm,by exact bel_⟩
  ·have i1:inB (ns.length:Int) 1 12=false:=z0C.2 o_
   clear h1
   go_enter Tryz.func87,Tryz.ntmps87
   go_wp2_with (go_at_call 78;refine(zm _ _ _ _ _ i1).mono ?_;rintro e w' ⟨rfl,rfl⟩)
   go_ret
   exact⟨z8 HR.out.symm,by exact bel_⟩
 have i1:inB (ns.length:Int) 1 12=true:=zd.2 o_;have i2:¬(20:Int)<(ls.length:Int):=o_
 cases fv:zW ns
 ·have HR:=h_ (z1A (ls:=ls) fv)
  clear Ht gx
  go_enter Tryz.func87,Tryz.ntmps87
  go_wp2_with (go_at_call 78;refine(zm _ _ _ _ _ i1).mono ?_;rintro e w' ⟨rfl,rfl⟩)
  refine(XU _ ns _ _ (hn.below bel_) fv).mono ?_
  rintro e w1 ⟨rfl,h9⟩;go_wp2;go_ret
  exact⟨z8 HR.out.symm,by exact bel_⟩
 have HE:=h_ hE;clear hE
 go_enter Tryz.func87,Tryz.ntmps87
 go_wp2_with (go_at_call 78;refine(zm _ _ _ _ _ i1).mono ?_;rintro e w' ⟨rfl,rfl⟩)
 refine(XU _ ns _ _ (hn.below bel_) fv).mono ?_
 rintro e w1 ⟨rfl,h9⟩;have gg:Blk w1 w.heap.size 27 #[.slice An ns.length cn,.slice Al ls.length cl]:=Blk.below (Blk.newAt rfl) h9 sz_;have h8:Below w.heap.size w w1:=bel_
 clear h9 i1;obtain⟨a_0,a_1⟩:=gg.c2;go_wp2
 go_loopw [31] (fun i wr=>∃k:Nat,k<=ns.length/\i= .int .i64 k/\Hid (Dis ns k)/\Blk wr w.heap.size 27 #[.slice An ns.length cn,.slice Al ls.length cl]/\Below w.heap.size w wr) (fun i _=>ns.length -(intOf i).toNat)
 case atStart=>exact⟨0,aab _,rfl,h_ (Dis.zero ns),gg,h8⟩
 case round=>
  obtain⟨k,hk,rfl,HD,hW,Hb⟩:=hrel;clear gg h8 a_0 a_1;have gj:=hW.lt
  by_cases Hd:k<ns.length
  ·obtain⟨b,off,rfl,hb,Gq⟩:=Ht o_
   obtain⟨k0,k1⟩:=Gq k Hd;have q0:=(Hb.cell (p:=⟨b,off+k*2,none⟩) hb).trans k0;have q1:=(Hb.cell (p:=⟨b,off+k*2+1,none⟩) hb).trans k1;have hT:=RP.take hn k hk;have FT:(0:Int)<=(k:Int):=o_
   have cf:(k:Int)<(ns.length:Int):=o_
   have MZ:k<=cn:=o_
   have hi4:(k:Int)<=(cn:Int):=o_
   obtain⟨a_0,a_1⟩:=hW.c2;clear k0 k1 Gq Ht
   by_cases CR:((ndI ns k).1,(ndI ns k).2)∈ns.take k
   ·have HR:=h_ (z4Y (ls:=ls) Hd CR)
    have hd:=aaR CR;go_wp2
    (refine z7 k_ k_ (fun hG=>?_))
    repeat (go_big_quiet_step ((go_at_call 155;exact zy (ZR _ _ _ _ _ _ (RS.grw _ (RP.below hT bel_)) hd))))
    (refine wpQuiet_nil ?_);(clear hG);(rintro w2 ⟨⟨_,He⟩,rfl⟩);(try dsimp only)
    go_wp2;go_ret
    exact⟨z8 HR.out.symm,by exact bel_⟩
   ·have HX:Hid (Dis ns (k+1)):=h_ (HD.out.succ fun a ha=>by
     cases h:qz (ndI ns a) (ndI ns k)
     ·rfl
     ·exact absurd ((z64 Hd).2 ⟨a,ha,h⟩) CR)
    have hd:=aaP CR;go_wp2
    (refine z7 k_ k_ (fun hG=>?_))
    repeat (go_big_quiet_step ((go_at_call 155;exact zy (ZR _ _ _ _ _ _ (RS.grw _ (RP.below hT bel_)) hd))))
    (refine wpQuiet_nil ?_);(clear hG);(rintro w2 ⟨⟨_,He⟩,rfl⟩);(try dsimp only)
    have gV:Blk w2 w.heap.size 27 #[.slice (some ⟨b,off,none⟩) ns.length cn,.slice Al ls.length cl]:=Blk.below (hW.alloc _) He sz_;have Ha:Below w.heap.size w w2:=bel_
    go_wp2;go_roundw
    case rel=>exact⟨k+1,by omega,by go_num,HX,gV,Ha⟩
    case measure=>simp[intOf];omega
  ·have Hw:k=ns.length:=o_
   subst Hw;obtain⟨a_0,a_1⟩:=hW.c2;clear Hd;have WP:=h_ HD.out;clear HD;have fW:=Hb;have gD:=hW;go_wp2
   go_loopw [46] (fun i wr=>∃k:Nat,k<=ls.length/\i= .int .i64 k/\Hid (∀j:Nat,j<k->LdOk ns ls j)/\Blk wr w.heap.size 27 #[.slice An ns.length cn,.slice Al ls.length cl]/\Below w.heap.size w wr) (fun i _=>ls.length -(intOf i).toNat)
   case atStart=>exact⟨0,aab _,rfl,h_ (z62 ns ls),gD,fW⟩
   case round=>
    obtain⟨k,hk,rfl,Bk,hW,Hb⟩:=hrel;clear gD fW a_0 a_1;have gj:=hW.lt
    by_cases Hd:k<ls.length
    ·obtain⟨b,off,rfl,hb,Gq⟩:=gx o_
     obtain⟨k0,k1⟩:=Gq k Hd;have q0:=(Hb.cell (p:=⟨b,off+k*2,none⟩) hb).trans k0;have q1:=(Hb.cell (p:=⟨b,off+k*2+1,none⟩) hb).trans k1;have FT:(0:Int)<=(k:Int):=o_
     have cf:(k:Int)<(ls.length:Int):=o_
     have MZ:k<=cl:=o_
     have hi4:(k:Int)<=(cl:Int):=o_
     obtain⟨a_0,a_1⟩:=hW.c2
     cases Hu:zp ns (ndI ls k)
     ·have HR:=h_ (JN Hd Hu)
      clear k0 k1 Gq Ht
      go_wp2_with fail
      refine(XD _ ns (ndI ls k) _ _ (hn.below bel_) fv Hu).mono ?_
      rintro e w2 ⟨rfl,He⟩;go_wp2;go_ret
      exact⟨z8 HR.out.symm,by exact bel_⟩
     ·have HLK:=h_ Hu
      clear k0 k1;generalize hL:ndI ls (k:Int)=L at*;have HL:=h_ hL;clear hL;have GE:Below w.heap.size w (wr.alloc (.cells #[.int .i64 L.1,.int .i64 L.2] 108)):=bel_
      go_wp2_with fail
      refine(XD _ ns L _ _ (hn.below bel_) fv Hu).mono ?_
      rintro e w2 ⟨rfl,He⟩;have gV:Blk w2 w.heap.size 27 #[.slice An ns.length cn,.slice (some ⟨b,off,none⟩) ls.length cl]:=Blk.below (hW.alloc _) He sz_;have uP:Blk w2 wr.heap.size 108 #[.int .i64 L.1,.int .i64 L.2]:=Blk.below (Blk.newAt rfl) He sz_;have Ha:Below w.heap.size w w2:=bel_
      generalize wr.heap.size=B5 at*;clear a_0 a_1 He GE hW Hb q0 q1;obtain⟨a_0,a_1⟩:=gV.c2;obtain⟨x_0,x_1⟩:=uP.c2;go_wp2
      go_loopw [61] (fun i wr=>∃j:Nat,j<=k/\i= .int .i64 j/\Hid (CrOk ns ls L j)/\Blk wr w.heap.size 27 #[.slice An ns.length cn,.slice (some ⟨b,off,none⟩) ls.length cl]/\Blk wr B5 108 #[.int .i64 L.1,.int .i64 L.2]/\Below w.heap.size w wr) (fun i _=>k -(intOf i).toNat)
      case atStart=>exact⟨0,aab _,rfl,h_ (CrOk.zero ns ls L),gV,uP,Ha⟩
      case round=>
       obtain⟨j,hj,rfl,HC,hW,cj,Hb⟩:=hrel;clear gV uP Ha a_0 a_1 x_0 x_1;have gj:=hW.lt;have FO:=cj.lt;obtain⟨a_0,a_1⟩:=hW.c2;obtain⟨x_0,x_1⟩:=cj.c2
       by_cases F8:j<k
       ·obtain⟨k0,k1⟩:=Gq j o_
        have q0:=(Hb.cell (p:=⟨b,off+j*2,none⟩) hb).trans k0;have q1:=(Hb.cell (p:=⟨b,off+j*2+1,none⟩) hb).trans k1;have hi5:(0:Int)<=(j:Int):=o_
        have hi6:(j:Int)<(k:Int):=o_
        clear k0 k1;obtain⟨E,hE⟩:∃E,qW ns L (ndI ls j)=E:=⟨_,rfl⟩;have HX:Hid (E=true->winB ns ls=false):=h_ (fun e=>ZN Hd F8 (by rw[HL.out,hE,e]));have mM:Hid (E=false->CrOk ns ls L (j+1)):=h_ (fun e=>HC.out.succ (by rw[hE,e]));generalize ndI ls (j:Int)=M at*
        go_wp2_with fail
        refine(z7p _ ns L M _ _ (hn.below bel_) fv hE).mono ?_
        rintro e w3 ⟨rfl,Hf⟩;have GJ:Blk w3 w.heap.size 27 #[.slice An ns.length cn,.slice (some ⟨b,off,none⟩) ls.length cl]:=Blk.below (hW.alloc _) Hf sz_;have mx:Blk w3 B5 108 #[.int .i64 L.1,.int .i64 L.2]:=Blk.below (cj.alloc _) Hf sz_;have Hc:Below w.heap.size w w3:=bel_
        clear Hf hW cj Hb a_0 a_1 x_0 x_1 q0 q1
        cases E
        ·have HY:=h_ (mM.out rfl)
         go_wp2;go_roundw
         case rel=>exact⟨j+1,by omega,by go_num,HY,GJ,mx,Hc⟩
         case measure=>simp[intOf];omega
        ·have HY:=h_ (HX.out rfl)
         go_wp2;go_ret
         exact⟨z8 HY.out.symm,Hc⟩
       ·have GV:j=k:=o_
        subst GV;have uQ:=h_ HC.out;have gD:=hW;have hL0:=cj;have fW:=Hb;clear HC F8;go_wp2
        go_loopw [74] (fun i wr=>∃m:Nat,m<=ns.length/\i= .int .i64 m/\Hid (OnOk ns L m)/\Blk wr w.heap.size 27 #[.slice An ns.length cn,.slice (some ⟨b,off,none⟩) ls.length cl]/\Blk wr B5 108 #[.int .i64 L.1,.int .i64 L.2]/\Below w.heap.size w wr) (fun i _=>ns.length -(intOf i).toNat)
        case atStart=>exact⟨0,aab _,rfl,h_ (OnOk.zero ns L),gD,hL0,fW⟩
        case round=>
         obtain⟨m,hm,rfl,HO,hW,cj,Hb⟩:=hrel;clear gD hL0 fW a_0 a_1 x_0 x_1 gj FO;have gj:=hW.lt;have FO:=cj.lt;obtain⟨a_0,a_1⟩:=hW.c2;obtain⟨x_0,x_1⟩:=cj.c2
         by_cases Nt:m<ns.length
         ·obtain⟨bn,offn,rfl,GE,Nu⟩:=Ht o_
          obtain⟨k0,k1⟩:=Nu m Nt;have q0:=(Hb.cell (p:=⟨bn,offn+m*2,none⟩) GE).trans k0;have q1:=(Hb.cell (p:=⟨bn,offn+m*2+1,none⟩) GE).trans k1;have hi5:(0:Int)<=(m:Int):=o_
          have hi6:(m:Int)<(ns.length:Int):=o_
          clear k0 k1 Nu Ht
          by_cases h1:(m:Int)=L.1
          ·have HY:Hid (OnOk ns L (m+1)):=h_ (HO.out.succ (fun h _=>absurd h1 h))
           have Hc:Below w.heap.size w (wr.alloc (.cells #[.int .i64 (ndI ns m).1,.int .i64 (ndI ns m).2] 106)):=bel_
           have e1:((m:Int) != L.1)=false:=by simp[h1]
           clear h1;go_wp2;go_roundw
           case rel=>exact⟨m+1,by omega,by go_num,HY,hW.alloc _,cj.alloc _,Hc⟩
           case measure=>simp[intOf];omega
          ·have e1:((m:Int) != L.1)=true:=by simp[h1]
           have H1:=h_ h1;clear h1
           by_cases h2:(m:Int)=L.2
           ·have HY:Hid (OnOk ns L (m+1)):=h_ (HO.out.succ (fun _ h=>absurd h2 h))
            have Hc:Below w.heap.size w (wr.alloc (.cells #[.int .i64 (ndI ns m).1,.int .i64 (ndI ns m).2] 106)):=bel_
            have e2:((m:Int) != L.2)=false:=by simp[h2]
            clear h2;go_wp2;go_roundw
            case rel=>exact⟨m+1,by omega,by go_num,HY,hW.alloc _,cj.alloc _,Hc⟩
            case measure=>simp[intOf];omega
           ·have e2:((m:Int) != L.2)=true:=by simp[h2]
            have H2:=h_ h2;clear h2;obtain⟨E,hE⟩:∃E,onB ns L (ndI ns m)=E:=⟨_,rfl⟩;have HX:Hid (E=true->winB ns ls=false):=h_ (fun e=>z0u Hd Nt (by rw[HL.out];exact H1.out) (by rw[HL.out];exact H2.out) (by rw[HL.out,hE,e]));have mM:Hid (E=false->OnOk ns L (m+1)):=h_ (fun e=>HO.out.succ (fun _ _=>by rw[hE,e]));generalize ndI ns (m:Int)=M at*
            go_wp2_with fail
            refine(z5k _ ns L M _ _ (hn.below bel_) fv hE).mono ?_
            rintro e w3 ⟨rfl,Hf⟩;have GJ:Blk w3 w.heap.size 27 #[.slice (some ⟨bn,offn,none⟩) ns.length cn,.slice (some ⟨b,off,none⟩) ls.length cl]:=Blk.below (hW.alloc _) Hf sz_;have mx:Blk w3 B5 108 #[.int .i64 L.1,.int .i64 L.2]:=Blk.below (cj.alloc _) Hf sz_;have Hc:Below w.heap.size w w3:=bel_
            clear Hf hW cj Hb a_0 a_1 x_0 x_1 q0 q1
            cases E
            ·have HY:=h_ (mM.out rfl)
             go_wp2;go_roundw
             case rel=>exact⟨m+1,by omega,by go_num,HY,GJ,mx,Hc⟩
             case measure=>simp[intOf];omega
            ·have HY:=h_ (HX.out rfl)
             go_wp2;go_ret
             exact⟨z8 HY.out.symm,Hc⟩
         ·have c9:m=ns.length:=o_
          subst c9;have HY:Hid (∀i:Nat,i<j+1->LdOk ns ls i):=h_ (z6l Bk.out ⟨by rw[HL.out];exact HLK.out,by rw[HL.out];exact uQ.out,by rw[HL.out];exact HO.out⟩);clear Ht;go_wp2;go_roundw
          case rel=>exact⟨j+1,by omega,by go_num,HY,hW,Hb⟩
          case measure=>simp[intOf];omega
    ·have Hw:k=ls.length:=o_
     subst Hw;have HR:=h_ (z6j HE.out fv WP.out Bk.out);clear Hd Ht gx;go_wp2;go_ret
     exact⟨z8 HR.out.symm,Hb⟩
attribute [local go_sem ↓] zv zu qb qf
theorem z1e (p:Pr) (b:Bool) (w:World) (h:jA p=b):
  CB_ 195 #[.agg #[.int .i64 p.1,.int .i64 p.2]] w (.bool b):=zH p.1 p.2 b w h
theorem XY (v:Value) (ns:List Pr) (l:Pr) (b:Bool) (w:World) (h:RP w v ns) (hb:zp ns l=b):
  CB_ 196 #[v,.agg #[.int .i64 l.1,.int .i64 l.2]] w (.bool b):=by
 subst hb;exact jp v ns l.1 l.2 w h
theorem z78 (v:Value) (ns:List Pr) (l m:Pr) (b:Bool) (w:World) (h:RP w v ns) (hb:qW ns m l=b):
  CB_ 197 #[v,.agg #[.int .i64 l.1,.int .i64 l.2],.agg #[.int .i64 m.1,.int .i64 m.2]] w (.bool b):=by
 rw[Q8] at hb;subst hb;exact z4Z v ns l.1 l.2 m.1 m.2 w h
theorem z4z (v:Value) (ns:List Pr) (l n:Pr) (b:Bool) (w:World) (h:RP w v ns) (hb:onB ns l n=b):
  CB_ 198 #[v,.agg #[.int .i64 l.1,.int .i64 l.2],.agg #[.int .i64 n.1,.int .i64 n.2]] w (.bool b):=by
 subst hb;exact z2T v ns l.1 l.2 n.1 n.2 w h
theorem z2U {ns:List Pr} {k:Nat} (hk:k<ns.length) (h:zW (ns.take k)=true) (h2:jA (ndI ns k)=true):zW (ns.take (k+1))=true:=by
 unfold zW at h⊢;rw[aax hk,List.all_append,h,<-qd ns k hk]
 simpa[jA] using h2
theorem z2W {ns ls:List Pr} {k:Nat} (hk:k<ns.length) (h:jA (ndI ns k)=false):winB ns ls=false:=
 jQ.2 fun hw=>by rw[y7 hw.2.2.2.1 k hk] at h;cases h
theorem z3O {ns ls:List Pr} {i k:Nat} (hi:i<k) (hk:k<ns.length) (h:qz (ndI ns i) (ndI ns k)=true):winB ns ls=false:=
 jQ.2 fun hw=>by rw[hw.2.2.2.2.1 i k hi hk] at h;cases h
theorem z5E (vn vl:Value) (ns ls:List Pr) (w:World) (hn:RP w vn ns) (hl:RP w vl ls):
  CB_ 118 #[.agg #[vn,vl]] w (.bool (winB ns ls)):=by
 obtain⟨An,cn,rfl,ci,fC,Ht⟩:=hn.formI;obtain⟨Al,cl,rfl,Ho,GO,gx⟩:=hl.formI;unfold maxLen at fC GO
 by_cases hE:(1<=ns.length/\ns.length<=12)/\ls.length<=20
 case neg=>
  have HR:=h_ (JC hE);have HE:=h_ hE;clear hE Ht gx
  by_cases h1:1<=ns.length/\ns.length<=12
  ·have i1:inB (ns.length:Int) 1 12=true:=zd.2 o_
   have i2:(20:Int)<(ls.length:Int):=by
    have:¬ls.length<=20:=fun h=>HE.out ⟨h1,h⟩
    omega
   clear h1
   go_enter Tryz.func118,Tryz.ntmps118
   go_wp2_with (go_at_call 138;refine(zN _ _ _ _ _ i1).mono ?_;rintro e w' ⟨rfl,rfl⟩)
   go_ret
   exact⟨z8 HR.out.symm,by exact bel_⟩
  ·have i1:inB (ns.length:Int) 1 12=false:=z0C.2 o_
   clear h1
   go_enter Tryz.func118,Tryz.ntmps118
   go_wp2_with (go_at_call 138;refine(zN _ _ _ _ _ i1).mono ?_;rintro e w' ⟨rfl,rfl⟩)
   go_ret
   exact⟨z8 HR.out.symm,by exact bel_⟩
 have i1:inB (ns.length:Int) 1 12=true:=zd.2 o_;have i2:¬(20:Int)<(ls.length:Int):=o_
 have HE:=h_ hE;clear hE
 go_enter Tryz.func118,Tryz.ntmps118
 go_wp2_with (go_at_call 138;refine(zN _ _ _ _ _ i1).mono ?_;rintro e w' ⟨rfl,rfl⟩)
 go_loopw [3] (fun i wr=>∃k:Nat,k<=ns.length/\i= .int .i64 k/\Hid (zW (ns.take k)=true/\Dis ns k)/\Blk wr w.heap.size 27 #[.slice An ns.length cn,.slice Al ls.length cl]/\Below w.heap.size w wr) (fun i _=>ns.length -(intOf i).toNat)
 case atStart=>exact⟨0,aab _,rfl,h_ ⟨by simp[zW],Dis.zero ns⟩,Blk.newAt rfl,by exact bel_⟩
 case round=>
  obtain⟨k,hk,rfl,HD,hW,Hb⟩:=hrel;have gj:=hW.lt;obtain⟨a_0,a_1⟩:=hW.c2
  by_cases Hd:k<ns.length
  ·obtain⟨b,off,rfl,hb,Gq⟩:=Ht o_
   obtain⟨k0,k1⟩:=Gq k Hd;have q0:=(Hb.cell (p:=⟨b,off+k*2,none⟩) hb).trans k0;have q1:=(Hb.cell (p:=⟨b,off+k*2+1,none⟩) hb).trans k1;have FT:(0:Int)<=(k:Int):=o_
   have cf:(k:Int)<(ns.length:Int):=o_
   clear Ht
   cases hnd:jA (ndI ns k)
   ·have HR:=h_ (z2W (ls:=ls) Hd hnd)
    clear k0 k1
    go_wp2_with fail
    refine(z1e (ndI ns k) _ _ hnd).mono ?_
    rintro e w2 ⟨rfl,He⟩;go_wp2;go_ret
    exact⟨z8 HR.out.symm,by exact bel_⟩
   ·have us:=h_ (z2U Hd HD.out.1 hnd)
    go_wp2_with fail
    refine(z1e (ndI ns k) _ _ hnd).mono ?_
    rintro e w2 ⟨rfl,He⟩;have gV:Blk w2 w.heap.size 27 #[.slice (some ⟨b,off,none⟩) ns.length cn,.slice Al ls.length cl]:=Blk.below hW He sz_;have Ha:Below w.heap.size w w2:=bel_
    clear He hW Hb q0 q1 a_0 a_1;go_wp2
    go_loopw [4] (fun i wr=>∃j:Nat,j<=k/\i= .int .i64 j/\Hid (∀a:Nat,a<j->qz (ndI ns a) (ndI ns k)=false)/\Blk wr w.heap.size 27 #[.slice (some ⟨b,off,none⟩) ns.length cn,.slice Al ls.length cl]/\Below w.heap.size w wr) (fun i _=>k -(intOf i).toNat)
    case atStart=>exact⟨0,aab _,rfl,h_ (fun a ha=>absurd ha o_),gV,Ha⟩
    case round=>
     obtain⟨j,hj,rfl,HS,hW,Hb⟩:=hrel;clear gV Ha;obtain⟨a_0,a_1⟩:=hW.c2
     by_cases F8:j<k
     ·obtain⟨j0,j1⟩:=Gq j o_
      have q0:=(Hb.cell (p:=⟨b,off+k*2,none⟩) hb).trans k0;have q1:=(Hb.cell (p:=⟨b,off+k*2+1,none⟩) hb).trans k1;have q2:=(Hb.cell (p:=⟨b,off+j*2,none⟩) hb).trans j0;have q3:=(Hb.cell (p:=⟨b,off+j*2+1,none⟩) hb).trans j1;have MZ:(0:Int)<=(j:Int):=o_
      have hi4:(j:Int)<(ns.length:Int):=o_
      have hi5:(j:Int)<(k:Int):=o_
      clear k0 k1 j0 j1 Gq
      cases hsm:prB (ndI ns j).1 (ndI ns j).2 (ndI ns k).1 (ndI ns k).2
      ·have HX:Hid (∀a:Nat,a<j+1->qz (ndI ns a) (ndI ns k)=false):=h_ (by
        intro a ha
        rcases Nat.lt_succ_iff_lt_or_eq.1 ha with h|h
        ·exact HS.out a h
        ·subst h;exact hsm)
       go_wp2
       go_quiet (fail)
       go_wp2;go_roundw
       case rel=>exact⟨j+1,by omega,by go_num,HX,hW,by exact bel_⟩
       case measure=>simp[intOf];omega
      ·have HR:=h_ (z3O (ls:=ls) F8 Hd hsm)
       go_wp2
       go_quiet (fail)
       go_wp2;go_ret
       exact⟨z8 HR.out.symm,by exact bel_⟩
     ·have GV:j=k:=o_
      subst GV;have HX:Hid (zW (ns.take (j+1))=true/\Dis ns (j+1)):=h_ ⟨us.out,HD.out.2.succ HS.out⟩;clear k0 k1 Gq F8;go_wp2;go_roundw
      case rel=>exact⟨j+1,by omega,by go_num,HX,hW,Hb⟩
      case measure=>simp[intOf];omega
  ·have Hw:k=ns.length:=o_
   subst Hw
   have fv:zW ns=true:=by
    have:=HD.out.1
    rwa [aaB] at this
   have WP:=h_ HD.out.2;clear HD Hd;have fW:=Hb;have gD:=hW;go_wp2
   go_loopw [5] (fun i wr=>∃k:Nat,k<=ls.length/\i= .int .i64 k/\Hid (∀j:Nat,j<k->LdOk ns ls j)/\Blk wr w.heap.size 27 #[.slice An ns.length cn,.slice Al ls.length cl]/\Below w.heap.size w wr) (fun i _=>ls.length -(intOf i).toNat)
   case atStart=>exact⟨0,aab _,rfl,h_ (z62 ns ls),gD,fW⟩
   case round=>
    obtain⟨k,hk,rfl,Bk,hW,Hb⟩:=hrel;clear gD fW a_0 a_1;have gj:=hW.lt
    by_cases Hd:k<ls.length
    ·obtain⟨b,off,rfl,hb,Gq⟩:=gx o_
     obtain⟨k0,k1⟩:=Gq k Hd;have q0:=(Hb.cell (p:=⟨b,off+k*2,none⟩) hb).trans k0;have q1:=(Hb.cell (p:=⟨b,off+k*2+1,none⟩) hb).trans k1;have FT:(0:Int)<=(k:Int):=o_
     have cf:(k:Int)<(ls.length:Int):=o_
     obtain⟨a_0,a_1⟩:=hW.c2;have Fs:b<wr.heap.size:=by have:=Hb.size;omega
     cases Hu:zp ns (ndI ls k)
     ·have HR:=h_ (JN Hd Hu)
      clear k0 k1 Gq Ht
      go_wp2_with fail
      refine(XY _ ns (ndI ls k) _ _ (hn.below bel_) Hu).mono ?_
      rintro e w2 ⟨rfl,He⟩;go_wp2;go_ret
      exact⟨z8 HR.out.symm,by exact bel_⟩
     ·have HLK:=h_ Hu
      clear k0 k1;generalize hL:ndI ls (k:Int)=L at*;have HL:=h_ hL;clear hL
      go_wp2_with fail
      refine(XY _ ns L _ _ (hn.below bel_) Hu).mono ?_
      rintro e w2 ⟨rfl,He⟩;have gV:Blk w2 w.heap.size 27 #[.slice An ns.length cn,.slice (some ⟨b,off,none⟩) ls.length cl]:=Blk.below (hW.alloc _) He sz_;have uP:Blk w2 wr.heap.size 108 #[.int .i64 L.1,.int .i64 L.2]:=Blk.below (Blk.newAt rfl) He sz_;have Ha:Below w.heap.size w w2:=bel_
      generalize wr.heap.size=B5 at*;clear a_0 a_1 He hW Hb q0 q1;go_wp2
      go_loopw [7] (fun i wr=>∃j:Nat,j<=k/\i= .int .i64 j/\Hid (CrOk ns ls L j)/\Blk wr w.heap.size 27 #[.slice An ns.length cn,.slice (some ⟨b,off,none⟩) ls.length cl]/\Blk wr B5 108 #[.int .i64 L.1,.int .i64 L.2]/\Below w.heap.size w wr) (fun i _=>k -(intOf i).toNat)
      case atStart=>exact⟨0,aab _,rfl,h_ (CrOk.zero ns ls L),gV,uP,Ha⟩
      case round=>
       obtain⟨j,hj,rfl,HC,hW,cj,Hb⟩:=hrel;clear gV uP Ha;have gj:=hW.lt;have FO:=cj.lt;obtain⟨a_0,a_1⟩:=hW.c2;obtain⟨x_0,x_1⟩:=cj.c2
       by_cases F8:j<k
       ·obtain⟨k0,k1⟩:=Gq j o_
        have q0:=(Hb.cell (p:=⟨b,off+j*2,none⟩) hb).trans k0;have q1:=(Hb.cell (p:=⟨b,off+j*2+1,none⟩) hb).trans k1;have hi5:(0:Int)<=(j:Int):=o_
        have hi6:(j:Int)<(k:Int):=o_
        have hi7:(j:Int)<(ls.length:Int):=o_
        have MI:b<wr.heap.size:=by have:=Hb.size;omega
        clear k0 k1;obtain⟨E,hE⟩:∃E,qW ns L (ndI ls j)=E:=⟨_,rfl⟩;have HX:Hid (E=true->winB ns ls=false):=h_ (fun e=>ZN Hd F8 (by rw[HL.out,hE,e]));have mM:Hid (E=false->CrOk ns ls L (j+1)):=h_ (fun e=>HC.out.succ (by rw[hE,e]));generalize ndI ls (j:Int)=M at*;have WQ:RP wr (.slice An ns.length cn) ns:=hn.below Hb
        go_wp2_with fail
        (refine z7 k_ k_ (fun hG=>?_))
        repeat (go_big_quiet_step ((go_at_call 197;exact zy (z78 _ ns M L _ _ (RS.grw _ WQ) hE))))
        (refine wpQuiet_nil ?_);(clear hG);(rintro w3 ⟨⟨_,Hf⟩,rfl⟩);(try dsimp only)
        have GJ:Blk w3 w.heap.size 27 #[.slice An ns.length cn,.slice (some ⟨b,off,none⟩) ls.length cl]:=Blk.below hW Hf sz_;have mx:Blk w3 B5 108 #[.int .i64 L.1,.int .i64 L.2]:=Blk.below cj Hf sz_;have Hc:Below w.heap.size w w3:=bel_
        clear Hf hW cj Hb a_0 a_1 x_0 x_1 q0 q1 WQ
        cases E
        ·have HY:=h_ (mM.out rfl)
         go_wp2;go_roundw
         case rel=>exact⟨j+1,by omega,by go_num,HY,GJ,mx,Hc⟩
         case measure=>simp[intOf];omega
        ·have HY:=h_ (HX.out rfl)
         go_wp2;go_ret
         exact⟨z8 HY.out.symm,Hc⟩
       ·have GV:j=k:=o_
        subst GV;have uQ:=h_ HC.out;have gD:=hW;have hL0:=cj;have fW:=Hb;clear HC F8;go_wp2
        go_loopw [8] (fun i wr=>∃m:Nat,m<=ns.length/\i= .int .i64 m/\Hid (OnOk ns L m)/\Blk wr w.heap.size 27 #[.slice An ns.length cn,.slice (some ⟨b,off,none⟩) ls.length cl]/\Blk wr B5 108 #[.int .i64 L.1,.int .i64 L.2]/\Below w.heap.size w wr) (fun i _=>ns.length -(intOf i).toNat)
        case atStart=>exact⟨0,aab _,rfl,h_ (OnOk.zero ns L),gD,hL0,fW⟩
        case round=>
         obtain⟨m,hm,rfl,HO,hW,cj,Hb⟩:=hrel;clear gD hL0 fW a_0 a_1 x_0 x_1 gj FO;have gj:=hW.lt;have FO:=cj.lt;obtain⟨a_0,a_1⟩:=hW.c2;obtain⟨x_0,x_1⟩:=cj.c2
         by_cases Nt:m<ns.length
         ·obtain⟨bn,offn,rfl,GE,Nu⟩:=Ht o_
          obtain⟨k0,k1⟩:=Nu m Nt;have q0:=(Hb.cell (p:=⟨bn,offn+m*2,none⟩) GE).trans k0;have q1:=(Hb.cell (p:=⟨bn,offn+m*2+1,none⟩) GE).trans k1;have hi5:(0:Int)<=(m:Int):=o_
          have hi6:(m:Int)<(ns.length:Int):=o_
          have MI:bn<wr.heap.size:=by have:=Hb.size;omega
          have WQ:RP wr (.slice (some ⟨bn,offn,none⟩) ns.length cn) ns:=hn.below Hb;clear k0 k1 Nu Ht
          by_cases h1:(m:Int)=L.1
          ·have HY:Hid (OnOk ns L (m+1)):=h_ (HO.out.succ (fun h _=>absurd h1 h))
           have e1:((m:Int) != L.1)=false:=by simp[h1]
           clear h1
           go_wp2_with fail
           (refine z7 k_ k_ (fun hG=>?_))
           repeat (go_big_quiet_step (fail))
           (refine wpQuiet_nil ?_);(clear hG);(rintro w3 ⟨⟨_,Hf⟩,rfl⟩);(try dsimp only)
           have GJ:Blk w3 w.heap.size 27 #[.slice (some ⟨bn,offn,none⟩) ns.length cn,.slice (some ⟨b,off,none⟩) ls.length cl]:=Blk.below hW Hf sz_;have mx:Blk w3 B5 108 #[.int .i64 L.1,.int .i64 L.2]:=Blk.below cj Hf sz_;have Hc:Below w.heap.size w w3:=bel_
           clear Hf hW cj Hb a_0 a_1 x_0 x_1 q0 q1 WQ;go_wp2;go_roundw
           case rel=>exact⟨m+1,by omega,by go_num,HY,GJ,mx,Hc⟩
           case measure=>simp[intOf];omega
          ·have e1:((m:Int) != L.1)=true:=by simp[h1]
           have H1:=h_ h1;clear h1
           by_cases h2:(m:Int)=L.2
           ·have HY:Hid (OnOk ns L (m+1)):=h_ (HO.out.succ (fun _ h=>absurd h2 h))
            have e2:((m:Int) != L.2)=false:=by simp[h2]
            clear h2
            go_wp2_with fail
            (refine z7 k_ k_ (fun hG=>?_))
            repeat (go_big_quiet_step (fail))
            (refine wpQuiet_nil ?_);(clear hG);(rintro w3 ⟨⟨_,Hf⟩,rfl⟩);(try dsimp only)
            have GJ:Blk w3 w.heap.size 27 #[.slice (some ⟨bn,offn,none⟩) ns.length cn,.slice (some ⟨b,off,none⟩) ls.length cl]:=Blk.below hW Hf sz_;have mx:Blk w3 B5 108 #[.int .i64 L.1,.int .i64 L.2]:=Blk.below cj Hf sz_;have Hc:Below w.heap.size w w3:=bel_
            clear Hf hW cj Hb a_0 a_1 x_0 x_1 q0 q1 WQ;go_wp2;go_roundw
            case rel=>exact⟨m+1,by omega,by go_num,HY,GJ,mx,Hc⟩
            case measure=>simp[intOf];omega
           ·have e2:((m:Int) != L.2)=true:=by simp[h2]
            have H2:=h_ h2;clear h2;obtain⟨E,hE⟩:∃E,onB ns L (ndI ns m)=E:=⟨_,rfl⟩;have HX:Hid (E=true->winB ns ls=false):=h_ (fun e=>z0u Hd Nt (by rw[HL.out];exact H1.out) (by rw[HL.out];exact H2.out) (by rw[HL.out,hE,e]));have mM:Hid (E=false->OnOk ns L (m+1)):=h_ (fun e=>HO.out.succ (fun _ _=>by rw[hE,e]));generalize ndI ns (m:Int)=M at*
            go_wp2_with fail
            (refine z7 k_ k_ (fun hG=>?_))
            repeat (go_big_quiet_step ((go_at_call 198;exact zy (z4z _ ns L M _ _ (RS.grw _ WQ) hE))))
            (refine wpQuiet_nil ?_);(clear hG);(rintro w3 ⟨⟨_,Hf⟩,rfl⟩);(try dsimp only)
            have GJ:Blk w3 w.heap.size 27 #[.slice (some ⟨bn,offn,none⟩) ns.length cn,.slice (some ⟨b,off,none⟩) ls.length cl]:=Blk.below hW Hf sz_;have mx:Blk w3 B5 108 #[.int .i64 L.1,.int .i64 L.2]:=Blk.below cj Hf sz_;have Hc:Below w.heap.size w w3:=bel_
            clear Hf hW cj Hb a_0 a_1 x_0 x_1 q0 q1 WQ
            cases E
            ·have HY:=h_ (mM.out rfl)
             go_wp2;go_roundw
             case rel=>exact⟨m+1,by omega,by go_num,HY,GJ,mx,Hc⟩
             case measure=>simp[intOf];omega
            ·have HY:=h_ (HX.out rfl)
             go_wp2;go_ret
             exact⟨z8 HY.out.symm,Hc⟩
         ·have c9:m=ns.length:=o_
          subst c9;have HY:Hid (∀i:Nat,i<j+1->LdOk ns ls i):=h_ (z6l Bk.out ⟨by rw[HL.out];exact HLK.out,by rw[HL.out];exact uQ.out,by rw[HL.out];exact HO.out⟩);clear Ht;go_wp2;go_roundw
          case rel=>exact⟨j+1,by omega,by go_num,HY,hW,Hb⟩
          case measure=>simp[intOf];omega
    ·have Hw:k=ls.length:=o_
     subst Hw;have HR:=h_ (z6j HE.out fv WP.out Bk.out);obtain⟨a_0,a_1⟩:=hW.c2;clear Hd Ht gx;go_wp2;go_ret
     exact⟨z8 HR.out.symm,Hb⟩
def posN (bf:Nat->Bool) (G:List Nat):Nat->Nat
 |0=>0
 |a+1=>if bf (G.getD a 0) then posN bf G a else a+1
def insN (bf:Nat->Bool) (d:Nat) (G:List Nat):List Nat:=G.take (posN bf G G.length)++d::G.drop (posN bf G G.length)
theorem z1Q (bf:Nat->Bool) (G:List Nat):∀a,posN bf G a<=a
 |0=>aaa _
 |a+1=>by
  unfold posN
  split
  ·exact Nat.le_succ_of_le (z1Q bf G a)
  ·exact aaa _
theorem JM (bf:Nat->Bool) (d:Nat) (G:List Nat):(insN bf d G).length =G.length+1:=by
 have:=z1Q bf G G.length;simp[insN];omega
theorem X8 {bf:Nat->Bool} {d e:Nat} {G:List Nat} (h:e∈insN bf d G):e=d∨e∈G:=by
 unfold insN at h;rw[aaJ,List.mem_cons] at h
 rcases h with h|h|h
 ·exact .inr (List.mem_of_mem_take h)
 ·exact .inl h
 ·exact .inr (List.mem_of_mem_drop h)
def bfD (ns ls:List Pr) (k:Nat) (d e:Nat):Bool:=
 befB (ndI ns k).1 (ndI ns k).2 (ndI ns (dTo ls d)).1 (ndI ns (dTo ls d)).2 (ndI ns (dTo ls e)).1 (ndI ns (dTo ls e)).2
def ardS (ns ls:List Pr) (k:Nat):Nat->List Nat
 |0=> []
 |d+1=>if zc ls d=k then insN (bfD ns ls k d) d (ardS ns ls k d) else ardS ns ls k d
theorem Qv {ns ls:List Pr} {k d:Nat} (h:¬zc ls d=k):ardS ns ls k (d+1)=ardS ns ls k d:=by simp[ardS,h]
theorem kH {ns ls:List Pr} {k d:Nat} (h:zc ls d=k):ardS ns ls k (d+1)=insN (bfD ns ls k d) d (ardS ns ls k d):=by simp[ardS,h]
theorem z2f (ns ls:List Pr) (k:Nat):∀d e,e∈ardS ns ls k d->e<d
 |0,e,h=>by simp[ardS] at h
 |d+1,e,h=>by
  unfold ardS at h
  split at h
  ·rcases X8 h with rfl|h
   ·omega
   ·have:=z2f ns ls k d e h;omega
  ·have:=z2f ns ls k d e h;omega
theorem VW (ns ls:List Pr) (k:Nat):∀d,(ardS ns ls k d).length <=d
 |0=>by simp[ardS]
 |d+1=>by
  unfold ardS
  split
  ·rw[JM];have:=VW ns ls k d;omega
  ·have:=VW ns ls k d;omega
def natI (G:List Nat):List Int:=G.map fun (d:Nat)=>(d:Int)
theorem za (G:List Nat):(natI G).length =G.length:=by simp[natI]
theorem OwnI.made {base:Nat} {w:World} {g:Nat} (hg:g=w.heap.size) (hb:base<=w.heap.size):OwnI base (w.alloc (.cells #[] 3)) (.slice (some ⟨g,0,none⟩) 0 0) []:=by
 subst hg;exact World.ownsRow_made _ _ _ hb (by simp) (by simp[maxLen])
theorem OwnI.form {base:Nat} {w:World} {v:Value} {zs:List Int} (h:OwnI base w v zs):∃A c,v= .slice A zs.length c:=by
 rcases h.2 with ⟨rfl,hn⟩|⟨g,cap,cur,rfl,_⟩
 ·exact⟨none,0,by rw[hn]⟩
 ·exact⟨_,_,rfl⟩
def gapI (G:List Nat) (at':Nat) (y:Int):List Int:=natI (G.take at')++y::natI (G.drop at')
theorem jq (G:List Nat) (a:Nat) (y:Int) (h:a<=G.length):(gapI G a y).length =G.length+1:=by
 simp[gapI,natI];omega
theorem J2 (G:List Nat) (y:Int):gapI G G.length y=natI G++[y]:=by simp[gapI,natI]
theorem xU (G:List Nat) (a:Nat) (y:Int) (h:a<G.length):(gapI G (a+1) y).getD a 0=((G.getD a 0:Nat):Int):=by
 unfold gapI natI;rw[List.getD,abd (by simp;omega)];simp[List.getElem?_take,h]
theorem J3 (G:List Nat) (a:Nat) (y:Int) (h:a<G.length):(gapI G (a+1) y).set (a+1) ((G.getD a 0:Nat):Int)=gapI G a ((G.getD a 0:Nat):Int):=by
 unfold gapI natI;rw[aan,aaq (by simp;omega)];have e:(List.map (fun (d:Nat)=>(d:Int)) (G.take (a+1))).length =a+1:=by simp;omega
 rw[e,aae,aal,aax h,aaA,aay];simp[List.getD,h]
 rw[aas (i:=a) (by simpa using h)];simp
theorem Q7 (G:List Nat) (a:Nat) (y:Int) (d:Nat) (h:a<=G.length):(gapI G a y).set a (d:Int)=natI (G.take a++d::G.drop a):=by
 unfold gapI natI;rw[aan,aaq (by simp;omega)];have e:(List.map (fun (d:Nat)=>(d:Int)) (G.take a)).length =a:=by simp;omega
 rw[e,aae,aal,aaA,aaT]
theorem jK {ns ls:List Pr} (Hu:∀j:Nat,j<ls.length->zp ns (ndI ls j)=true) {d:Nat} (hd:d<2*ls.length):∃t:Nat,dTo ls d=(t:Int)/\t<ns.length:=by
 obtain⟨h1,h2,h3,_⟩:=q9.1 (Hu (d/2) o_);unfold dTo
 split
 ·exact⟨(ndI ls (d/2:Nat)).1.toNat,by omega,by omega⟩
 ·exact⟨(ndI ls (d/2:Nat)).2.toNat,by omega,by omega⟩
theorem z4x (a b c:Pr) (x:Bool) (w:World) (h:befB a.1 a.2 b.1 b.2 c.1 c.2=x):
  Calls Tryz.prog 272 #[.agg #[.int .i64 a.1,.int .i64 a.2],.agg #[.int .i64 b.1,.int .i64 b.2],.agg #[.int .i64 c.1,.int .i64 c.2]] w
   fun e w'=>e= .returned (.bool x)/\Below w.heap.size w w':=by
 subst h;exact z2F _ _ _ _ _ _ w
theorem z4m (vn vl:Value) (ns ls:List Pr) (k:Nat) (w:World) (hn:RP w vn ns) (hl:RP w vl ls) (hk:k<ns.length) (hm:ls.length<=20) (ck:ns.length<=12) (Hu:∀j:Nat,j<ls.length->zp ns (ndI ls j)=true):
  Calls Tryz.prog 266 #[.agg #[vn,vl],.int .i64 k] w (RetI (natI (ardS ns ls k (2*ls.length))) w):=by
 obtain⟨An,cn,rfl,ci,fC,Ht⟩:=hn.formI;obtain⟨Al,cl,rfl,Ho,GO,_⟩:=hl.formI;unfold maxLen at fC GO;obtain⟨bn,offn,rfl,GE,Gq⟩:=Ht o_;obtain⟨i0,hi,iz0,iz1,iz2⟩:=info_parts ql;have Bk:=h_ Hu;clear Hu Ht
 go_enter Tryz.func266,Tryz.ntmps266
 go_wp2
 go_loopw [5,6] (fun v i wr=>∃d:Nat,d<=2*ls.length/\i= .int .i64 d/\OwnI (w.heap.size+1) wr v (natI (ardS ns ls k d))/\Blk wr w.heap.size 27 #[.slice (some ⟨bn,offn,none⟩) ns.length cn,.slice Al ls.length cl]/\Below w.heap.size w wr) (fun _ i _=>2*ls.length -(intOf i).toNat)
 case atStart=>exact⟨0,aab _,rfl,OwnI.made (by simp) (by simp),(Blk.newAt rfl).alloc _,by exact bel_⟩
 case round=>
  obtain⟨d,hd,rfl,ho,hW,Hb⟩:=hrel;have gj:=hW.lt;obtain⟨a_0,a_1⟩:=hW.c2
  by_cases Hd:d<2*ls.length
  ·have Hr:(d:Int)<2*(ls.length:Int):=o_
   go_wp2_with fail
   refine(kR _ _ ls d _ (hl.below bel_) Hd).mono ?_
   rintro e w1 ⟨rfl,h9⟩;have H8:=h9.size;(try simp at H8);(try have gR:=p0_ w w1)
   have Hj:=ho.kept h9;have gg:=hW.below h9 gj;have h8:Below w.heap.size w w1:=bel_
   clear h9 ho hW Hb a_0 a_1
   by_cases CP:zc ls d=k
   ·have e1:(zc ls d != (k:Int))=false:=by simp[CP]
    have HS:=h_ (kH (ns:=ns) CP);have hle:=VW ns ls k d;have F0:=h_ (z2f ns ls k d);generalize ardS ns ls k d=G at*;have hgl:=za G;have hG:G.length<=40:=o_
    obtain⟨t,ht,Bm⟩:=jK Bk.out Hd;rw[ht,CP];have HTT:=h_ ht;have cm:=h_ hgl;obtain⟨k0,k1⟩:=Gq k hk;obtain⟨t0,t1⟩:=Gq t Bm;clear CP ht hgl hle;have WR:=h8.size;have Hi:=Hj.form;obtain⟨A1,c1,M1⟩:=Hi;subst M1;obtain⟨a_0,a_1⟩:=gg.c2
    go_wp2_with (at_builtin;refine wpList_append_own _ rfl _ _ 31 rfl (w.heap.size+1) 3 i0 (.int .i64 0) 1 8 Tryz.underlying31 hi iz0 iz1 iz2 rfl (by decide) _ _ _ rfl (World.ownsRow.alloc Hj _) ⟨w1.heap.size,0,none⟩ 1 1 [.int .i64 _] rfl rfl (cell_one_new _ _ _) (by intro u hu;simp at hu;subst hu;rfl) (by rw[cm.out];unfold maxLen;omega) (by rw[cm.out];omega) (by simp;omega) ?_)
    intro v2 w2 fo Gr Gv;have gn:Below w.heap.size w w2:=(h8.alloc o_ _).grown Gr (by simp;omega) (fun k hk=>by have:=(Hj.lt k hk).1;omega);have gV:Blk w2 w.heap.size 27 #[.slice (some ⟨bn,offn,none⟩) ns.length cn,.slice Al ls.length cl]:=(Gr.block _ (by simp;omega) (fun e=>by have:=(Hj.lt _ e.symm).1;omega)).trans (gg.alloc _)
    have HO:OwnI (w.heap.size+1) w2 v2 (gapI G G.length (d:Int)):=by
     rw[J2];exact OwnI.snoc fo
    clear fo Gr Hj gg h8 a_0 a_1 WR gj
    rcases Gf:HO.2 with ⟨e0,_⟩|⟨gb,cap,cur,rfl,mI,hh,FZ⟩
    ·exact absurd e0 Gv
    have Bo:gb<w2.heap.size:=(HO.lt gb rfl).2;have gr:¬gb=w.heap.size:=o_
    clear Gf hh FZ cur Gv;rw[jq G G.length _ (aaa _)] at HO⊢;rw[cm.out];go_wp2
    go_loopw [9] (fun x wr=>∃p:Nat,p<=G.length/\x= .int .i64 p/\(∃y,OwnI (w.heap.size+1) wr (.slice (some ⟨gb,0,none⟩) (G.length+1) cap) (gapI G p y))/\Hid (posN (bfD ns ls k d) G G.length=posN (bfD ns ls k d) G p)/\Blk wr w.heap.size 27 #[.slice (some ⟨bn,offn,none⟩) ns.length cn,.slice Al ls.length cl]/\Below w.heap.size w wr/\gb<wr.heap.size) (fun x _=>(intOf x).toNat)
    case atStart=>exact⟨G.length,aaa _,rfl,⟨_,HO⟩,h_ rfl,gV,gn,Bo⟩
    case round=>
     obtain⟨p,hp,rfl,⟨y,cr⟩,HP,hW,Hb,Nv⟩:=hrel;clear HO gV gn Bo;have gj:=hW.lt;have WS:=jq G p y hp;obtain⟨a_0,a_1⟩:=hW.c2
     by_cases Nw:0<p
     ·obtain⟨r,rfl⟩:∃r,p=r+1:=⟨p -1,by omega⟩
      have hr:r<G.length:=o_
      have xr:=cr.cell (q:=r) o_;rw[xU G r y hr] at xr;have he:G.getD r 0<d:=F0.out _ (by rw[List.getD,aac hr];exact abh hr);have HMV:=h_ (J3 G r y hr);have MJ:Hid (posN (bfD ns ls k d) G (r+1)=if bfD ns ls k d (G.getD r 0) then posN (bfD ns ls k d) G r else r+1):=h_ rfl;generalize hev:G.getD r 0=e at*;have HEV:=h_ hev;clear hev;obtain⟨t2,CS,ht2n⟩:=jK Bk.out (show e<2*ls.length by omega);have HTT2:=h_ CS;obtain⟨s0,s1⟩:=Gq t2 ht2n;obtain⟨x,hx⟩:∃x,befB (ndI ns k).1 (ndI ns k).2 (ndI ns t).1 (ndI ns t).2 (ndI ns t2).1 (ndI ns t2).2=x:=⟨_,rfl⟩;have HX:Hid (bfD ns ls k d e=x):=h_ (by unfold bfD;rw[HTT.out,HTT2.out];exact hx);have Nx:RP wr (.slice Al ls.length cl) ls:=hl.below Hb;have FT:(0:Int)<=(r:Int):=o_
      go_wp2_with fail
      (refine z7 k_ k_ (fun hG=>?_))
      repeat (go_big_quiet_step ((go_at_call 192;exact zy (kR _ _ ls e _ (RS.grw _ Nx) o_))))
      (refine wpQuiet_nil ?_);(clear hG);(rintro w3 ⟨⟨_,Hf⟩,rfl⟩);(try dsimp only);have fA:=Hf.size;(try simp at fA);(try have cP:=p0_ w w3);(try have cQ:=p1_ w w3)
      have GJ:=hW.below Hf gj;have Hq:=cr.kept Hf;have gz:Below w.heap.size w w3:=bel_
      have hgw3:gb<w3.heap.size:=o_
      have fA:w.heap.size<w3.heap.size:=GJ.lt;have hbn3:bn<w3.heap.size:=o_
      have c0:=(gz.cell (p:=⟨bn,offn+k*2,none⟩) GE).trans k0;have c1':=(gz.cell (p:=⟨bn,offn+k*2+1,none⟩) GE).trans k1;have c2:=(gz.cell (p:=⟨bn,offn+t*2,none⟩) GE).trans t0;have c3:=(gz.cell (p:=⟨bn,offn+t*2+1,none⟩) GE).trans t1;have c4:=(gz.cell (p:=⟨bn,offn+t2*2,none⟩) GE).trans s0;have c5:=(gz.cell (p:=⟨bn,offn+t2*2+1,none⟩) GE).trans s1;have ik1:(0:Int)<=(k:Int):=o_
      have ik2:(k:Int)<(ns.length:Int):=o_
      have it1:(0:Int)<=(t:Int):=o_
      have it2:(t:Int)<(ns.length:Int):=o_
      have is1:(0:Int)<=(t2:Int):=o_
      have is2:(t2:Int)<(ns.length:Int):=o_
      clear Hf cP cQ hW cr Hb a_0 a_1 xr Nx;obtain⟨a_0,a_1⟩:=GJ.c2;rw[HTT2.out]
      go_wp2_with fail
      (refine z7 k_ k_ (fun hG=>?_))
      repeat (go_big_quiet_step ((go_at_call 272;exact zy (z4x (ndI ns k) (ndI ns t) (ndI ns t2) _ _ hx))))
      (refine wpQuiet_nil ?_);(clear hG);(rintro w4 ⟨⟨_,Hv⟩,rfl⟩);(try dsimp only);have Bg:=Hv.size;(try simp at Bg)
      have hW:=GJ.below Hv fA;have cr:=Hq.kept Hv;have Hb:Below w.heap.size w w4:=bel_
      have hgw4:gb<w4.heap.size:=o_
      clear Hv Bg GJ Hq gz a_0 a_1 c0 c1' c2 c3 c4 c5 fA;obtain⟨a_0,a_1⟩:=hW.c2
      cases x
      ·have FN:Hid (posN (bfD ns ls k d) G G.length=r+1):=h_ (by rw[HP.out,MJ.out,HX.out];rfl)
       have xp:=cr.cell (q:=r+1) o_;obtain⟨z,hz⟩:∃z,w4.cell? ⟨gb,r+1,none⟩=some z:=⟨_,xp⟩;have fp:=cr.frz (r+1)
       have Cl:Hid (OwnI (w.heap.size+1) (w4.setCell ⟨gb,r+1,none⟩ (.int .i64 (d:Int))) (.slice (some ⟨gb,0,none⟩) (G.length+1) cap) (natI (ardS ns ls k (d+1)))):=h_ (by
        rw[HS.out];unfold insN;rw[FN.out,<-Q7 G (r+1) y d o_];exact cr.set_ (r+1) (d:Int))
       have CL:=h_ (Hb.setCell (p:=⟨gb,r+1,none⟩) (show w.heap.size<=gb by omega) (.int .i64 (d:Int)));have CT:=h_ (hW.far (p:=⟨gb,r+1,none⟩) (Ne.symm gr) (.int .i64 (d:Int)));clear xp cr Hb hW a_0 a_1;go_wp2;go_roundw
       case rel=>exact⟨d+1,by omega,by go_num,Cl.out,CT.out,CL.out⟩
       case measure=>simp[intOf];omega
      ·have FN:Hid (posN (bfD ns ls k d) G G.length=posN (bfD ns ls k d) G r):=h_ (by rw[HP.out,MJ.out,HX.out];rfl)
       have xp:=cr.cell (q:=r+1) o_;obtain⟨z,hz⟩:∃z,w4.cell? ⟨gb,r+1,none⟩=some z:=⟨_,xp⟩;have fp:=cr.frz (r+1);have xr:=cr.cell (q:=r) o_;rw[xU G r y hr,HEV.out] at xr
       have Cl:Hid (OwnI (w.heap.size+1) (w4.setCell ⟨gb,r+1,none⟩ (.int .i64 (e:Int))) (.slice (some ⟨gb,0,none⟩) (G.length+1) cap) (gapI G r (e:Int))):=h_ (by
        rw[<-HMV.out];exact cr.set_ (r+1) (e:Int))
       have CL:=h_ (Hb.setCell (p:=⟨gb,r+1,none⟩) (show w.heap.size<=gb by omega) (.int .i64 (e:Int)));have CT:=h_ (hW.far (p:=⟨gb,r+1,none⟩) (Ne.symm gr) (.int .i64 (e:Int)));have MK:(r:Int)<(G.length:Int)+1:=o_
       clear xp cr Hb hW a_0 a_1;go_wp2;go_roundw
       case rel=>exact⟨r,by omega,by go_num,⟨_,Cl.out⟩,FN,CT.out,CL.out,by simpa using hgw4⟩
       case measure=>simp[intOf]
     ·have mN:p=0:=o_
      subst mN;have FN:Hid (posN (bfD ns ls k d) G G.length=0):=h_ HP.out;clear Nw;have xp:=cr.cell (q:=0) o_;obtain⟨z,hz⟩:∃z,wr.cell? ⟨gb,0,none⟩=some z:=⟨_,xp⟩;have fp:=cr.frz 0
      have Cl:Hid (OwnI (w.heap.size+1) (wr.setCell ⟨gb,0,none⟩ (.int .i64 (d:Int))) (.slice (some ⟨gb,0,none⟩) (G.length+1) cap) (natI (ardS ns ls k (d+1)))):=h_ (by
       rw[HS.out];unfold insN;rw[FN.out,<-Q7 G 0 y d o_];exact cr.set_ 0 (d:Int))
      have CL:=h_ (Hb.setCell (p:=⟨gb,0,none⟩) (show w.heap.size<=gb by omega) (.int .i64 (d:Int)));have CT:=h_ (hW.far (p:=⟨gb,0,none⟩) (Ne.symm gr) (.int .i64 (d:Int)));clear xp cr Hb hW a_0 a_1;go_wp2;go_roundw
      case rel=>exact⟨d+1,by omega,by go_num,Cl.out,CT.out,CL.out⟩
      case measure=>simp[intOf];omega
   ·have e1:(zc ls d != (k:Int))=true:=by simp[CP]
    have HS:Hid (ardS ns ls k (d+1)=ardS ns ls k d):=h_ (Qv CP);clear CP;go_wp2;go_roundw
    case rel=>exact⟨d+1,by omega,by go_num,by rw[HS.out];exact Hj,gg,h8⟩
    case measure=>simp[intOf];omega
  ·have CU:d=2*ls.length:=o_
   subst CU;go_wp2;go_ret
   exact⟨_,rfl,ho.mono o_,Hb⟩
theorem jl {W:World} {v:Value} {t:TypeId} {g:Nat} (hg:g=W.heap.size):∀(j:Nat) (u:Value),[v][j]? =some u->(W.alloc (.cells #[v] t)).cell? ((⟨g,0,none⟩:Addr).add j)=some u:=by
 subst hg;exact cell_one_new _ _ _
def jR (ls:List Pr) (k:Int) (i:Nat):Bool:=(ndI ls i).1==k||(ndI ls i).2==k
theorem z34 {ls:List Pr} {k:Int} {i:Nat} (h:jR ls k i=false):¬(ndI ls i).1=k/\¬(ndI ls i).2=k:=by
 simpa[jR] using h
theorem Jp {ls:List Pr} {k:Int} {i:Nat} (h:jR ls k i=true) (h2:¬(ndI ls i).1=k):(ndI ls i).2=k:=by
 simpa[jR,h2] using h
def atN (ls:List Pr) (k:Int):Nat->List Nat
 |0=> []
 |i+1=>if jR ls k i then atN ls k i++[i] else atN ls k i
theorem V6 {ls:List Pr} {k:Int} {i:Nat} (h:jR ls k i=true):atN ls k (i+1)=atN ls k i++[i]:=by simp[atN,h]
theorem z1z {ls:List Pr} {k:Int} {i:Nat} (h:jR ls k i=false):atN ls k (i+1)=atN ls k i:=by simp[atN,h]
theorem V7 (ls:List Pr) (k:Int):∀i,(atN ls k i).length <=i
 |0=>by simp[atN]
 |i+1=>by
  have:=V7 ls k i;unfold atN
  split<;>simp<;>omega
theorem zX (vn vl:Value) (ns ls:List Pr) (b:Bool) (w:World) (hn:RP w vn ns) (hl:RP w vl ls) (hb:winB ns ls=b):
  CB_ 87 #[.agg #[vn,vl]] w (.bool b):=by
 subst hb;exact z5b vn vl ns ls w hn hl
theorem zJ (vn vl:Value) (ns ls:List Pr) (b:Bool) (w:World) (hn:RP w vn ns) (hl:RP w vl ls) (hb:winB ns ls=b):
  CB_ 118 #[.agg #[vn,vl]] w (.bool b):=by
 subst hb;exact z5E vn vl ns ls w hn hl
noncomputable def hasN (ns ls:List Pr) (k:Int):Bool:=winB ns ls&&inB k 0 ((ns.length:Int) -1)
theorem z25 (vn vl:Value) (ns ls:List Pr) (k:Int) (w:World) (hn:RP w vn ns) (hl:RP w vl ls):
  CB_ 250 #[.agg #[vn,vl],.int .i64 k] w (.bool (hasN ns ls k)):=by
 obtain⟨An,cn,rfl,ci,fC,_⟩:=hn.formI;unfold maxLen at fC
 cases hw:winB ns ls
 ·have HR:Hid (hasN ns ls k=false):=h_ (by simp[hasN,hw])
  go_enter Tryz.func250,Tryz.ntmps250
  go_wp2_with fail
  refine(zX _ _ ns ls _ _ (hn.below bel_) (hl.below bel_) hw).mono ?_
  rintro e w1 ⟨rfl,h9⟩;go_wp2;go_ret
  exact⟨z8 HR.out.symm,by exact bel_⟩
 ·have HR:Hid (hasN ns ls k=inB k 0 ((ns.length:Int) -1)):=h_ (by simp[hasN,hw])
  go_enter Tryz.func250,Tryz.ntmps250
  go_wp2_with fail
  refine(zX _ _ ns ls _ _ (hn.below bel_) (hl.below bel_) hw).mono ?_
  rintro e w1 ⟨rfl,h9⟩;(have Gb:=bcC h9)
  go_wp2_with fail
  refine(yS _ _ _ _).mono ?_
  rintro e w' ⟨rfl,rfl⟩;rw[<-HR.out];go_wp2;go_ret
  exact⟨rfl,by exact bel_⟩
theorem Qm (vn vl:Value) (ns ls:List Pr) (k:Int) (b:Bool) (w:World) (hn:RP w vn ns) (hl:RP w vl ls) (hb:hasN ns ls k=b):
  CB_ 250 #[.agg #[vn,vl],.int .i64 k] w (.bool b):=by
 subst hb;exact z25 vn vl ns ls k w hn hl
theorem kY (vn vl:Value) (ns ls:List Pr) (k:Int) (w:World) (hn:RP w vn ns) (hl:RP w vl ls) (hk:hasN ns ls k=true):
  Calls Tryz.prog 218 #[.agg #[vn,vl],.int .i64 k] w (RetI (natI (atN ls k ls.length)) w):=by
 have hW:zL ns ls:=by
  unfold hasN at hk;rw[aaH] at hk
  exact zD.1 hk.1
 have GW:=hW.2.2.1;obtain⟨Al,cl,rfl,Ho,GO,gx⟩:=hl.formI;obtain⟨i0,hi,iz0,iz1,iz2⟩:=info_parts ql;unfold maxLen at GO;clear hW
 go_enter Tryz.func218,Tryz.ntmps218
 go_wp2_with fail
 refine(Qm _ _ ns ls _ _ _ (hn.below bel_) (hl.below bel_) hk).mono ?_
 rintro e w1 ⟨rfl,h9⟩;have gg:Blk w1 w.heap.size 27 #[vn,.slice Al ls.length cl]:=Blk.below (Blk.newAt rfl) h9 sz_;have h8:Below w.heap.size w w1:=bel_
 clear h9;obtain⟨a_0,a_1⟩:=gg.c2;go_wp2
 go_loopw [5,15] (fun v i wr=>∃j:Nat,j<=ls.length/\i= .int .i64 j/\OwnI w.heap.size wr v (natI (atN ls k j))/\Below w.heap.size w wr) (fun _ i _=>ls.length -(intOf i).toNat)
 case atStart=>exact⟨0,aab _,rfl,OwnI.nil _ _,h8⟩
 case round=>
  obtain⟨j,hj,rfl,ho,Hb⟩:=hrel;clear gg h8 a_0 a_1;have gj:=Hb.size
  by_cases Hd:j<ls.length
  ·obtain⟨b,off,rfl,hb,Gq⟩:=gx o_
   obtain⟨k0,k1⟩:=Gq j Hd;have q0:=(Hb.cell (p:=⟨b,off+j*2,none⟩) hb).trans k0;have q1:=(Hb.cell (p:=⟨b,off+j*2+1,none⟩) hb).trans k1;have FT:(0:Int)<=(j:Int):=o_
   have cf:(j:Int)<(ls.length:Int):=o_
   have Hi:=V7 ls k j;have fG:=za (atN ls k j);have HY:=h_ (fun h=>V6 (ls:=ls) (k:=k) (i:=j) h);have HN:=h_ (fun h=>z1z (ls:=ls) (k:=k) (i:=j) h);generalize atN ls k j=G at*;have HL:=h_ fG;clear fG k0 k1 Gq gx;have hG:G.length<=20:=o_
   cases ht:jR ls k j
   ·have HS:=h_ (HN.out ht)
    obtain⟨e3,e4⟩:=z34 ht;have e1:((ndI ls j).1==k)=false:=beq_eq_false_iff_ne.2 e3;have e2:((ndI ls j).2==k)=false:=beq_eq_false_iff_ne.2 e4;clear ht;have HB:Hid (Below w.heap.size w (wr.alloc (.cells #[.int .i64 (ndI ls j).1,.int .i64 (ndI ls j).2] 108))):=h_ bel_;have HO:=h_ (ho.alloc (.cells #[.int .i64 (ndI ls j).1,.int .i64 (ndI ls j).2] 108));clear ho Hb;go_wp2;go_roundw
    case rel=>exact⟨j+1,by omega,by go_num,by rw[HS.out];exact HO.out,HB.out⟩
    case measure=>simp[intOf];omega
   ·have HS:=h_ (HY.out ht)
    have uR:=fun h=>Jp ht h
    clear ht;generalize (ndI ls j).1=L1 at*;generalize (ndI ls j).2=L2 at*
    by_cases e3:L1=k
    ·subst e3
     clear uR;have HB:Hid (Below w.heap.size w (wr.alloc (.cells #[.int .i64 L1,.int .i64 L2] 108))):=h_ bel_;have uS:=ho.alloc (.cells #[.int .i64 L1,.int .i64 L2] 108)
     go_wp2_with (at_builtin;refine wpList_append_own _ rfl _ _ 31 rfl w.heap.size 3 i0 (.int .i64 0) 1 8 Tryz.underlying31 hi iz0 iz1 iz2 rfl (by decide) _ _ _ rfl (World.ownsRow.alloc uS _) ⟨wr.heap.size+1,0,none⟩ 1 1 [.int .i64 _] rfl rfl (jl (by simp)) (by intro u hu;simp at hu;subst hu;rfl) (by rw[HL.out];unfold maxLen;omega) (by rw[HL.out];omega) (by simp;omega) ?_)
     intro v' w1 Hz fF _;have WT:Below w.heap.size w w1:=(HB.out.alloc (by simp;omega) _).grown fF (by simp;omega) (fun k hk=>(ho.lt k hk).1)
     have HO:OwnI w.heap.size w1 v' (natI (G++[j])):=by
      unfold natI;rw[aaA];exact OwnI.snoc Hz
     clear Hz fF ho uS Hb HB;go_wp2;go_roundw
     case rel=>exact⟨j+1,by omega,by go_num,by rw[HS.out];exact HO,WT⟩
     case measure=>simp[intOf];omega
    ·have e4:=uR e3
     have e1:(L1==k)=false:=beq_eq_false_iff_ne.2 e3;clear uR;subst e4;have HB:Hid (Below w.heap.size w (wr.alloc (.cells #[.int .i64 L1,.int .i64 L2] 108))):=h_ bel_;have uS:=ho.alloc (.cells #[.int .i64 L1,.int .i64 L2] 108)
     go_wp2_with (at_builtin;refine wpList_append_own _ rfl _ _ 31 rfl w.heap.size 3 i0 (.int .i64 0) 1 8 Tryz.underlying31 hi iz0 iz1 iz2 rfl (by decide) _ _ _ rfl (World.ownsRow.alloc uS _) ⟨wr.heap.size+1,0,none⟩ 1 1 [.int .i64 _] rfl rfl (jl (by simp)) (by intro u hu;simp at hu;subst hu;rfl) (by rw[HL.out];unfold maxLen;omega) (by rw[HL.out];omega) (by simp;omega) ?_)
     intro v' w1 Hz fF _;have WT:Below w.heap.size w w1:=(HB.out.alloc (by simp;omega) _).grown fF (by simp;omega) (fun k hk=>(ho.lt k hk).1)
     have HO:OwnI w.heap.size w1 v' (natI (G++[j])):=by
      unfold natI;rw[aaA];exact OwnI.snoc Hz
     clear Hz fF ho uS Hb HB;go_wp2;go_roundw
     case rel=>exact⟨j+1,by omega,by go_num,by rw[HS.out];exact HO,WT⟩
     case measure=>simp[intOf];omega
  ·have GV:j=ls.length:=o_
   subst GV;clear gx;go_wp2;go_ret
   exact⟨_,rfl,ho,Hb⟩
noncomputable def degI (ns ls:List Pr) (k:Int):Int:=if hasN ns ls k then((atN ls k ls.length).length :Int) else -1
theorem JG (vn vl:Value) (ns ls:List Pr) (k:Int) (w:World) (hn:RP w vn ns) (hl:RP w vl ls):
  CB_ 248 #[.agg #[vn,vl],.int .i64 k] w (.int .i64 (degI ns ls k)):=by
 cases hk:hasN ns ls k
 ·have HR:Hid (degI ns ls k= -1):=h_ (by simp[degI,hk])
  go_enter Tryz.func248,Tryz.ntmps248
  go_wp2_with fail
  refine(Qm _ _ ns ls _ _ _ (hn.below bel_) (hl.below bel_) hk).mono ?_
  rintro e w1 ⟨rfl,h9⟩;go_wp2;go_ret
  exact⟨zb HR.out.symm,by exact bel_⟩
 ·have HR:Hid (degI ns ls k=((natI (atN ls k ls.length)).length :Int)):=h_ (by simp[degI,hk,za])
  go_enter Tryz.func248,Tryz.ntmps248
  go_wp2_with fail
  refine(Qm _ _ ns ls _ _ _ (hn.below bel_) (hl.below bel_) hk).mono ?_
  rintro e w1 ⟨rfl,h9⟩;(have Gb:=bcC h9);have H8:=h9.size;(try simp at H8)
  have h8:Below w.heap.size w w1:=bel_
  go_wp2_with fail
  refine(kY _ _ ns ls _ _ (hn.below h8) (hl.below h8) hk).mono ?_
  rintro e w2 ⟨v2,rfl,Hm,He⟩;obtain⟨A2,c2,rfl⟩:=Hm.form;have Ha:Below w.heap.size w w2:=bel_
  go_wp2;go_ret
  exact⟨zb HR.out.symm,Ha⟩
attribute [local go_sem ↓] zv zu qb qf
def zC (ns ls:List (Int×Int)) (b:Bool) (w:World) (e:Ending) (w':World):Prop:=∃An cn Al cl,e= .returned (.tuple #[.agg #[.slice An ns.length cn,.slice Al ls.length cl],.bool b])/\
 OwnW w.heap.size w' (.slice An ns.length cn) (.slice Al ls.length cl) ns ls/\Below w.heap.size w w'
theorem Blk.grownR {w w':World} {b:Nat} {t:TypeId} {cs:Array Value} {row:Option Nat} (h:Blk w b t cs) (hg:w.grownBy w' row) (hr:∀k,row=some k->¬k=b):Blk w' b t cs:=
 (hg.block b h.lt (fun e=>hr b e.symm rfl)).trans h
theorem OwnW.apart {base:Nat} {w w':World} {vn vl:Value} {ns ls:List (Int×Int)} {row:Option Nat} (h:OwnW base w vn vl ns ls) (hg:w.grownBy w' row) (hr:∀k,zw vn vl k->row=some k->False):OwnW base w' vn vl ns ls:=
 ⟨h.1.apart hg (fun k hk=>hr k (.inl hk)),h.2.1.apart hg (fun k hk=>hr k (.inr hk)),h.2.2⟩
theorem OwnW.setLow {base:Nat} {w:World} {vn vl:Value} {ns ls:List (Int×Int)} (h:OwnW base w vn vl ns ls) {p:Addr} (hp:p.block<base) (u:Value):OwnW base (w.setCell p u) vn vl ns ls:=
 ⟨h.1.setLow hp u,h.2.1.setLow hp u,h.2.2⟩
theorem OwnW.alloc {base:Nat} {w:World} {vn vl:Value} {ns ls:List (Int×Int)} (h:OwnW base w vn vl ns ls) (o:Obj):OwnW base (w.alloc o) vn vl ns ls:=⟨h.1.alloc o,h.2.1.alloc o,h.2.2⟩
theorem OwnW.setFar {base:Nat} {w:World} {vn vl:Value} {ns ls:List (Int×Int)} (h:OwnW base w vn vl ns ls) {p:Addr} (hp:¬zw vn vl p.block) (u:Value):OwnW base (w.setCell p u) vn vl ns ls:=
 h.apart (qR w p u) (fun k hk e=>by cases e;exact hp hk)
theorem zC.mk {ns ls:List (Int×Int)} {b:Bool} {w w':World} {e:Ending} {An Al:Option Addr} {n m cn cl:Nat} (he:e= .returned (.tuple #[.agg #[.slice An n cn,.slice Al m cl],.bool b])) (hn:n=ns.length) (hm:m=ls.length)
  (ho:OwnW w.heap.size w' (.slice An n cn) (.slice Al m cl) ns ls) (hb:Below w.heap.size w w'):zC ns ls b w e w':=by
 subst hn hm;exact⟨_,_,_,_,he,ho,hb⟩
noncomputable def addB (ns ls:List Pr) (a b:Int):Bool:=winB ns ls&&winB ns (ls++[(mn2 a b,mx2 a b)])
noncomputable def addL (ns ls:List Pr) (a b:Int):List Pr:=if addB ns ls a b then ls++[(mn2 a b,mx2 a b)] else ls
theorem zan (vn vl:Value) (ns ls:List Pr) (a b:Int) (w:World) (hn:RP w vn ns) (hl:RP w vl ls) (h1:ns.length<=1048576) (h2:ls.length<=1048576) (hw:winB ns ls=false):
  Calls Tryz.prog 161 #[.agg #[vn,vl],.int .i64 a,.int .i64 b] w (zC ns ls false w):=by
 go_enter Tryz.func161,Tryz.ntmps161
 go_wp2_with fail
 refine(qC _ _ ns ls _ (hn.below bel_) (hl.below bel_) h1 h2).mono ?_
 rintro e w1 ⟨An1,cn1,Al1,cl1,rfl,Hj,h9⟩;have H8:=h9.size;simp at H8
 have go:OwnW (w.heap.size+1+1) w1 (.slice An1 ns.length cn1) (.slice Al1 ls.length cl1) ns ls:=by simpa using Hj
 have fc:Blk w1 w.heap.size 27 #[vn,vl]:=Blk.below ((Blk.newAt rfl).alloc _) h9 sz_;have gu:Blk w1 (w.heap.size+1) 27 #[.slice none 0 0,.slice none 0 0]:=Blk.below (Blk.newAt (by simp)) h9 sz_;have h8:Below w.heap.size w w1:=bel_
 have n1:w.heap.size<w1.heap.size:=o_
 have n2:w.heap.size+1<w1.heap.size:=o_
 obtain⟨a_0,a_1⟩:=fc.c2;have hbs:Below w1.heap.size w1 (w1.alloc (.cells #[.slice An1 ns.length cn1,.slice Al1 ls.length cl1] 27)):=bel_
 have Gx:Below w.heap.size w (w1.alloc (.cells #[.slice An1 ns.length cn1,.slice Al1 ls.length cl1] 27)):=bel_
 go_wp2_with fail
 refine(zX _ _ ns ls _ _ (hn.below Gx) (hl.below Gx) hw).mono ?_
 rintro e w2 ⟨rfl,He⟩;have gq:Below w1.heap.size w1 w2:=hbs.trans (He.mono hbs.size);have fh:Blk w2 w1.heap.size 27 #[.slice An1 ns.length cn1,.slice Al1 ls.length cl1]:=Blk.below (Blk.newAt rfl) He sz_;have GF:=gu.below gq n2;have Hm:=go.kept gq;have Ha:Below w.heap.size w w2:=h8.trans (gq.mono h8.size);obtain⟨s_0,s_1,s_f0,s_f1⟩:=fh.b2;obtain⟨r_0,r_1,r_f0,r_f1⟩:=GF.b2;have hO:=h_ (((Hm.setLow (p:=⟨w.heap.size+1,0,none⟩) sz_ (.slice An1 ns.length cn1)).setLow (p:=⟨w.heap.size+1,1,none⟩) sz_ (.slice Al1 ls.length cl1)).mono (show w.heap.size<=_ by omega));have HB:=h_ ((Ha.setCell (p:=⟨w.heap.size+1,0,none⟩) sz_ (.slice An1 ns.length cn1)).setCell (p:=⟨w.heap.size+1,1,none⟩) sz_ (.slice Al1 ls.length cl1));generalize w1.heap.size=B1 at*;go_wp2;exact bodyPost_ret (v:= .tuple #[.agg #[.slice An1 ns.length cn1,.slice Al1 ls.length cl1],.bool false]) (by simp[results,Tryz.results161,go_sem,r_0,r_1,s_0,s_1]) rfl ⟨_,_,_,_,rfl,hO.out,HB.out⟩
theorem yV {A:Option Addr} {n c:Nat} {v:Value} {h:Nat} (e:(Value.slice A n c).ownBlock =v.ownBlock∨(Value.slice A n c).ownBlock =some h) {k:Nat} (hk:(Value.slice A n c).ownBlock =some k):v.ownBlock=some k∨k=h:=by
 rcases e with e|e
 ·exact .inl (e.symm.trans hk)
 ·exact .inr (by have:=e.symm.trans hk;cases this;rfl)
theorem z05 (vn vl:Value) (ns ls:List Pr) (a b:Int) (w:World) (hn:RP w vn ns) (hl:RP w vl ls) (h1:ns.length<=1048576) (h2:ls.length<=1048576) (hw:winB ns ls=true) (hE:winB ns (ls++[(mn2 a b,mx2 a b)])=true):
  Calls Tryz.prog 161 #[.agg #[vn,vl],.int .i64 a,.int .i64 b] w (zC ns (ls++[(mn2 a b,mx2 a b)]) true w):=by
 obtain⟨j0,hj,jz0,jz1,jz2⟩:=info_parts jc
 go_enter Tryz.func161,Tryz.ntmps161
 go_wp2_with fail
 refine(qC _ _ ns ls _ (hn.below bel_) (hl.below bel_) h1 h2).mono ?_
 rintro e w1 ⟨An1,cn1,Al1,cl1,rfl,Hj,h9⟩;have H8:=h9.size;simp at H8
 have go:OwnW (w.heap.size+1+1) w1 (.slice An1 ns.length cn1) (.slice Al1 ls.length cl1) ns ls:=by simpa using Hj
 have Hr:=go.lt;have fc:Blk w1 w.heap.size 27 #[vn,vl]:=Blk.below ((Blk.newAt rfl).alloc _) h9 sz_;have gu:Blk w1 (w.heap.size+1) 27 #[.slice none 0 0,.slice none 0 0]:=Blk.below (Blk.newAt (by simp)) h9 sz_;have h8:Below w.heap.size w w1:=bel_
 have n1:w.heap.size<w1.heap.size:=o_
 have n2:w.heap.size+1<w1.heap.size:=o_
 obtain⟨a_0,a_1⟩:=fc.c2;have hbs:Below w1.heap.size w1 (w1.alloc (.cells #[.slice An1 ns.length cn1,.slice Al1 ls.length cl1] 27)):=bel_
 have Gx:Below w.heap.size w (w1.alloc (.cells #[.slice An1 ns.length cn1,.slice Al1 ls.length cl1] 27)):=bel_
 go_wp2_with fail
 refine(zX _ _ ns ls _ _ (hn.below Gx) (hl.below Gx) hw).mono ?_
 rintro e w2 ⟨rfl,He⟩;have Gd:=He.size;(try simp at Gd);(try have gX:=p0_ w w2);(try have gY:=p1_ w w2);(try have fm:=p2_ w w2)
 have gq:Below w1.heap.size w1 w2:=hbs.trans (He.mono hbs.size);have fh:Blk w2 w1.heap.size 27 #[.slice An1 ns.length cn1,.slice Al1 ls.length cl1]:=Blk.below (Blk.newAt rfl) He sz_;have Fn:=fc.below gq n1;have GF:=gu.below gq n2;have Hm:=go.kept gq;have Ha:Below w.heap.size w w2:=h8.trans (gq.mono h8.size);have n3:w1.heap.size<w2.heap.size:=fh.lt;obtain⟨a_0,a_1⟩:=Fn.c2
 go_wp2_with fail
 refine(qC _ _ ns ls _ (hn.below Ha) (hl.below Ha) h1 h2).mono ?_
 rintro e w3 ⟨An3,cn3,Al3,cl3,rfl,Hq,Hf⟩;have fA:=Hf.size;have gp:=Hq.lt;have GK:=GF.below Hf GF.lt;have FX:=fh.below Hf n3;have WU:=Hm.kept Hf;have Hc:Below w.heap.size w w3:=Ha.trans (Hf.mono Ha.size)
 go_wp2_with (at_builtin;refine zj rfl _ _ _ rfl w2.heap.size 108 j0 Tryz.underlying25 hj jz0 jz1 jz2 (.slice Al3 ls.length cl3) _ ls [(mn2 a b,mx2 a b)] rfl rfl ((Hq.2.1.alloc _).alloc _) (jk (by simp) rfl rfl rfl (by simp[maxLen])) (by simp;omega) (by simp;omega) ?_)
 intro A4 c4 w4 gF GA Bp;have Hk:∀k,(Value.slice Al3 ls.length cl3).ownBlock =some k->w2.heap.size<=k/\k<w3.heap.size:=fun k hk=>gp k (.inr hk)
 have fd:=((GK.alloc (.cells #[.slice An3 ns.length cn3,.slice Al3 ls.length cl3] 27)).alloc _).grownR GA (fun k hk=>by have:=(Hk k hk).1;omega);have my:=((FX.alloc (.cells #[.slice An3 ns.length cn3,.slice Al3 ls.length cl3] 27)).alloc _).grownR GA (fun k hk=>by have:=(Hk k hk).1;omega);have ML:Blk w4 w3.heap.size 27 #[.slice An3 ns.length cn3,.slice Al3 ls.length cl3]:=((Blk.newAt rfl).alloc _).grownR GA (fun k hk=>by have:=(Hk k hk).2;omega);have WV:=((WU.alloc (.cells #[.slice An3 ns.length cn3,.slice Al3 ls.length cl3] 27)).alloc _).apart GA (fun k hk Gj=>by have:=(Hk k Gj).1;have:=(Hr k hk).2;omega);have cB:=((Hq.1.alloc (.cells #[.slice An3 ns.length cn3,.slice Al3 ls.length cl3] 27)).alloc _).apart GA (fun k hk Gj=>Hq.2.2 k hk Gj)
 have bM:∀k,(Value.slice A4 (ls.length+1) c4).ownBlock =some k->(w2.heap.size<=k/\k<w3.heap.size)∨k=w3.heap.size+1+1:=by
  intro k hk
  rcases yV Bp hk with h|h
  ·exact .inl (Hk k h)
  ·exact .inr (by simpa using h)
 have Cs:∀k,(Value.slice An3 ns.length cn3).ownBlock =some k->(Value.slice A4 (ls.length+1) c4).ownBlock =some k->False:=by
  intro k hk Gj
  rcases yV Bp Gj with h|h
  ·exact Hq.2.2 k hk h
  ·have h':k=w3.heap.size+1+1:=by simpa using h
   have:=(gp k (.inl hk)).2;omega
 have fN:OwnW w2.heap.size w4 (.slice An3 ns.length cn3) (.slice A4 (ls.length+1) c4) ns (ls++[(mn2 a b,mx2 a b)]):=⟨cB,gF,Cs⟩;have Hp:Below w.heap.size w w4:=((Hc.alloc o_ _).alloc sz_ _).grown GA sz_ (fun k hk=>by have:=(Hk k hk).1;omega)
 have fT:=fN.setFar (p:=⟨w3.heap.size,1,none⟩) (by
  rintro(h|h)
  ·have:=(gp _ (.inl h)).2
   exact absurd this (aaW _)
  ·rcases bM _ h with h'|h'
   ·exact absurd h'.2 (aaW _)
   ·have h'':w3.heap.size=w3.heap.size+1+1:=h'
    omega) (.slice A4 (ls.length+1) c4)
 have ho25:=WV.setFar (p:=⟨w3.heap.size,1,none⟩) (by
  intro h;have:=(Hr _ h).2;have h':w3.heap.size<w1.heap.size:=this;omega) (.slice A4 (ls.length+1) c4)
 have F1:Blk (w4.setCell ⟨w3.heap.size,1,none⟩ (.slice A4 (ls.length+1) c4)) w3.heap.size 27 #[.slice An3 ns.length cn3,.slice A4 (ls.length+1) c4]:=ML.set_ 1 _;have f9:=fd.far (p:=⟨w3.heap.size,1,none⟩) (show ¬w.heap.size+1=w3.heap.size by omega) (.slice A4 (ls.length+1) c4);have M2:=my.far (p:=⟨w3.heap.size,1,none⟩) (show ¬w1.heap.size=w3.heap.size by omega) (.slice A4 (ls.length+1) c4);have Hx:Below w.heap.size w (w4.setCell ⟨w3.heap.size,1,none⟩ (.slice A4 (ls.length+1) c4)):=Hp.setCell (p:=⟨w3.heap.size,1,none⟩) (show w.heap.size<=w3.heap.size by omega) _;obtain⟨t_0,t_1,t_f0,t_f1⟩:=ML.b2;have fG:=F1.cell 0;have bN:=F1.cell 1;simp only[abe,aah,aag] at fG bN
 have FO:(w4.setCell ⟨w3.heap.size,1,none⟩ (.slice A4 (ls.length+1) c4)).heap.size =w4.heap.size:=by simp[World.setCell]
 have Hi:(ls++[(mn2 a b,mx2 a b)]).length =ls.length+1:=by simp
 generalize hL:ls++[(mn2 a b,mx2 a b)]=LL at*
 go_wp2_with fail
 refine(zX _ _ ns LL _ _ fT.1.reads fT.2.1.reads hE).mono ?_
 rintro e w6 ⟨rfl,gk⟩;have Ct:=gk.size;have Fo:=f9.below gk f9.lt;have hS6:=M2.below gk M2.lt;have mO:=F1.below gk F1.lt;have F2:=fT.kept gk;have gJ:Below w.heap.size w w6:=Hx.trans (gk.mono Hx.size);obtain⟨r_0,r_1,r_f0,r_f1⟩:=Fo.b2;obtain⟨s_0,s_1,s_f0,s_f1⟩:=hS6.b2;obtain⟨t_0,t_1,t_f0,t_f1⟩:=mO.b2;rw[FO] at Ct;have hO:=h_ (((F2.setLow (p:=⟨w.heap.size+1,0,none⟩) (show w.heap.size+1<w2.heap.size by omega) (.slice An3 ns.length cn3)).setLow (p:=⟨w.heap.size+1,1,none⟩) (show w.heap.size+1<w2.heap.size by omega) (.slice A4 (ls.length+1) c4)).mono (show w.heap.size<=_ by omega));have HB:=h_ ((gJ.setCell (p:=⟨w.heap.size+1,0,none⟩) sz_ (.slice An3 ns.length cn3)).setCell (p:=⟨w.heap.size+1,1,none⟩) sz_ (.slice A4 (ls.length+1) c4));generalize w1.heap.size=B1 at*;generalize w3.heap.size=B3 at*;go_wp2;exact bodyPost_ret (v:= .tuple #[.agg #[.slice An3 ns.length cn3,.slice A4 (ls.length+1) c4],.bool true]) (by simp[results,Tryz.results161,go_sem,r_0,r_1,t_0,t_1]) rfl (zC.mk rfl rfl Hi.symm hO.out HB.out)
theorem XS (vn vl:Value) (ns ls:List Pr) (a b:Int) (w:World) (hn:RP w vn ns) (hl:RP w vl ls) (h1:ns.length<=1048576) (h2:ls.length<=1048576) (hw:winB ns ls=true) (hE:winB ns (ls++[(mn2 a b,mx2 a b)])=false):
  Calls Tryz.prog 161 #[.agg #[vn,vl],.int .i64 a,.int .i64 b] w (zC ns ls false w):=by
 obtain⟨j0,hj,jz0,jz1,jz2⟩:=info_parts jc
 go_enter Tryz.func161,Tryz.ntmps161
 go_wp2_with fail
 refine(qC _ _ ns ls _ (hn.below bel_) (hl.below bel_) h1 h2).mono ?_
 rintro e w1 ⟨An1,cn1,Al1,cl1,rfl,Hj,h9⟩;have H8:=h9.size;simp at H8
 have go:OwnW (w.heap.size+1+1) w1 (.slice An1 ns.length cn1) (.slice Al1 ls.length cl1) ns ls:=by simpa using Hj
 have Hr:=go.lt;have fc:Blk w1 w.heap.size 27 #[vn,vl]:=Blk.below ((Blk.newAt rfl).alloc _) h9 sz_;have gu:Blk w1 (w.heap.size+1) 27 #[.slice none 0 0,.slice none 0 0]:=Blk.below (Blk.newAt (by simp)) h9 sz_;have h8:Below w.heap.size w w1:=bel_
 have n1:w.heap.size<w1.heap.size:=o_
 have n2:w.heap.size+1<w1.heap.size:=o_
 obtain⟨a_0,a_1⟩:=fc.c2;have hbs:Below w1.heap.size w1 (w1.alloc (.cells #[.slice An1 ns.length cn1,.slice Al1 ls.length cl1] 27)):=bel_
 have Gx:Below w.heap.size w (w1.alloc (.cells #[.slice An1 ns.length cn1,.slice Al1 ls.length cl1] 27)):=bel_
 go_wp2_with fail
 refine(zX _ _ ns ls _ _ (hn.below Gx) (hl.below Gx) hw).mono ?_
 rintro e w2 ⟨rfl,He⟩;have Gd:=He.size;(try simp at Gd);(try have gX:=p0_ w w2);(try have gY:=p1_ w w2);(try have fm:=p2_ w w2)
 have gq:Below w1.heap.size w1 w2:=hbs.trans (He.mono hbs.size);have fh:Blk w2 w1.heap.size 27 #[.slice An1 ns.length cn1,.slice Al1 ls.length cl1]:=Blk.below (Blk.newAt rfl) He sz_;have Fn:=fc.below gq n1;have GF:=gu.below gq n2;have Hm:=go.kept gq;have Ha:Below w.heap.size w w2:=h8.trans (gq.mono h8.size);have n3:w1.heap.size<w2.heap.size:=fh.lt;obtain⟨a_0,a_1⟩:=Fn.c2
 go_wp2_with fail
 refine(qC _ _ ns ls _ (hn.below Ha) (hl.below Ha) h1 h2).mono ?_
 rintro e w3 ⟨An3,cn3,Al3,cl3,rfl,Hq,Hf⟩;have fA:=Hf.size;have gp:=Hq.lt;have GK:=GF.below Hf GF.lt;have FX:=fh.below Hf n3;have WU:=Hm.kept Hf;have Hc:Below w.heap.size w w3:=Ha.trans (Hf.mono Ha.size)
 go_wp2_with (at_builtin;refine zj rfl _ _ _ rfl w2.heap.size 108 j0 Tryz.underlying25 hj jz0 jz1 jz2 (.slice Al3 ls.length cl3) _ ls [(mn2 a b,mx2 a b)] rfl rfl ((Hq.2.1.alloc _).alloc _) (jk (by simp) rfl rfl rfl (by simp[maxLen])) (by simp;omega) (by simp;omega) ?_)
 intro A4 c4 w4 gF GA Bp;have Hk:∀k,(Value.slice Al3 ls.length cl3).ownBlock =some k->w2.heap.size<=k/\k<w3.heap.size:=fun k hk=>gp k (.inr hk)
 have fd:=((GK.alloc (.cells #[.slice An3 ns.length cn3,.slice Al3 ls.length cl3] 27)).alloc _).grownR GA (fun k hk=>by have:=(Hk k hk).1;omega);have my:=((FX.alloc (.cells #[.slice An3 ns.length cn3,.slice Al3 ls.length cl3] 27)).alloc _).grownR GA (fun k hk=>by have:=(Hk k hk).1;omega);have ML:Blk w4 w3.heap.size 27 #[.slice An3 ns.length cn3,.slice Al3 ls.length cl3]:=((Blk.newAt rfl).alloc _).grownR GA (fun k hk=>by have:=(Hk k hk).2;omega);have WV:=((WU.alloc (.cells #[.slice An3 ns.length cn3,.slice Al3 ls.length cl3] 27)).alloc _).apart GA (fun k hk Gj=>by have:=(Hk k Gj).1;have:=(Hr k hk).2;omega);have cB:=((Hq.1.alloc (.cells #[.slice An3 ns.length cn3,.slice Al3 ls.length cl3] 27)).alloc _).apart GA (fun k hk Gj=>Hq.2.2 k hk Gj)
 have bM:∀k,(Value.slice A4 (ls.length+1) c4).ownBlock =some k->(w2.heap.size<=k/\k<w3.heap.size)∨k=w3.heap.size+1+1:=by
  intro k hk
  rcases yV Bp hk with h|h
  ·exact .inl (Hk k h)
  ·exact .inr (by simpa using h)
 have Cs:∀k,(Value.slice An3 ns.length cn3).ownBlock =some k->(Value.slice A4 (ls.length+1) c4).ownBlock =some k->False:=by
  intro k hk Gj
  rcases yV Bp Gj with h|h
  ·exact Hq.2.2 k hk h
  ·have h':k=w3.heap.size+1+1:=by simpa using h
   have:=(gp k (.inl hk)).2;omega
 have fN:OwnW w2.heap.size w4 (.slice An3 ns.length cn3) (.slice A4 (ls.length+1) c4) ns (ls++[(mn2 a b,mx2 a b)]):=⟨cB,gF,Cs⟩;have Hp:Below w.heap.size w w4:=((Hc.alloc o_ _).alloc sz_ _).grown GA sz_ (fun k hk=>by have:=(Hk k hk).1;omega)
 have fT:=fN.setFar (p:=⟨w3.heap.size,1,none⟩) (by
  rintro(h|h)
  ·have:=(gp _ (.inl h)).2
   exact absurd this (aaW _)
  ·rcases bM _ h with h'|h'
   ·exact absurd h'.2 (aaW _)
   ·have h'':w3.heap.size=w3.heap.size+1+1:=h'
    omega) (.slice A4 (ls.length+1) c4)
 have ho25:=WV.setFar (p:=⟨w3.heap.size,1,none⟩) (by
  intro h;have:=(Hr _ h).2;have h':w3.heap.size<w1.heap.size:=this;omega) (.slice A4 (ls.length+1) c4)
 have F1:Blk (w4.setCell ⟨w3.heap.size,1,none⟩ (.slice A4 (ls.length+1) c4)) w3.heap.size 27 #[.slice An3 ns.length cn3,.slice A4 (ls.length+1) c4]:=ML.set_ 1 _;have f9:=fd.far (p:=⟨w3.heap.size,1,none⟩) (show ¬w.heap.size+1=w3.heap.size by omega) (.slice A4 (ls.length+1) c4);have M2:=my.far (p:=⟨w3.heap.size,1,none⟩) (show ¬w1.heap.size=w3.heap.size by omega) (.slice A4 (ls.length+1) c4);have Hx:Below w.heap.size w (w4.setCell ⟨w3.heap.size,1,none⟩ (.slice A4 (ls.length+1) c4)):=Hp.setCell (p:=⟨w3.heap.size,1,none⟩) (show w.heap.size<=w3.heap.size by omega) _;obtain⟨t_0,t_1,t_f0,t_f1⟩:=ML.b2;have fG:=F1.cell 0;have bN:=F1.cell 1;simp only[abe,aah,aag] at fG bN
 have FO:(w4.setCell ⟨w3.heap.size,1,none⟩ (.slice A4 (ls.length+1) c4)).heap.size =w4.heap.size:=by simp[World.setCell]
 generalize hL:ls++[(mn2 a b,mx2 a b)]=LL at*
 go_wp2_with fail
 refine(zX _ _ ns LL _ _ fT.1.reads fT.2.1.reads hE).mono ?_
 rintro e w6 ⟨rfl,gk⟩;have Ct:=gk.size;have Fo:=f9.below gk f9.lt;have hS6:=M2.below gk M2.lt;have mO:=F1.below gk F1.lt;have ho26:=ho25.kept gk;have gJ:Below w.heap.size w w6:=Hx.trans (gk.mono Hx.size);obtain⟨r_0,r_1,r_f0,r_f1⟩:=Fo.b2;obtain⟨s_0,s_1,s_f0,s_f1⟩:=hS6.b2;obtain⟨t_0,t_1,t_f0,t_f1⟩:=mO.b2;rw[FO] at Ct;have hO:=h_ (((ho26.setLow (p:=⟨w.heap.size+1,0,none⟩) (show w.heap.size+1<w.heap.size+1+1 by omega) (.slice An1 ns.length cn1)).setLow (p:=⟨w.heap.size+1,1,none⟩) (show w.heap.size+1<w.heap.size+1+1 by omega) (.slice Al1 ls.length cl1)).mono (show w.heap.size<=_ by omega));have HB:=h_ ((gJ.setCell (p:=⟨w.heap.size+1,0,none⟩) sz_ (.slice An1 ns.length cn1)).setCell (p:=⟨w.heap.size+1,1,none⟩) sz_ (.slice Al1 ls.length cl1));generalize w1.heap.size=B1 at*;generalize w3.heap.size=B3 at*;go_wp2;exact bodyPost_ret (v:= .tuple #[.agg #[.slice An1 ns.length cn1,.slice Al1 ls.length cl1],.bool false]) (by simp[results,Tryz.results161,go_sem,r_0,r_1,s_0,s_1]) rfl (zC.mk rfl rfl rfl hO.out HB.out)
end Go.Proofs.YtnjcpljhmhdhkaaGreat
