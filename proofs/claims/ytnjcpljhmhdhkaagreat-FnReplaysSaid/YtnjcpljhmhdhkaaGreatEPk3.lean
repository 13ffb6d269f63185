/- part 3 -/
import Derived.Test.YtnjcpljhmhdhkaaGreatEPk1
import Derived.Test.YtnjcpljhmhdhkaaGreatEPk2
import Derived.StillTailTactics
set_option linter.unusedSimpArgs false
set_option linter.unusedVariables false
set_option maxRecDepth 100000
set_option maxHeartbeats 8000000
namespace Go.Proofs.YtnjcpljhmhdhkaaGreat
open Go.RowKit
attribute [local go_sem ↓] zr zt zR zQ
theorem zu (n lo hi:Int) (b:Bool) (w:World) (h:inB n lo hi=b):
  Calls Tryz.prog 78 #[.int .i64 n,.int .i64 lo,.int .i64 hi] w fun e w'=>e= .returned (.bool b)/\w=w':=by
 subst h;exact yA n lo hi w
theorem zP (n lo hi:Int) (b:Bool) (w:World) (h:inB n lo hi=b):
  Calls Tryz.prog 138 #[.int .i64 n,.int .i64 lo,.int .i64 hi] w fun e w'=>e= .returned (.bool b)/\w=w':=by
 subst h;exact j7 n lo hi w
theorem JY (v:Value) (l:List Pr) (b:Bool) (w:World) (h:RP w v l) (hb:q8 l=b):
  CB_ 154 #[v] w (.bool b):=by
 subst hb;exact xm v l w h
theorem JE (v:Value) (ns:List Pr) (l:Pr) (b:Bool) (w:World) (h:RP w v ns) (gV:q8 ns=true) (hb:zv ns l=b):
  CB_ 156 #[v,.agg #[.int .i64 l.1,.int .i64 l.2]] w (.bool b):=by
 subst hb;exact jr v ns l.1 l.2 w h gV
theorem z4S (v:Value) (ns:List Pr) (l m:Pr) (b:Bool) (w:World) (h:RP w v ns) (gV:q8 ns=true) (hb:qK ns l m=b):
  CB_ 157 #[v,.agg #[.int .i64 l.1,.int .i64 l.2],.agg #[.int .i64 m.1,.int .i64 m.2]] w (.bool b):=by
 subst hb;exact z3c v ns l.1 l.2 m.1 m.2 w h gV
theorem z3w (v:Value) (ns:List Pr) (l n:Pr) (b:Bool) (w:World) (h:RP w v ns) (gV:q8 ns=true) (hb:onB ns l n=b):
  CB_ 158 #[v,.agg #[.int .i64 l.1,.int .i64 l.2],.agg #[.int .i64 n.1,.int .i64 n.2]] w (.bool b):=by
 subst hb;exact z1Q v ns l.1 l.2 n.1 n.2 w h gV
theorem z40 {ns:List Pr} {k:Nat} (hk:k<ns.length):((ndI ns k).1,(ndI ns k).2)∈ns.take k↔∃a:Nat,a<k/\qt (ndI ns a) (ndI ns k)=true:=by
 rw[List.mem_iff_getElem]
 constructor
 ·rintro⟨i,hi,h⟩
  rw[abm] at hi;refine⟨i,by omega,?_⟩
  rw[yi,qd ns i o_];rw[abp] at h;exact h
 ·rintro⟨a,ha,h⟩
  refine⟨a,by rw[abm];omega,?_⟩
  rw[abp,<-qd ns a o_];exact yi.1 h
theorem ZW {ns ls:List Pr} (h:¬((1<=ns.length/\ns.length<=12)/\ls.length<=20)):winB ns ls=false:=
 jI.2 fun hw=>h ⟨⟨hw.1,hw.2.1⟩,hw.2.2.1⟩
theorem z0b {ns ls:List Pr} (h:q8 ns=false):winB ns ls=false:=
 jI.2 fun hw=>by rw[hw.2.2.2.1] at h;cases h
theorem z3D {ns ls:List Pr} {k:Nat} (hk:k<ns.length) (h:((ndI ns k).1,(ndI ns k).2)∈ns.take k):winB ns ls=false:=
 jI.2 fun hw=>by
  obtain⟨a,ha,h⟩:=(z40 hk).1 h;rw[hw.2.2.2.2.1 a k ha hk] at h;cases h
theorem ZU {ns ls:List Pr} {k:Nat} (hk:k<ls.length) (h:zv ns (ndI ls k)=false):winB ns ls=false:=
 jI.2 fun hw=>by rw[(hw.2.2.2.2.2 k hk).1] at h;cases h
theorem QF {ns ls:List Pr} {k i:Nat} (hk:k<ls.length) (hi:i<k) (h:qK ns (ndI ls k) (ndI ls i)=true):winB ns ls=false:=
 jI.2 fun hw=>by rw[(hw.2.2.2.2.2 k hk).2.1 i hi] at h;cases h
theorem XM {ns ls:List Pr} {k i:Nat} (hk:k<ls.length) (hi:i<ns.length) (h1:(i:Int)≠(ndI ls k).1) (h2:(i:Int)≠(ndI ls k).2) (h:onB ns (ndI ls k) (ndI ns i)=true):winB ns ls=false:=
 jI.2 fun hw=>by rw[(hw.2.2.2.2.2 k hk).2.2 i hi h1 h2] at h;cases h
theorem z4d {ns ls:List Pr} (h1:(1<=ns.length/\ns.length<=12)/\ls.length<=20) (h2:q8 ns=true) (h3:Dis ns ns.length) (h4:∀k:Nat,k<ls.length->LdOk ns ls k):winB ns ls=true:=
 zq.2 ⟨h1.1.1,h1.1.2,h1.2,h2,h3,h4⟩
theorem z4m (ns ls:List Pr):∀k:Nat,k<0->LdOk ns ls k:=fun k hk=>absurd hk o_
theorem z4g {ns ls:List Pr} {m:Nat} (h:∀k:Nat,k<m->LdOk ns ls k) (hm:LdOk ns ls m):∀k:Nat,k<m+1->LdOk ns ls k:=by
 intro k hk
 rcases Nat.lt_succ_iff_lt_or_eq.1 hk with h1|h1
 ·exact h k h1
 ·subst h1;exact hm
theorem z3l (vn vl:Value) (ns ls:List Pr) (w:World) (hn:RP w vn ns) (hl:RP w vl ls):
  CB_ 87 #[.agg #[vn,vl]] w (.bool (winB ns ls)):=by
 obtain⟨An,cn,rfl,Fk,GL,Hl⟩:=hn.formI;obtain⟨Al,cl,rfl,Hy,Gz,H9⟩:=hl.formI;unfold maxLen at GL Gz
 by_cases hE:(1<=ns.length/\ns.length<=12)/\ls.length<=20
 case neg=>
  have HR:=h_ (ZW hE);have HE:=h_ hE;obtain⟨b,hb⟩:∃b,q8 ns=b:=⟨_,rfl⟩;clear hE Hl H9
  by_cases h1:1<=ns.length/\ns.length<=12
  ·have i1:inB (ns.length:Int) 1 12=true:=zf.2 o_
   have i2:(20:Int)<(ls.length:Int):=by
    have:¬ls.length<=20:=fun h=>HE.out ⟨h1,h⟩
    omega
   clear h1
   go_enter Tryz.func87,Tryz.ntmps87
   go_wp2_with (go_at_call 78;refine(zu _ _ _ _ _ i1).mono ?_;rintro e w' ⟨rfl,rfl⟩)
   go_ret
   exact⟨z8 HR.out.symm,by exact bel_⟩
  ·have i1:inB (ns.length:Int) 1 12=false:=Xb.2 o_
   clear h1
   go_enter Tryz.func87,Tryz.ntmps87
   go_wp2_with (go_at_call 78;refine(zu _ _ _ _ _ i1).mono ?_;rintro e w' ⟨rfl,rfl⟩)
   go_ret
   exact⟨z8 HR.out.symm,by exact bel_⟩
 have i1:inB (ns.length:Int) 1 12=true:=zf.2 o_;have i2:¬(20:Int)<(ls.length:Int):=o_
 cases gV:q8 ns
 ·have HR:=h_ (z0b (ls:=ls) gV)
  clear Hl H9
  go_enter Tryz.func87,Tryz.ntmps87
  go_wp2_with (go_at_call 78;refine(zu _ _ _ _ _ i1).mono ?_;rintro e w' ⟨rfl,rfl⟩)
  refine(JY _ ns _ _ (hn.below bel_) gV).mono ?_
  rintro e w1 ⟨rfl,h9⟩;go_wp2;go_ret
  exact⟨z8 HR.out.symm,by exact bel_⟩
 have HE:=h_ hE;clear hE
 go_enter Tryz.func87,Tryz.ntmps87
 go_wp2_with (go_at_call 78;refine(zu _ _ _ _ _ i1).mono ?_;rintro e w' ⟨rfl,rfl⟩)
 refine(JY _ ns _ _ (hn.below bel_) gV).mono ?_
 rintro e w1 ⟨rfl,h9⟩;have Hz:Blk w1 w.heap.size 27 #[.slice An ns.length cn,.slice Al ls.length cl]:=Blk.below (Blk.newAt rfl) h9 sz_;have h8:Below w.heap.size w w1:=bel_
 clear h9 i1;obtain⟨a_0,a_1⟩:=Hz.c2;go_wp2
 go_loopw [31] (fun i wr=>∃k:Nat,k<=ns.length/\i= .int .i64 k/\Hid (Dis ns k)/\Blk wr w.heap.size 27 #[.slice An ns.length cn,.slice Al ls.length cl]/\Below w.heap.size w wr) (fun i _=>ns.length -(intOf i).toNat)
 case atStart=>exact⟨0,aab _,rfl,h_ (Dis.zero ns),Hz,h8⟩
 case round=>
  obtain⟨k,hk,rfl,HD,hW,Hb⟩:=hrel;clear Hz h8 a_0 a_1;have gx:=hW.lt
  by_cases Hf:k<ns.length
  ·obtain⟨b,off,rfl,hb,Gj⟩:=Hl o_
   obtain⟨k0,k1⟩:=Gj k Hf;have q0:=(Hb.cell (p:=⟨b,off+k*2,none⟩) hb).trans k0;have q1:=(Hb.cell (p:=⟨b,off+k*2+1,none⟩) hb).trans k1;have hT:=RP.take hn k hk;have ct:(0:Int)<=(k:Int):=o_
   have Cq:(k:Int)<(ns.length:Int):=o_
   have Mq:k<=cn:=o_
   have hi4:(k:Int)<=(cn:Int):=o_
   obtain⟨a_0,a_1⟩:=hW.c2;clear k0 k1 Gj Hl
   by_cases BE:((ndI ns k).1,(ndI ns k).2)∈ns.take k
   ·have HR:=h_ (z3D (ls:=ls) Hf BE)
    have hd:=aaQ BE;go_wp2
    (refine z7 k_ k_ (fun hG=>?_))
    repeat (go_big_quiet_step ((go_at_call 155;exact zI (Qw _ _ _ _ _ _ (RS.grw _ (RP.below hT bel_)) hd))))
    (refine wpQuiet_nil ?_);(clear hG);(rintro w2 ⟨⟨_,Hd⟩,rfl⟩);(try dsimp only)
    go_wp2;go_ret
    exact⟨z8 HR.out.symm,by exact bel_⟩
   ·have HX:Hid (Dis ns (k+1)):=h_ (HD.out.succ fun a ha=>by
     cases h:qt (ndI ns a) (ndI ns k)
     ·rfl
     ·exact absurd ((z40 Hf).2 ⟨a,ha,h⟩) BE)
    have hd:=aaO BE;go_wp2
    (refine z7 k_ k_ (fun hG=>?_))
    repeat (go_big_quiet_step ((go_at_call 155;exact zI (Qw _ _ _ _ _ _ (RS.grw _ (RP.below hT bel_)) hd))))
    (refine wpQuiet_nil ?_);(clear hG);(rintro w2 ⟨⟨_,Hd⟩,rfl⟩);(try dsimp only)
    have gM:Blk w2 w.heap.size 27 #[.slice (some ⟨b,off,none⟩) ns.length cn,.slice Al ls.length cl]:=Blk.below (hW.alloc _) Hd sz_;have Ha:Below w.heap.size w w2:=bel_
    go_wp2;go_roundw
    case rel=>exact⟨k+1,by omega,by go_num,HX,gM,Ha⟩
    case measure=>simp[intOf];omega
  ·have gi:k=ns.length:=o_
   subst gi;obtain⟨a_0,a_1⟩:=hW.c2;clear Hf;have r1:=h_ HD.out;clear HD;have fa:=Hb;have gy:=hW;go_wp2
   go_loopw [46] (fun i wr=>∃k:Nat,k<=ls.length/\i= .int .i64 k/\Hid (∀j:Nat,j<k->LdOk ns ls j)/\Blk wr w.heap.size 27 #[.slice An ns.length cn,.slice Al ls.length cl]/\Below w.heap.size w wr) (fun i _=>ls.length -(intOf i).toNat)
   case atStart=>exact⟨0,aab _,rfl,h_ (z4m ns ls),gy,fa⟩
   case round=>
    obtain⟨k,hk,rfl,CU,hW,Hb⟩:=hrel;clear gy fa a_0 a_1;have gx:=hW.lt
    by_cases Hf:k<ls.length
    ·obtain⟨b,off,rfl,hb,Gj⟩:=H9 o_
     obtain⟨k0,k1⟩:=Gj k Hf;have q0:=(Hb.cell (p:=⟨b,off+k*2,none⟩) hb).trans k0;have q1:=(Hb.cell (p:=⟨b,off+k*2+1,none⟩) hb).trans k1;have ct:(0:Int)<=(k:Int):=o_
     have Cq:(k:Int)<(ls.length:Int):=o_
     have Mq:k<=cl:=o_
     have hi4:(k:Int)<=(cl:Int):=o_
     obtain⟨a_0,a_1⟩:=hW.c2
     cases Ho:zv ns (ndI ls k)
     ·have HR:=h_ (ZU Hf Ho)
      clear k0 k1 Gj Hl
      go_wp2_with fail
      refine(JE _ ns (ndI ls k) _ _ (hn.below bel_) gV Ho).mono ?_
      rintro e w2 ⟨rfl,Hd⟩;go_wp2;go_ret
      exact⟨z8 HR.out.symm,by exact bel_⟩
     ·have HLK:=h_ Ho
      clear k0 k1;generalize hL:ndI ls (k:Int)=L at*;have HL:=h_ hL;clear hL;have Gd:Below w.heap.size w (wr.alloc (.cells #[.int .i64 L.1,.int .i64 L.2] 108)):=bel_
      go_wp2_with fail
      refine(JE _ ns L _ _ (hn.below bel_) gV Ho).mono ?_
      rintro e w2 ⟨rfl,Hd⟩;have gM:Blk w2 w.heap.size 27 #[.slice An ns.length cn,.slice (some ⟨b,off,none⟩) ls.length cl]:=Blk.below (hW.alloc _) Hd sz_;have Nh:Blk w2 wr.heap.size 108 #[.int .i64 L.1,.int .i64 L.2]:=Blk.below (Blk.newAt rfl) Hd sz_;have Ha:Below w.heap.size w w2:=bel_
      generalize wr.heap.size=B5 at*;clear a_0 a_1 Hd Gd hW Hb q0 q1;obtain⟨a_0,a_1⟩:=gM.c2;obtain⟨x_0,x_1⟩:=Nh.c2;go_wp2
      go_loopw [61] (fun i wr=>∃j:Nat,j<=k/\i= .int .i64 j/\Hid (CrOk ns ls L j)/\Blk wr w.heap.size 27 #[.slice An ns.length cn,.slice (some ⟨b,off,none⟩) ls.length cl]/\Blk wr B5 108 #[.int .i64 L.1,.int .i64 L.2]/\Below w.heap.size w wr) (fun i _=>k -(intOf i).toNat)
      case atStart=>exact⟨0,aab _,rfl,h_ (CrOk.zero ns ls L),gM,Nh,Ha⟩
      case round=>
       obtain⟨j,hj,rfl,HC,hW,FK,Hb⟩:=hrel;clear gM Nh Ha a_0 a_1 x_0 x_1;have gx:=hW.lt;have Fl:=FK.lt;obtain⟨a_0,a_1⟩:=hW.c2;obtain⟨x_0,x_1⟩:=FK.c2
       by_cases FH:j<k
       ·obtain⟨k0,k1⟩:=Gj j o_
        have q0:=(Hb.cell (p:=⟨b,off+j*2,none⟩) hb).trans k0;have q1:=(Hb.cell (p:=⟨b,off+j*2+1,none⟩) hb).trans k1;have Ys:(0:Int)<=(j:Int):=o_
        have hi6:(j:Int)<(k:Int):=o_
        clear k0 k1;obtain⟨E,hE⟩:∃E,qK ns L (ndI ls j)=E:=⟨_,rfl⟩;have HX:Hid (E=true->winB ns ls=false):=h_ (fun e=>QF Hf FH (by rw[HL.out,hE,e]));have r2:Hid (E=false->CrOk ns ls L (j+1)):=h_ (fun e=>HC.out.succ (by rw[hE,e]));generalize ndI ls (j:Int)=M at*
        go_wp2_with fail
        refine(z4S _ ns L M _ _ (hn.below bel_) gV hE).mono ?_
        rintro e w3 ⟨rfl,He⟩;have GA:Blk w3 w.heap.size 27 #[.slice An ns.length cn,.slice (some ⟨b,off,none⟩) ls.length cl]:=Blk.below (hW.alloc _) He sz_;have Bo:Blk w3 B5 108 #[.int .i64 L.1,.int .i64 L.2]:=Blk.below (FK.alloc _) He sz_;have Hc:Below w.heap.size w w3:=bel_
        clear He hW FK Hb a_0 a_1 x_0 x_1 q0 q1
        cases E
        ·have HY:=h_ (r2.out rfl)
         go_wp2;go_roundw
         case rel=>exact⟨j+1,by omega,by go_num,HY,GA,Bo,Hc⟩
         case measure=>simp[intOf];omega
        ·have HY:=h_ (HX.out rfl)
         go_wp2;go_ret
         exact⟨z8 HY.out.symm,Hc⟩
       ·have GP:j=k:=o_
        subst GP;have Ni:=h_ HC.out;have gy:=hW;have UX:=FK;have fa:=Hb;clear HC FH;go_wp2
        go_loopw [74] (fun i wr=>∃m:Nat,m<=ns.length/\i= .int .i64 m/\Hid (OnOk ns L m)/\Blk wr w.heap.size 27 #[.slice An ns.length cn,.slice (some ⟨b,off,none⟩) ls.length cl]/\Blk wr B5 108 #[.int .i64 L.1,.int .i64 L.2]/\Below w.heap.size w wr) (fun i _=>ns.length -(intOf i).toNat)
        case atStart=>exact⟨0,aab _,rfl,h_ (OnOk.zero ns L),gy,UX,fa⟩
        case round=>
         obtain⟨m,hm,rfl,HO,hW,FK,Hb⟩:=hrel;clear gy UX fa a_0 a_1 x_0 x_1 gx Fl;have gx:=hW.lt;have Fl:=FK.lt;obtain⟨a_0,a_1⟩:=hW.c2;obtain⟨x_0,x_1⟩:=FK.c2
         by_cases Mr:m<ns.length
         ·obtain⟨bn,offn,rfl,Gd,Ms⟩:=Hl o_
          obtain⟨k0,k1⟩:=Ms m Mr;have q0:=(Hb.cell (p:=⟨bn,offn+m*2,none⟩) Gd).trans k0;have q1:=(Hb.cell (p:=⟨bn,offn+m*2+1,none⟩) Gd).trans k1;have Ys:(0:Int)<=(m:Int):=o_
          have hi6:(m:Int)<(ns.length:Int):=o_
          clear k0 k1 Ms Hl
          by_cases h1:(m:Int)=L.1
          ·have HY:Hid (OnOk ns L (m+1)):=h_ (HO.out.succ (fun h _=>absurd h1 h))
           have Hc:Below w.heap.size w (wr.alloc (.cells #[.int .i64 (ndI ns m).1,.int .i64 (ndI ns m).2] 106)):=bel_
           have e1:((m:Int) != L.1)=false:=by simp[h1]
           clear h1;go_wp2;go_roundw
           case rel=>exact⟨m+1,by omega,by go_num,HY,hW.alloc _,FK.alloc _,Hc⟩
           case measure=>simp[intOf];omega
          ·have e1:((m:Int) != L.1)=true:=by simp[h1]
           have H1:=h_ h1;clear h1
           by_cases h2:(m:Int)=L.2
           ·have HY:Hid (OnOk ns L (m+1)):=h_ (HO.out.succ (fun _ h=>absurd h2 h))
            have Hc:Below w.heap.size w (wr.alloc (.cells #[.int .i64 (ndI ns m).1,.int .i64 (ndI ns m).2] 106)):=bel_
            have e2:((m:Int) != L.2)=false:=by simp[h2]
            clear h2;go_wp2;go_roundw
            case rel=>exact⟨m+1,by omega,by go_num,HY,hW.alloc _,FK.alloc _,Hc⟩
            case measure=>simp[intOf];omega
           ·have e2:((m:Int) != L.2)=true:=by simp[h2]
            have H2:=h_ h2;clear h2;obtain⟨E,hE⟩:∃E,onB ns L (ndI ns m)=E:=⟨_,rfl⟩;have HX:Hid (E=true->winB ns ls=false):=h_ (fun e=>XM Hf Mr (by rw[HL.out];exact H1.out) (by rw[HL.out];exact H2.out) (by rw[HL.out,hE,e]));have r2:Hid (E=false->OnOk ns L (m+1)):=h_ (fun e=>HO.out.succ (fun _ _=>by rw[hE,e]));generalize ndI ns (m:Int)=M at*
            go_wp2_with fail
            refine(z3w _ ns L M _ _ (hn.below bel_) gV hE).mono ?_
            rintro e w3 ⟨rfl,He⟩;have GA:Blk w3 w.heap.size 27 #[.slice (some ⟨bn,offn,none⟩) ns.length cn,.slice (some ⟨b,off,none⟩) ls.length cl]:=Blk.below (hW.alloc _) He sz_;have Bo:Blk w3 B5 108 #[.int .i64 L.1,.int .i64 L.2]:=Blk.below (FK.alloc _) He sz_;have Hc:Below w.heap.size w w3:=bel_
            clear He hW FK Hb a_0 a_1 x_0 x_1 q0 q1
            cases E
            ·have HY:=h_ (r2.out rfl)
             go_wp2;go_roundw
             case rel=>exact⟨m+1,by omega,by go_num,HY,GA,Bo,Hc⟩
             case measure=>simp[intOf];omega
            ·have HY:=h_ (HX.out rfl)
             go_wp2;go_ret
             exact⟨z8 HY.out.symm,Hc⟩
         ·have hmm:m=ns.length:=o_
          subst hmm;have HY:Hid (∀i:Nat,i<j+1->LdOk ns ls i):=h_ (z4g CU.out ⟨by rw[HL.out];exact HLK.out,by rw[HL.out];exact Ni.out,by rw[HL.out];exact HO.out⟩);clear Hl;go_wp2;go_roundw
          case rel=>exact⟨j+1,by omega,by go_num,HY,hW,Hb⟩
          case measure=>simp[intOf];omega
    ·have gi:k=ls.length:=o_
     subst gi;have HR:=h_ (z4d HE.out gV r1.out CU.out);clear Hf Hl H9;go_wp2;go_ret
     exact⟨z8 HR.out.symm,Hb⟩
attribute [local go_sem ↓] zr zt zR zQ
theorem XF (p:Pr) (b:Bool) (w:World) (h:jz p=b):
  CB_ 195 #[.agg #[.int .i64 p.1,.int .i64 p.2]] w (.bool b):=zO p.1 p.2 b w h
theorem JH (v:Value) (ns:List Pr) (l:Pr) (b:Bool) (w:World) (h:RP w v ns) (hb:zv ns l=b):
  CB_ 196 #[v,.agg #[.int .i64 l.1,.int .i64 l.2]] w (.bool b):=by
 subst hb;exact jp v ns l.1 l.2 w h
theorem z4O (v:Value) (ns:List Pr) (l m:Pr) (b:Bool) (w:World) (h:RP w v ns) (hb:qK ns m l=b):
  CB_ 197 #[v,.agg #[.int .i64 l.1,.int .i64 l.2],.agg #[.int .i64 m.1,.int .i64 m.2]] w (.bool b):=by
 rw[xg] at hb;subst hb;exact z2P v ns l.1 l.2 m.1 m.2 w h
theorem z3m (v:Value) (ns:List Pr) (l n:Pr) (b:Bool) (w:World) (h:RP w v ns) (hb:onB ns l n=b):
  CB_ 198 #[v,.agg #[.int .i64 l.1,.int .i64 l.2],.agg #[.int .i64 n.1,.int .i64 n.2]] w (.bool b):=by
 subst hb;exact z2r v ns l.1 l.2 n.1 n.2 w h
theorem z1x {ns:List Pr} {k:Nat} (hk:k<ns.length) (h:q8 (ns.take k)=true) (h2:jz (ndI ns k)=true):q8 (ns.take (k+1))=true:=by
 unfold q8 at h⊢;rw[aax hk,List.all_append,h,<-qd ns k hk]
 simpa[jz] using h2
theorem z1e {ns ls:List Pr} {k:Nat} (hk:k<ns.length) (h:jz (ndI ns k)=false):winB ns ls=false:=
 jI.2 fun hw=>by rw[jV hw.2.2.2.1 k hk] at h;cases h
theorem z2c {ns ls:List Pr} {i k:Nat} (hi:i<k) (hk:k<ns.length) (h:qt (ndI ns i) (ndI ns k)=true):winB ns ls=false:=
 jI.2 fun hw=>by rw[hw.2.2.2.2.1 i k hi hk] at h;cases h
theorem z3F (vn vl:Value) (ns ls:List Pr) (w:World) (hn:RP w vn ns) (hl:RP w vl ls):
  CB_ 118 #[.agg #[vn,vl]] w (.bool (winB ns ls)):=by
 obtain⟨An,cn,rfl,Fk,GL,Hl⟩:=hn.formI;obtain⟨Al,cl,rfl,Hy,Gz,H9⟩:=hl.formI;unfold maxLen at GL Gz
 by_cases hE:(1<=ns.length/\ns.length<=12)/\ls.length<=20
 case neg=>
  have HR:=h_ (ZW hE);have HE:=h_ hE;clear hE Hl H9
  by_cases h1:1<=ns.length/\ns.length<=12
  ·have i1:inB (ns.length:Int) 1 12=true:=zf.2 o_
   have i2:(20:Int)<(ls.length:Int):=by
    have:¬ls.length<=20:=fun h=>HE.out ⟨h1,h⟩
    omega
   clear h1
   go_enter Tryz.func118,Tryz.ntmps118
   go_wp2_with (go_at_call 138;refine(zP _ _ _ _ _ i1).mono ?_;rintro e w' ⟨rfl,rfl⟩)
   go_ret
   exact⟨z8 HR.out.symm,by exact bel_⟩
  ·have i1:inB (ns.length:Int) 1 12=false:=Xb.2 o_
   clear h1
   go_enter Tryz.func118,Tryz.ntmps118
   go_wp2_with (go_at_call 138;refine(zP _ _ _ _ _ i1).mono ?_;rintro e w' ⟨rfl,rfl⟩)
   go_ret
   exact⟨z8 HR.out.symm,by exact bel_⟩
 have i1:inB (ns.length:Int) 1 12=true:=zf.2 o_;have i2:¬(20:Int)<(ls.length:Int):=o_
 have HE:=h_ hE;clear hE
 go_enter Tryz.func118,Tryz.ntmps118
 go_wp2_with (go_at_call 138;refine(zP _ _ _ _ _ i1).mono ?_;rintro e w' ⟨rfl,rfl⟩)
 go_loopw [3] (fun i wr=>∃k:Nat,k<=ns.length/\i= .int .i64 k/\Hid (q8 (ns.take k)=true/\Dis ns k)/\Blk wr w.heap.size 27 #[.slice An ns.length cn,.slice Al ls.length cl]/\Below w.heap.size w wr) (fun i _=>ns.length -(intOf i).toNat)
 case atStart=>exact⟨0,aab _,rfl,h_ ⟨by simp[q8],Dis.zero ns⟩,Blk.newAt rfl,by exact bel_⟩
 case round=>
  obtain⟨k,hk,rfl,HD,hW,Hb⟩:=hrel;have gx:=hW.lt;obtain⟨a_0,a_1⟩:=hW.c2
  by_cases Hf:k<ns.length
  ·obtain⟨b,off,rfl,hb,Gj⟩:=Hl o_
   obtain⟨k0,k1⟩:=Gj k Hf;have q0:=(Hb.cell (p:=⟨b,off+k*2,none⟩) hb).trans k0;have q1:=(Hb.cell (p:=⟨b,off+k*2+1,none⟩) hb).trans k1;have ct:(0:Int)<=(k:Int):=o_
   have Cq:(k:Int)<(ns.length:Int):=o_
   clear Hl
   cases hnd:jz (ndI ns k)
   ·have HR:=h_ (z1e (ls:=ls) Hf hnd)
    clear k0 k1
    go_wp2_with fail
    refine(XF (ndI ns k) _ _ hnd).mono ?_
    rintro e w2 ⟨rfl,Hd⟩;go_wp2;go_ret
    exact⟨z8 HR.out.symm,by exact bel_⟩
   ·have nI:=h_ (z1x Hf HD.out.1 hnd)
    go_wp2_with fail
    refine(XF (ndI ns k) _ _ hnd).mono ?_
    rintro e w2 ⟨rfl,Hd⟩;have gM:Blk w2 w.heap.size 27 #[.slice (some ⟨b,off,none⟩) ns.length cn,.slice Al ls.length cl]:=Blk.below hW Hd sz_;have Ha:Below w.heap.size w w2:=bel_
    clear Hd hW Hb q0 q1 a_0 a_1;go_wp2
    go_loopw [4] (fun i wr=>∃j:Nat,j<=k/\i= .int .i64 j/\Hid (∀a:Nat,a<j->qt (ndI ns a) (ndI ns k)=false)/\Blk wr w.heap.size 27 #[.slice (some ⟨b,off,none⟩) ns.length cn,.slice Al ls.length cl]/\Below w.heap.size w wr) (fun i _=>k -(intOf i).toNat)
    case atStart=>exact⟨0,aab _,rfl,h_ (fun a ha=>absurd ha o_),gM,Ha⟩
    case round=>
     obtain⟨j,hj,rfl,HS,hW,Hb⟩:=hrel;clear gM Ha;obtain⟨a_0,a_1⟩:=hW.c2
     by_cases FH:j<k
     ·obtain⟨j0,j1⟩:=Gj j o_
      have q0:=(Hb.cell (p:=⟨b,off+k*2,none⟩) hb).trans k0;have q1:=(Hb.cell (p:=⟨b,off+k*2+1,none⟩) hb).trans k1;have q2:=(Hb.cell (p:=⟨b,off+j*2,none⟩) hb).trans j0;have q3:=(Hb.cell (p:=⟨b,off+j*2+1,none⟩) hb).trans j1;have Mq:(0:Int)<=(j:Int):=o_
      have hi4:(j:Int)<(ns.length:Int):=o_
      have Ys:(j:Int)<(k:Int):=o_
      clear k0 k1 j0 j1 Gj
      cases hsm:prB (ndI ns j).1 (ndI ns j).2 (ndI ns k).1 (ndI ns k).2
      ·have HX:Hid (∀a:Nat,a<j+1->qt (ndI ns a) (ndI ns k)=false):=h_ (by
        intro a ha
        rcases Nat.lt_succ_iff_lt_or_eq.1 ha with h|h
        ·exact HS.out a h
        ·subst h;exact hsm)
       go_wp2
       go_quiet (fail)
       go_wp2;go_roundw
       case rel=>exact⟨j+1,by omega,by go_num,HX,hW,by exact bel_⟩
       case measure=>simp[intOf];omega
      ·have HR:=h_ (z2c (ls:=ls) FH Hf hsm)
       go_wp2
       go_quiet (fail)
       go_wp2;go_ret
       exact⟨z8 HR.out.symm,by exact bel_⟩
     ·have GP:j=k:=o_
      subst GP;have HX:Hid (q8 (ns.take (j+1))=true/\Dis ns (j+1)):=h_ ⟨nI.out,HD.out.2.succ HS.out⟩;clear k0 k1 Gj FH;go_wp2;go_roundw
      case rel=>exact⟨j+1,by omega,by go_num,HX,hW,Hb⟩
      case measure=>simp[intOf];omega
  ·have gi:k=ns.length:=o_
   subst gi
   have gV:q8 ns=true:=by
    have:=HD.out.1
    rwa [aaA] at this
   have r1:=h_ HD.out.2;clear HD Hf;have fa:=Hb;have gy:=hW;go_wp2
   go_loopw [5] (fun i wr=>∃k:Nat,k<=ls.length/\i= .int .i64 k/\Hid (∀j:Nat,j<k->LdOk ns ls j)/\Blk wr w.heap.size 27 #[.slice An ns.length cn,.slice Al ls.length cl]/\Below w.heap.size w wr) (fun i _=>ls.length -(intOf i).toNat)
   case atStart=>exact⟨0,aab _,rfl,h_ (z4m ns ls),gy,fa⟩
   case round=>
    obtain⟨k,hk,rfl,CU,hW,Hb⟩:=hrel;clear gy fa a_0 a_1;have gx:=hW.lt
    by_cases Hf:k<ls.length
    ·obtain⟨b,off,rfl,hb,Gj⟩:=H9 o_
     obtain⟨k0,k1⟩:=Gj k Hf;have q0:=(Hb.cell (p:=⟨b,off+k*2,none⟩) hb).trans k0;have q1:=(Hb.cell (p:=⟨b,off+k*2+1,none⟩) hb).trans k1;have ct:(0:Int)<=(k:Int):=o_
     have Cq:(k:Int)<(ls.length:Int):=o_
     obtain⟨a_0,a_1⟩:=hW.c2;have fV:b<wr.heap.size:=by have:=Hb.size;omega
     cases Ho:zv ns (ndI ls k)
     ·have HR:=h_ (ZU Hf Ho)
      clear k0 k1 Gj Hl
      go_wp2_with fail
      refine(JH _ ns (ndI ls k) _ _ (hn.below bel_) Ho).mono ?_
      rintro e w2 ⟨rfl,Hd⟩;go_wp2;go_ret
      exact⟨z8 HR.out.symm,by exact bel_⟩
     ·have HLK:=h_ Ho
      clear k0 k1;generalize hL:ndI ls (k:Int)=L at*;have HL:=h_ hL;clear hL
      go_wp2_with fail
      refine(JH _ ns L _ _ (hn.below bel_) Ho).mono ?_
      rintro e w2 ⟨rfl,Hd⟩;have gM:Blk w2 w.heap.size 27 #[.slice An ns.length cn,.slice (some ⟨b,off,none⟩) ls.length cl]:=Blk.below (hW.alloc _) Hd sz_;have Nh:Blk w2 wr.heap.size 108 #[.int .i64 L.1,.int .i64 L.2]:=Blk.below (Blk.newAt rfl) Hd sz_;have Ha:Below w.heap.size w w2:=bel_
      generalize wr.heap.size=B5 at*;clear a_0 a_1 Hd hW Hb q0 q1;go_wp2
      go_loopw [7] (fun i wr=>∃j:Nat,j<=k/\i= .int .i64 j/\Hid (CrOk ns ls L j)/\Blk wr w.heap.size 27 #[.slice An ns.length cn,.slice (some ⟨b,off,none⟩) ls.length cl]/\Blk wr B5 108 #[.int .i64 L.1,.int .i64 L.2]/\Below w.heap.size w wr) (fun i _=>k -(intOf i).toNat)
      case atStart=>exact⟨0,aab _,rfl,h_ (CrOk.zero ns ls L),gM,Nh,Ha⟩
      case round=>
       obtain⟨j,hj,rfl,HC,hW,FK,Hb⟩:=hrel;clear gM Nh Ha;have gx:=hW.lt;have Fl:=FK.lt;obtain⟨a_0,a_1⟩:=hW.c2;obtain⟨x_0,x_1⟩:=FK.c2
       by_cases FH:j<k
       ·obtain⟨k0,k1⟩:=Gj j o_
        have q0:=(Hb.cell (p:=⟨b,off+j*2,none⟩) hb).trans k0;have q1:=(Hb.cell (p:=⟨b,off+j*2+1,none⟩) hb).trans k1;have Ys:(0:Int)<=(j:Int):=o_
        have hi6:(j:Int)<(k:Int):=o_
        have hi7:(j:Int)<(ls.length:Int):=o_
        have mp:b<wr.heap.size:=by have:=Hb.size;omega
        clear k0 k1;obtain⟨E,hE⟩:∃E,qK ns L (ndI ls j)=E:=⟨_,rfl⟩;have HX:Hid (E=true->winB ns ls=false):=h_ (fun e=>QF Hf FH (by rw[HL.out,hE,e]));have r2:Hid (E=false->CrOk ns ls L (j+1)):=h_ (fun e=>HC.out.succ (by rw[hE,e]));generalize ndI ls (j:Int)=M at*;have r3:RP wr (.slice An ns.length cn) ns:=hn.below Hb
        go_wp2_with fail
        (refine z7 k_ k_ (fun hG=>?_))
        repeat (go_big_quiet_step ((go_at_call 197;exact zI (z4O _ ns M L _ _ (RS.grw _ r3) hE))))
        (refine wpQuiet_nil ?_);(clear hG);(rintro w3 ⟨⟨_,He⟩,rfl⟩);(try dsimp only)
        have GA:Blk w3 w.heap.size 27 #[.slice An ns.length cn,.slice (some ⟨b,off,none⟩) ls.length cl]:=Blk.below hW He sz_;have Bo:Blk w3 B5 108 #[.int .i64 L.1,.int .i64 L.2]:=Blk.below FK He sz_;have Hc:Below w.heap.size w w3:=bel_
        clear He hW FK Hb a_0 a_1 x_0 x_1 q0 q1 r3
        cases E
        ·have HY:=h_ (r2.out rfl)
         go_wp2;go_roundw
         case rel=>exact⟨j+1,by omega,by go_num,HY,GA,Bo,Hc⟩
         case measure=>simp[intOf];omega
        ·have HY:=h_ (HX.out rfl)
         go_wp2;go_ret
         exact⟨z8 HY.out.symm,Hc⟩
       ·have GP:j=k:=o_
        subst GP;have Ni:=h_ HC.out;have gy:=hW;have UX:=FK;have fa:=Hb;clear HC FH;go_wp2
        go_loopw [8] (fun i wr=>∃m:Nat,m<=ns.length/\i= .int .i64 m/\Hid (OnOk ns L m)/\Blk wr w.heap.size 27 #[.slice An ns.length cn,.slice (some ⟨b,off,none⟩) ls.length cl]/\Blk wr B5 108 #[.int .i64 L.1,.int .i64 L.2]/\Below w.heap.size w wr) (fun i _=>ns.length -(intOf i).toNat)
        case atStart=>exact⟨0,aab _,rfl,h_ (OnOk.zero ns L),gy,UX,fa⟩
        case round=>
         obtain⟨m,hm,rfl,HO,hW,FK,Hb⟩:=hrel;clear gy UX fa a_0 a_1 x_0 x_1 gx Fl;have gx:=hW.lt;have Fl:=FK.lt;obtain⟨a_0,a_1⟩:=hW.c2;obtain⟨x_0,x_1⟩:=FK.c2
         by_cases Mr:m<ns.length
         ·obtain⟨bn,offn,rfl,Gd,Ms⟩:=Hl o_
          obtain⟨k0,k1⟩:=Ms m Mr;have q0:=(Hb.cell (p:=⟨bn,offn+m*2,none⟩) Gd).trans k0;have q1:=(Hb.cell (p:=⟨bn,offn+m*2+1,none⟩) Gd).trans k1;have Ys:(0:Int)<=(m:Int):=o_
          have hi6:(m:Int)<(ns.length:Int):=o_
          have mp:bn<wr.heap.size:=by have:=Hb.size;omega
          have r3:RP wr (.slice (some ⟨bn,offn,none⟩) ns.length cn) ns:=hn.below Hb;clear k0 k1 Ms Hl
          by_cases h1:(m:Int)=L.1
          ·have HY:Hid (OnOk ns L (m+1)):=h_ (HO.out.succ (fun h _=>absurd h1 h))
           have e1:((m:Int) != L.1)=false:=by simp[h1]
           clear h1
           go_wp2_with fail
           (refine z7 k_ k_ (fun hG=>?_))
           repeat (go_big_quiet_step (fail))
           (refine wpQuiet_nil ?_);(clear hG);(rintro w3 ⟨⟨_,He⟩,rfl⟩);(try dsimp only)
           have GA:Blk w3 w.heap.size 27 #[.slice (some ⟨bn,offn,none⟩) ns.length cn,.slice (some ⟨b,off,none⟩) ls.length cl]:=Blk.below hW He sz_;have Bo:Blk w3 B5 108 #[.int .i64 L.1,.int .i64 L.2]:=Blk.below FK He sz_;have Hc:Below w.heap.size w w3:=bel_
           clear He hW FK Hb a_0 a_1 x_0 x_1 q0 q1 r3;go_wp2;go_roundw
           case rel=>exact⟨m+1,by omega,by go_num,HY,GA,Bo,Hc⟩
           case measure=>simp[intOf];omega
          ·have e1:((m:Int) != L.1)=true:=by simp[h1]
           have H1:=h_ h1;clear h1
           by_cases h2:(m:Int)=L.2
           ·have HY:Hid (OnOk ns L (m+1)):=h_ (HO.out.succ (fun _ h=>absurd h2 h))
            have e2:((m:Int) != L.2)=false:=by simp[h2]
            clear h2
            go_wp2_with fail
            (refine z7 k_ k_ (fun hG=>?_))
            repeat (go_big_quiet_step (fail))
            (refine wpQuiet_nil ?_);(clear hG);(rintro w3 ⟨⟨_,He⟩,rfl⟩);(try dsimp only)
            have GA:Blk w3 w.heap.size 27 #[.slice (some ⟨bn,offn,none⟩) ns.length cn,.slice (some ⟨b,off,none⟩) ls.length cl]:=Blk.below hW He sz_;have Bo:Blk w3 B5 108 #[.int .i64 L.1,.int .i64 L.2]:=Blk.below FK He sz_;have Hc:Below w.heap.size w w3:=bel_
            clear He hW FK Hb a_0 a_1 x_0 x_1 q0 q1 r3;go_wp2;go_roundw
            case rel=>exact⟨m+1,by omega,by go_num,HY,GA,Bo,Hc⟩
            case measure=>simp[intOf];omega
           ·have e2:((m:Int) != L.2)=true:=by simp[h2]
            have H2:=h_ h2;clear h2;obtain⟨E,hE⟩:∃E,onB ns L (ndI ns m)=E:=⟨_,rfl⟩;have HX:Hid (E=true->winB ns ls=false):=h_ (fun e=>XM Hf Mr (by rw[HL.out];exact H1.out) (by rw[HL.out];exact H2.out) (by rw[HL.out,hE,e]));have r2:Hid (E=false->OnOk ns L (m+1)):=h_ (fun e=>HO.out.succ (fun _ _=>by rw[hE,e]));generalize ndI ns (m:Int)=M at*
            go_wp2_with fail
            (refine z7 k_ k_ (fun hG=>?_))
            repeat (go_big_quiet_step ((go_at_call 198;exact zI (z3m _ ns L M _ _ (RS.grw _ r3) hE))))
            (refine wpQuiet_nil ?_);(clear hG);(rintro w3 ⟨⟨_,He⟩,rfl⟩);(try dsimp only)
            have GA:Blk w3 w.heap.size 27 #[.slice (some ⟨bn,offn,none⟩) ns.length cn,.slice (some ⟨b,off,none⟩) ls.length cl]:=Blk.below hW He sz_;have Bo:Blk w3 B5 108 #[.int .i64 L.1,.int .i64 L.2]:=Blk.below FK He sz_;have Hc:Below w.heap.size w w3:=bel_
            clear He hW FK Hb a_0 a_1 x_0 x_1 q0 q1 r3
            cases E
            ·have HY:=h_ (r2.out rfl)
             go_wp2;go_roundw
             case rel=>exact⟨m+1,by omega,by go_num,HY,GA,Bo,Hc⟩
             case measure=>simp[intOf];omega
            ·have HY:=h_ (HX.out rfl)
             go_wp2;go_ret
             exact⟨z8 HY.out.symm,Hc⟩
         ·have hmm:m=ns.length:=o_
          subst hmm;have HY:Hid (∀i:Nat,i<j+1->LdOk ns ls i):=h_ (z4g CU.out ⟨by rw[HL.out];exact HLK.out,by rw[HL.out];exact Ni.out,by rw[HL.out];exact HO.out⟩);clear Hl;go_wp2;go_roundw
          case rel=>exact⟨j+1,by omega,by go_num,HY,hW,Hb⟩
          case measure=>simp[intOf];omega
    ·have gi:k=ls.length:=o_
     subst gi;have HR:=h_ (z4d HE.out gV r1.out CU.out);obtain⟨a_0,a_1⟩:=hW.c2;clear Hf Hl H9;go_wp2;go_ret
     exact⟨z8 HR.out.symm,Hb⟩
def posN (bf:Nat->Bool) (G:List Nat):Nat->Nat
 |0=>0
 |a+1=>if bf (G.getD a 0) then posN bf G a else a+1
def insN (bf:Nat->Bool) (d:Nat) (G:List Nat):List Nat:=G.take (posN bf G G.length)++d::G.drop (posN bf G G.length)
theorem z0T (bf:Nat->Bool) (G:List Nat):∀a,posN bf G a<=a
 |0=>aaa _
 |a+1=>by
  unfold posN
  split
  ·exact Nat.le_succ_of_le (z0T bf G a)
  ·exact aaa _
theorem ZL (bf:Nat->Bool) (d:Nat) (G:List Nat):(insN bf d G).length =G.length+1:=by
 have:=z0T bf G G.length;simp[insN];omega
theorem VI {bf:Nat->Bool} {d e:Nat} {G:List Nat} (h:e∈insN bf d G):e=d∨e∈G:=by
 unfold insN at h;rw[aaI,List.mem_cons] at h
 rcases h with h|h|h
 ·exact .inr (List.mem_of_mem_take h)
 ·exact .inl h
 ·exact .inr (List.mem_of_mem_drop h)
def bfD (ns ls:List Pr) (k:Nat) (d e:Nat):Bool:=
 befB (ndI ns k).1 (ndI ns k).2 (ndI ns (dTo ls d)).1 (ndI ns (dTo ls d)).2 (ndI ns (dTo ls e)).1 (ndI ns (dTo ls e)).2
def ardS (ns ls:List Pr) (k:Nat):Nat->List Nat
 |0=> []
 |d+1=>if zc ls d=k then insN (bfD ns ls k d) d (ardS ns ls k d) else ardS ns ls k d
theorem xQ {ns ls:List Pr} {k d:Nat} (h:¬zc ls d=k):ardS ns ls k (d+1)=ardS ns ls k d:=by simp[ardS,h]
theorem kt {ns ls:List Pr} {k d:Nat} (h:zc ls d=k):ardS ns ls k (d+1)=insN (bfD ns ls k d) d (ardS ns ls k d):=by simp[ardS,h]
theorem z0x (ns ls:List Pr) (k:Nat):∀d e,e∈ardS ns ls k d->e<d
 |0,e,h=>by simp[ardS] at h
 |d+1,e,h=>by
  unfold ardS at h
  split at h
  ·rcases VI h with rfl|h
   ·omega
   ·have:=z0x ns ls k d e h;omega
  ·have:=z0x ns ls k d e h;omega
theorem V1 (ns ls:List Pr) (k:Nat):∀d,(ardS ns ls k d).length <=d
 |0=>by simp[ardS]
 |d+1=>by
  unfold ardS
  split
  ·rw[ZL];have:=V1 ns ls k d;omega
  ·have:=V1 ns ls k d;omega
def natI (G:List Nat):List Int:=G.map fun (d:Nat)=>(d:Int)
theorem za (G:List Nat):(natI G).length =G.length:=by simp[natI]
theorem OwnI.made {base:Nat} {w:World} {g:Nat} (hg:g=w.heap.size) (hb:base<=w.heap.size):OwnI base (w.alloc (.cells #[] 3)) (.slice (some ⟨g,0,none⟩) 0 0) []:=by
 subst hg;exact World.ownsRow_made _ _ _ hb (by simp) (by simp[maxLen])
theorem OwnI.form {base:Nat} {w:World} {v:Value} {zs:List Int} (h:OwnI base w v zs):∃A c,v= .slice A zs.length c:=by
 rcases h.2 with ⟨rfl,hn⟩|⟨g,cap,cur,rfl,_⟩
 ·exact⟨none,0,by rw[hn]⟩
 ·exact⟨_,_,rfl⟩
def gapI (G:List Nat) (at':Nat) (y:Int):List Int:=natI (G.take at')++y::natI (G.drop at')
theorem jq (G:List Nat) (a:Nat) (y:Int) (h:a<=G.length):(gapI G a y).length =G.length+1:=by
 simp[gapI,natI];omega
theorem Zf (G:List Nat) (y:Int):gapI G G.length y=natI G++[y]:=by simp[gapI,natI]
theorem zaj (G:List Nat) (a:Nat) (y:Int) (h:a<G.length):(gapI G (a+1) y).getD a 0=((G.getD a 0:Nat):Int):=by
 unfold gapI natI;rw[List.getD,abc (by simp;omega)];simp[List.getElem?_take,h]
theorem Z9 (G:List Nat) (a:Nat) (y:Int) (h:a<G.length):(gapI G (a+1) y).set (a+1) ((G.getD a 0:Nat):Int)=gapI G a ((G.getD a 0:Nat):Int):=by
 unfold gapI natI;rw[aan,aaq (by simp;omega)];have e:(List.map (fun (d:Nat)=>(d:Int)) (G.take (a+1))).length =a+1:=by simp;omega
 rw[e,aae,aal,aax h,aaz,aay];simp[List.getD,h]
 rw[aas (i:=a) (by simpa using h)];simp
theorem xB (G:List Nat) (a:Nat) (y:Int) (d:Nat) (h:a<=G.length):(gapI G a y).set a (d:Int)=natI (G.take a++d::G.drop a):=by
 unfold gapI natI;rw[aan,aaq (by simp;omega)];have e:(List.map (fun (d:Nat)=>(d:Int)) (G.take a)).length =a:=by simp;omega
 rw[e,aae,aal,aaz,aaS]
theorem jG {ns ls:List Pr} (Ho:∀j:Nat,j<ls.length->zv ns (ndI ls j)=true) {d:Nat} (hd:d<2*ls.length):∃t:Nat,dTo ls d=(t:Int)/\t<ns.length:=by
 obtain⟨h1,h2,h3,_⟩:=zZ.1 (Ho (d/2) o_);unfold dTo
 split
 ·exact⟨(ndI ls (d/2:Nat)).1.toNat,by omega,by omega⟩
 ·exact⟨(ndI ls (d/2:Nat)).2.toNat,by omega,by omega⟩
theorem z32 (a b c:Pr) (x:Bool) (w:World) (h:befB a.1 a.2 b.1 b.2 c.1 c.2=x):
  Calls Tryz.prog 272 #[.agg #[.int .i64 a.1,.int .i64 a.2],.agg #[.int .i64 b.1,.int .i64 b.2],.agg #[.int .i64 c.1,.int .i64 c.2]] w
   fun e w'=>e= .returned (.bool x)/\Below w.heap.size w w':=by
 subst h;exact z1L _ _ _ _ _ _ w
theorem z2e (vn vl:Value) (ns ls:List Pr) (k:Nat) (w:World) (hn:RP w vn ns) (hl:RP w vl ls) (hk:k<ns.length) (hm:ls.length<=20) (f8:ns.length<=12) (Ho:∀j:Nat,j<ls.length->zv ns (ndI ls j)=true):
  Calls Tryz.prog 266 #[.agg #[vn,vl],.int .i64 k] w (RetI (natI (ardS ns ls k (2*ls.length))) w):=by
 obtain⟨An,cn,rfl,Fk,GL,Hl⟩:=hn.formI;obtain⟨Al,cl,rfl,Hy,Gz,_⟩:=hl.formI;unfold maxLen at GL Gz;obtain⟨bn,offn,rfl,Gd,Gj⟩:=Hl o_;obtain⟨i0,hi,iz0,iz1,iz2⟩:=info_parts qu;have CU:=h_ Ho;clear Ho Hl
 go_enter Tryz.func266,Tryz.ntmps266
 go_wp2
 go_loopw [5,6] (fun v i wr=>∃d:Nat,d<=2*ls.length/\i= .int .i64 d/\OwnI (w.heap.size+1) wr v (natI (ardS ns ls k d))/\Blk wr w.heap.size 27 #[.slice (some ⟨bn,offn,none⟩) ns.length cn,.slice Al ls.length cl]/\Below w.heap.size w wr) (fun _ i _=>2*ls.length -(intOf i).toNat)
 case atStart=>exact⟨0,aab _,rfl,OwnI.made (by simp) (by simp),(Blk.newAt rfl).alloc _,by exact bel_⟩
 case round=>
  obtain⟨d,hd,rfl,ho,hW,Hb⟩:=hrel;have gx:=hW.lt;obtain⟨a_0,a_1⟩:=hW.c2
  by_cases Hf:d<2*ls.length
  ·have Hp:(d:Int)<2*(ls.length:Int):=o_
   go_wp2_with fail
   refine(kf _ _ ls d _ (hl.below bel_) Hf).mono ?_
   rintro e w1 ⟨rfl,h9⟩;have Ht:=h9.size;(try simp at Ht);(try have gF:=p0_ w w1)
   have Hi:=ho.kept h9;have Hz:=hW.below h9 gx;have h8:Below w.heap.size w w1:=bel_
   clear h9 ho hW Hb a_0 a_1
   by_cases Ct:zc ls d=k
   ·have e1:(zc ls d != (k:Int))=false:=by simp[Ct]
    have HS:=h_ (kt (ns:=ns) Ct);have hle:=V1 ns ls k d;have FZ:=h_ (z0x ns ls k d);generalize ardS ns ls k d=G at*;have hgl:=za G;have hG:G.length<=40:=o_
    obtain⟨t,ht,CV⟩:=jG CU.out Hf;rw[ht,Ct];have Yt:=h_ ht;have F0:=h_ hgl;obtain⟨k0,k1⟩:=Gj k hk;obtain⟨t0,t1⟩:=Gj t CV;clear Ct ht hgl hle;have r4:=h8.size;have Hj:=Hi.form;obtain⟨A1,c1,mE⟩:=Hj;subst mE;obtain⟨a_0,a_1⟩:=Hz.c2
    go_wp2_with (at_builtin;refine wpList_append_own _ rfl _ _ 31 rfl (w.heap.size+1) 3 i0 (.int .i64 0) 1 8 Tryz.underlying31 hi iz0 iz1 iz2 rfl (by decide) _ _ _ rfl (World.ownsRow.alloc Hi _) ⟨w1.heap.size,0,none⟩ 1 1 [.int .i64 _] rfl rfl (cell_one_new _ _ _) (by intro u hu;simp at hu;subst hu;rfl) (by rw[F0.out];unfold maxLen;omega) (by rw[F0.out];omega) (by simp;omega) ?_)
    intro v2 w2 GU gm Gs;have Gb:Below w.heap.size w w2:=(h8.alloc o_ _).grown gm (by simp;omega) (fun k hk=>by have:=(Hi.lt k hk).1;omega);have gM:Blk w2 w.heap.size 27 #[.slice (some ⟨bn,offn,none⟩) ns.length cn,.slice Al ls.length cl]:=(gm.block _ (by simp;omega) (fun e=>by have:=(Hi.lt _ e.symm).1;omega)).trans (Hz.alloc _)
    have HO:OwnI (w.heap.size+1) w2 v2 (gapI G G.length (d:Int)):=by
     rw[Zf];exact OwnI.snoc GU
    clear GU gm Hi Hz h8 a_0 a_1 r4 gx
    rcases FB:HO.2 with ⟨e0,_⟩|⟨gb,cap,cur,rfl,Ce,hh,fN⟩
    ·exact absurd e0 Gs
    have CW:gb<w2.heap.size:=(HO.lt gb rfl).2;have gd:¬gb=w.heap.size:=o_
    clear FB hh fN cur Gs;rw[jq G G.length _ (aaa _)] at HO⊢;rw[F0.out];go_wp2
    go_loopw [9] (fun x wr=>∃p:Nat,p<=G.length/\x= .int .i64 p/\(∃y,OwnI (w.heap.size+1) wr (.slice (some ⟨gb,0,none⟩) (G.length+1) cap) (gapI G p y))/\Hid (posN (bfD ns ls k d) G G.length=posN (bfD ns ls k d) G p)/\Blk wr w.heap.size 27 #[.slice (some ⟨bn,offn,none⟩) ns.length cn,.slice Al ls.length cl]/\Below w.heap.size w wr/\gb<wr.heap.size) (fun x _=>(intOf x).toNat)
    case atStart=>exact⟨G.length,aaa _,rfl,⟨_,HO⟩,h_ rfl,gM,Gb,CW⟩
    case round=>
     obtain⟨p,hp,rfl,⟨y,FL⟩,HP,hW,Hb,BF⟩:=hrel;clear HO gM Gb CW;have gx:=hW.lt;have r5:=jq G p y hp;obtain⟨a_0,a_1⟩:=hW.c2
     by_cases m9:0<p
     ·obtain⟨r,rfl⟩:∃r,p=r+1:=⟨p -1,by omega⟩
      have hr:r<G.length:=o_
      have xr:=FL.cell (q:=r) o_;rw[zaj G r y hr] at xr;have he:G.getD r 0<d:=FZ.out _ (by rw[List.getD,aac hr];exact abg hr);have HMV:=h_ (Z9 G r y hr);have mq:Hid (posN (bfD ns ls k d) G (r+1)=if bfD ns ls k d (G.getD r 0) then posN (bfD ns ls k d) G r else r+1):=h_ rfl;generalize Yu:G.getD r 0=e at*;have HEV:=h_ Yu;clear Yu;obtain⟨t2,r6,ht2n⟩:=jG CU.out (show e<2*ls.length by omega);have UY:=h_ r6;obtain⟨s0,s1⟩:=Gj t2 ht2n;obtain⟨x,hx⟩:∃x,befB (ndI ns k).1 (ndI ns k).2 (ndI ns t).1 (ndI ns t).2 (ndI ns t2).1 (ndI ns t2).2=x:=⟨_,rfl⟩;have HX:Hid (bfD ns ls k d e=x):=h_ (by unfold bfD;rw[Yt.out,UY.out];exact hx);have Mt:RP wr (.slice Al ls.length cl) ls:=hl.below Hb;have ct:(0:Int)<=(r:Int):=o_
      go_wp2_with fail
      (refine z7 k_ k_ (fun hG=>?_))
      repeat (go_big_quiet_step ((go_at_call 192;exact zI (kf _ _ ls e _ (RS.grw _ Mt) o_))))
      (refine wpQuiet_nil ?_);(clear hG);(rintro w3 ⟨⟨_,He⟩,rfl⟩);(try dsimp only);have G5:=He.size;(try simp at G5);(try have Fw:=p0_ w w3);(try have Fy:=p1_ w w3)
      have GA:=hW.below He gx;have Hm:=FL.kept He;have gq:Below w.heap.size w w3:=bel_
      have hgw3:gb<w3.heap.size:=o_
      have G5:w.heap.size<w3.heap.size:=GA.lt;have hbn3:bn<w3.heap.size:=o_
      have c0:=(gq.cell (p:=⟨bn,offn+k*2,none⟩) Gd).trans k0;have c1':=(gq.cell (p:=⟨bn,offn+k*2+1,none⟩) Gd).trans k1;have c2:=(gq.cell (p:=⟨bn,offn+t*2,none⟩) Gd).trans t0;have c3:=(gq.cell (p:=⟨bn,offn+t*2+1,none⟩) Gd).trans t1;have c4:=(gq.cell (p:=⟨bn,offn+t2*2,none⟩) Gd).trans s0;have c5:=(gq.cell (p:=⟨bn,offn+t2*2+1,none⟩) Gd).trans s1;have ik1:(0:Int)<=(k:Int):=o_
      have ik2:(k:Int)<(ns.length:Int):=o_
      have it1:(0:Int)<=(t:Int):=o_
      have it2:(t:Int)<(ns.length:Int):=o_
      have is1:(0:Int)<=(t2:Int):=o_
      have is2:(t2:Int)<(ns.length:Int):=o_
      clear He Fw Fy hW FL Hb a_0 a_1 xr Mt;obtain⟨a_0,a_1⟩:=GA.c2;rw[UY.out]
      go_wp2_with fail
      (refine z7 k_ k_ (fun hG=>?_))
      repeat (go_big_quiet_step ((go_at_call 272;exact zI (z32 (ndI ns k) (ndI ns t) (ndI ns t2) _ _ hx))))
      (refine wpQuiet_nil ?_);(clear hG);(rintro w4 ⟨⟨_,Hw⟩,rfl⟩);(try dsimp only);have bv:=Hw.size;(try simp at bv)
      have hW:=GA.below Hw G5;have FL:=Hm.kept Hw;have Hb:Below w.heap.size w w4:=bel_
      have UZ:gb<w4.heap.size:=o_
      clear Hw bv GA Hm gq a_0 a_1 c0 c1' c2 c3 c4 c5 G5;obtain⟨a_0,a_1⟩:=hW.c2
      cases x
      ·have Fd:Hid (posN (bfD ns ls k d) G G.length=r+1):=h_ (by rw[HP.out,mq.out,HX.out];rfl)
       have xp:=FL.cell (q:=r+1) o_;obtain⟨z,hz⟩:∃z,w4.cell? ⟨gb,r+1,none⟩=some z:=⟨_,xp⟩;have fp:=FL.frz (r+1)
       have FJ:Hid (OwnI (w.heap.size+1) (w4.setCell ⟨gb,r+1,none⟩ (.int .i64 (d:Int))) (.slice (some ⟨gb,0,none⟩) (G.length+1) cap) (natI (ardS ns ls k (d+1)))):=h_ (by
        rw[HS.out];unfold insN;rw[Fd.out,<-xB G (r+1) y d o_];exact FL.set_ (r+1) (d:Int))
       have cV:=h_ (Hb.setCell (p:=⟨gb,r+1,none⟩) (show w.heap.size<=gb by omega) (.int .i64 (d:Int)));have CX:=h_ (hW.far (p:=⟨gb,r+1,none⟩) (Ne.symm gd) (.int .i64 (d:Int)));clear xp FL Hb hW a_0 a_1;go_wp2;go_roundw
       case rel=>exact⟨d+1,by omega,by go_num,FJ.out,CX.out,cV.out⟩
       case measure=>simp[intOf];omega
      ·have Fd:Hid (posN (bfD ns ls k d) G G.length=posN (bfD ns ls k d) G r):=h_ (by rw[HP.out,mq.out,HX.out];rfl)
       have xp:=FL.cell (q:=r+1) o_;obtain⟨z,hz⟩:∃z,w4.cell? ⟨gb,r+1,none⟩=some z:=⟨_,xp⟩;have fp:=FL.frz (r+1);have xr:=FL.cell (q:=r) o_;rw[zaj G r y hr,HEV.out] at xr
       have FJ:Hid (OwnI (w.heap.size+1) (w4.setCell ⟨gb,r+1,none⟩ (.int .i64 (e:Int))) (.slice (some ⟨gb,0,none⟩) (G.length+1) cap) (gapI G r (e:Int))):=h_ (by
        rw[<-HMV.out];exact FL.set_ (r+1) (e:Int))
       have cV:=h_ (Hb.setCell (p:=⟨gb,r+1,none⟩) (show w.heap.size<=gb by omega) (.int .i64 (e:Int)));have CX:=h_ (hW.far (p:=⟨gb,r+1,none⟩) (Ne.symm gd) (.int .i64 (e:Int)));have mr:(r:Int)<(G.length:Int)+1:=o_
       clear xp FL Hb hW a_0 a_1;go_wp2;go_roundw
       case rel=>exact⟨r,by omega,by go_num,⟨_,FJ.out⟩,Fd,CX.out,cV.out,by simpa using UZ⟩
       case measure=>simp[intOf]
     ·have BG:p=0:=o_
      subst BG;have Fd:Hid (posN (bfD ns ls k d) G G.length=0):=h_ HP.out;clear m9;have xp:=FL.cell (q:=0) o_;obtain⟨z,hz⟩:∃z,wr.cell? ⟨gb,0,none⟩=some z:=⟨_,xp⟩;have fp:=FL.frz 0
      have FJ:Hid (OwnI (w.heap.size+1) (wr.setCell ⟨gb,0,none⟩ (.int .i64 (d:Int))) (.slice (some ⟨gb,0,none⟩) (G.length+1) cap) (natI (ardS ns ls k (d+1)))):=h_ (by
       rw[HS.out];unfold insN;rw[Fd.out,<-xB G 0 y d o_];exact FL.set_ 0 (d:Int))
      have cV:=h_ (Hb.setCell (p:=⟨gb,0,none⟩) (show w.heap.size<=gb by omega) (.int .i64 (d:Int)));have CX:=h_ (hW.far (p:=⟨gb,0,none⟩) (Ne.symm gd) (.int .i64 (d:Int)));clear xp FL Hb hW a_0 a_1;go_wp2;go_roundw
      case rel=>exact⟨d+1,by omega,by go_num,FJ.out,CX.out,cV.out⟩
      case measure=>simp[intOf];omega
   ·have e1:(zc ls d != (k:Int))=true:=by simp[Ct]
    have HS:Hid (ardS ns ls k (d+1)=ardS ns ls k d):=h_ (xQ Ct);clear Ct;go_wp2;go_roundw
    case rel=>exact⟨d+1,by omega,by go_num,by rw[HS.out];exact Hi,Hz,h8⟩
    case measure=>simp[intOf];omega
  ·have Cf:d=2*ls.length:=o_
   subst Cf;go_wp2;go_ret
   exact⟨_,rfl,ho.mono o_,Hb⟩
theorem jn {W:World} {v:Value} {t:TypeId} {g:Nat} (hg:g=W.heap.size):∀(j:Nat) (u:Value),[v][j]? =some u->(W.alloc (.cells #[v] t)).cell? ((⟨g,0,none⟩:Addr).add j)=some u:=by
 subst hg;exact cell_one_new _ _ _
def jN (ls:List Pr) (k:Int) (i:Nat):Bool:=(ndI ls i).1==k||(ndI ls i).2==k
theorem z26 {ls:List Pr} {k:Int} {i:Nat} (h:jN ls k i=false):¬(ndI ls i).1=k/\¬(ndI ls i).2=k:=by
 simpa[jN] using h
theorem Z2 {ls:List Pr} {k:Int} {i:Nat} (h:jN ls k i=true) (h2:¬(ndI ls i).1=k):(ndI ls i).2=k:=by
 simpa[jN,h2] using h
def atN (ls:List Pr) (k:Int):Nat->List Nat
 |0=> []
 |i+1=>if jN ls k i then atN ls k i++[i] else atN ls k i
theorem J8 {ls:List Pr} {k:Int} {i:Nat} (h:jN ls k i=true):atN ls k (i+1)=atN ls k i++[i]:=by simp[atN,h]
theorem z0F {ls:List Pr} {k:Int} {i:Nat} (h:jN ls k i=false):atN ls k (i+1)=atN ls k i:=by simp[atN,h]
theorem J4 (ls:List Pr) (k:Int):∀i,(atN ls k i).length <=i
 |0=>by simp[atN]
 |i+1=>by
  have:=J4 ls k i;unfold atN
  split<;>simp<;>omega
theorem qa (vn vl:Value) (ns ls:List Pr) (b:Bool) (w:World) (hn:RP w vn ns) (hl:RP w vl ls) (hb:winB ns ls=b):
  CB_ 87 #[.agg #[vn,vl]] w (.bool b):=by
 subst hb;exact z3l vn vl ns ls w hn hl
theorem zF (vn vl:Value) (ns ls:List Pr) (b:Bool) (w:World) (hn:RP w vn ns) (hl:RP w vl ls) (hb:winB ns ls=b):
  CB_ 118 #[.agg #[vn,vl]] w (.bool b):=by
 subst hb;exact z3F vn vl ns ls w hn hl
noncomputable def hasN (ns ls:List Pr) (k:Int):Bool:=winB ns ls&&inB k 0 ((ns.length:Int) -1)
theorem z0s (vn vl:Value) (ns ls:List Pr) (k:Int) (w:World) (hn:RP w vn ns) (hl:RP w vl ls):
  CB_ 250 #[.agg #[vn,vl],.int .i64 k] w (.bool (hasN ns ls k)):=by
 obtain⟨An,cn,rfl,Fk,GL,_⟩:=hn.formI;unfold maxLen at GL
 cases hw:winB ns ls
 ·have HR:Hid (hasN ns ls k=false):=h_ (by simp[hasN,hw])
  go_enter Tryz.func250,Tryz.ntmps250
  go_wp2_with fail
  refine(qa _ _ ns ls _ _ (hn.below bel_) (hl.below bel_) hw).mono ?_
  rintro e w1 ⟨rfl,h9⟩;go_wp2;go_ret
  exact⟨z8 HR.out.symm,by exact bel_⟩
 ·have HR:Hid (hasN ns ls k=inB k 0 ((ns.length:Int) -1)):=h_ (by simp[hasN,hw])
  go_enter Tryz.func250,Tryz.ntmps250
  go_wp2_with fail
  refine(qa _ _ ns ls _ _ (hn.below bel_) (hl.below bel_) hw).mono ?_
  rintro e w1 ⟨rfl,h9⟩;(have gc:=bcC h9)
  go_wp2_with fail
  refine(yA _ _ _ _).mono ?_
  rintro e w' ⟨rfl,rfl⟩;rw[<-HR.out];go_wp2;go_ret
  exact⟨rfl,by exact bel_⟩
theorem xk (vn vl:Value) (ns ls:List Pr) (k:Int) (b:Bool) (w:World) (hn:RP w vn ns) (hl:RP w vl ls) (hb:hasN ns ls k=b):
  CB_ 250 #[.agg #[vn,vl],.int .i64 k] w (.bool b):=by
 subst hb;exact z0s vn vl ns ls k w hn hl
theorem kC (vn vl:Value) (ns ls:List Pr) (k:Int) (w:World) (hn:RP w vn ns) (hl:RP w vl ls) (hk:hasN ns ls k=true):
  Calls Tryz.prog 218 #[.agg #[vn,vl],.int .i64 k] w (RetI (natI (atN ls k ls.length)) w):=by
 have hW:zC ns ls:=by
  unfold hasN at hk;rw[aaG] at hk
  exact zq.1 hk.1
 have GD:=hW.2.2.1;obtain⟨Al,cl,rfl,Hy,Gz,H9⟩:=hl.formI;obtain⟨i0,hi,iz0,iz1,iz2⟩:=info_parts qu;unfold maxLen at Gz;clear hW
 go_enter Tryz.func218,Tryz.ntmps218
 go_wp2_with fail
 refine(xk _ _ ns ls _ _ _ (hn.below bel_) (hl.below bel_) hk).mono ?_
 rintro e w1 ⟨rfl,h9⟩;have Hz:Blk w1 w.heap.size 27 #[vn,.slice Al ls.length cl]:=Blk.below (Blk.newAt rfl) h9 sz_;have h8:Below w.heap.size w w1:=bel_
 clear h9;obtain⟨a_0,a_1⟩:=Hz.c2;go_wp2
 go_loopw [5,15] (fun v i wr=>∃j:Nat,j<=ls.length/\i= .int .i64 j/\OwnI w.heap.size wr v (natI (atN ls k j))/\Below w.heap.size w wr) (fun _ i _=>ls.length -(intOf i).toNat)
 case atStart=>exact⟨0,aab _,rfl,OwnI.nil _ _,h8⟩
 case round=>
  obtain⟨j,hj,rfl,ho,Hb⟩:=hrel;clear Hz h8 a_0 a_1;have gx:=Hb.size
  by_cases Hf:j<ls.length
  ·obtain⟨b,off,rfl,hb,Gj⟩:=H9 o_
   obtain⟨k0,k1⟩:=Gj j Hf;have q0:=(Hb.cell (p:=⟨b,off+j*2,none⟩) hb).trans k0;have q1:=(Hb.cell (p:=⟨b,off+j*2+1,none⟩) hb).trans k1;have ct:(0:Int)<=(j:Int):=o_
   have Cq:(j:Int)<(ls.length:Int):=o_
   have Hj:=J4 ls k j;have fb:=za (atN ls k j);have HY:=h_ (fun h=>J8 (ls:=ls) (k:=k) (i:=j) h);have HN:=h_ (fun h=>z0F (ls:=ls) (k:=k) (i:=j) h);generalize atN ls k j=G at*;have HL:=h_ fb;clear fb k0 k1 Gj H9;have hG:G.length<=20:=o_
   cases ht:jN ls k j
   ·have HS:=h_ (HN.out ht)
    obtain⟨e3,e4⟩:=z26 ht;have e1:((ndI ls j).1==k)=false:=beq_eq_false_iff_ne.2 e3;have e2:((ndI ls j).2==k)=false:=beq_eq_false_iff_ne.2 e4;clear ht;have HB:Hid (Below w.heap.size w (wr.alloc (.cells #[.int .i64 (ndI ls j).1,.int .i64 (ndI ls j).2] 108))):=h_ bel_;have HO:=h_ (ho.alloc (.cells #[.int .i64 (ndI ls j).1,.int .i64 (ndI ls j).2] 108));clear ho Hb;go_wp2;go_roundw
    case rel=>exact⟨j+1,by omega,by go_num,by rw[HS.out];exact HO.out,HB.out⟩
    case measure=>simp[intOf];omega
   ·have HS:=h_ (HY.out ht)
    have r7:=fun h=>Z2 ht h
    clear ht;generalize (ndI ls j).1=L1 at*;generalize (ndI ls j).2=L2 at*
    by_cases e3:L1=k
    ·subst e3
     clear r7;have HB:Hid (Below w.heap.size w (wr.alloc (.cells #[.int .i64 L1,.int .i64 L2] 108))):=h_ bel_;have Nj:=ho.alloc (.cells #[.int .i64 L1,.int .i64 L2] 108)
     go_wp2_with (at_builtin;refine wpList_append_own _ rfl _ _ 31 rfl w.heap.size 3 i0 (.int .i64 0) 1 8 Tryz.underlying31 hi iz0 iz1 iz2 rfl (by decide) _ _ _ rfl (World.ownsRow.alloc Nj _) ⟨wr.heap.size+1,0,none⟩ 1 1 [.int .i64 _] rfl rfl (jn (by simp)) (by intro u hu;simp at hu;subst hu;rfl) (by rw[HL.out];unfold maxLen;omega) (by rw[HL.out];omega) (by simp;omega) ?_)
     intro v' w1 gY gD _;have r8:Below w.heap.size w w1:=(HB.out.alloc (by simp;omega) _).grown gD (by simp;omega) (fun k hk=>(ho.lt k hk).1)
     have HO:OwnI w.heap.size w1 v' (natI (G++[j])):=by
      unfold natI;rw[aaz];exact OwnI.snoc gY
     clear gY gD ho Nj Hb HB;go_wp2;go_roundw
     case rel=>exact⟨j+1,by omega,by go_num,by rw[HS.out];exact HO,r8⟩
     case measure=>simp[intOf];omega
    ·have e4:=r7 e3
     have e1:(L1==k)=false:=beq_eq_false_iff_ne.2 e3;clear r7;subst e4;have HB:Hid (Below w.heap.size w (wr.alloc (.cells #[.int .i64 L1,.int .i64 L2] 108))):=h_ bel_;have Nj:=ho.alloc (.cells #[.int .i64 L1,.int .i64 L2] 108)
     go_wp2_with (at_builtin;refine wpList_append_own _ rfl _ _ 31 rfl w.heap.size 3 i0 (.int .i64 0) 1 8 Tryz.underlying31 hi iz0 iz1 iz2 rfl (by decide) _ _ _ rfl (World.ownsRow.alloc Nj _) ⟨wr.heap.size+1,0,none⟩ 1 1 [.int .i64 _] rfl rfl (jn (by simp)) (by intro u hu;simp at hu;subst hu;rfl) (by rw[HL.out];unfold maxLen;omega) (by rw[HL.out];omega) (by simp;omega) ?_)
     intro v' w1 gY gD _;have r8:Below w.heap.size w w1:=(HB.out.alloc (by simp;omega) _).grown gD (by simp;omega) (fun k hk=>(ho.lt k hk).1)
     have HO:OwnI w.heap.size w1 v' (natI (G++[j])):=by
      unfold natI;rw[aaz];exact OwnI.snoc gY
     clear gY gD ho Nj Hb HB;go_wp2;go_roundw
     case rel=>exact⟨j+1,by omega,by go_num,by rw[HS.out];exact HO,r8⟩
     case measure=>simp[intOf];omega
  ·have GP:j=ls.length:=o_
   subst GP;clear H9;go_wp2;go_ret
   exact⟨_,rfl,ho,Hb⟩
noncomputable def degI (ns ls:List Pr) (k:Int):Int:=if hasN ns ls k then((atN ls k ls.length).length :Int) else -1
theorem ZJ (vn vl:Value) (ns ls:List Pr) (k:Int) (w:World) (hn:RP w vn ns) (hl:RP w vl ls):
  CB_ 248 #[.agg #[vn,vl],.int .i64 k] w (.int .i64 (degI ns ls k)):=by
 cases hk:hasN ns ls k
 ·have HR:Hid (degI ns ls k= -1):=h_ (by simp[degI,hk])
  go_enter Tryz.func248,Tryz.ntmps248
  go_wp2_with fail
  refine(xk _ _ ns ls _ _ _ (hn.below bel_) (hl.below bel_) hk).mono ?_
  rintro e w1 ⟨rfl,h9⟩;go_wp2;go_ret
  exact⟨zo HR.out.symm,by exact bel_⟩
 ·have HR:Hid (degI ns ls k=((natI (atN ls k ls.length)).length :Int)):=h_ (by simp[degI,hk,za])
  go_enter Tryz.func248,Tryz.ntmps248
  go_wp2_with fail
  refine(xk _ _ ns ls _ _ _ (hn.below bel_) (hl.below bel_) hk).mono ?_
  rintro e w1 ⟨rfl,h9⟩;(have gc:=bcC h9);have Ht:=h9.size;(try simp at Ht)
  have h8:Below w.heap.size w w1:=bel_
  go_wp2_with fail
  refine(kC _ _ ns ls _ _ (hn.below h8) (hl.below h8) hk).mono ?_
  rintro e w2 ⟨v2,rfl,Hk,Hd⟩;obtain⟨A2,c2,rfl⟩:=Hk.form;have Ha:Below w.heap.size w w2:=bel_
  go_wp2;go_ret
  exact⟨zo HR.out.symm,Ha⟩
attribute [local go_sem ↓] zr zt zR zQ
def zG (ns ls:List (Int×Int)) (b:Bool) (w:World) (e:Ending) (w':World):Prop:=∃An cn Al cl,e= .returned (.tuple #[.agg #[.slice An ns.length cn,.slice Al ls.length cl],.bool b])/\
 OwnW w.heap.size w' (.slice An ns.length cn) (.slice Al ls.length cl) ns ls/\Below w.heap.size w w'
theorem Blk.grownR {w w':World} {b:Nat} {t:TypeId} {cs:Array Value} {row:Option Nat} (h:Blk w b t cs) (hg:w.grownBy w' row) (hr:∀k,row=some k->¬k=b):Blk w' b t cs:=
 (hg.block b h.lt (fun e=>hr b e.symm rfl)).trans h
theorem OwnW.far {base:Nat} {w w':World} {vn vl:Value} {ns ls:List (Int×Int)} {row:Option Nat} (h:OwnW base w vn vl ns ls) (hg:w.grownBy w' row) (hr:∀k,row=some k->k<base):OwnW base w' vn vl ns ls:=
 ⟨h.1.far hg hr,h.2.1.far hg hr,h.2.2⟩
theorem OwnW.apart {base:Nat} {w w':World} {vn vl:Value} {ns ls:List (Int×Int)} {row:Option Nat} (h:OwnW base w vn vl ns ls) (hg:w.grownBy w' row) (hr:∀k,zi vn vl k->row=some k->False):OwnW base w' vn vl ns ls:=
 ⟨h.1.apart hg (fun k hk=>hr k (.inl hk)),h.2.1.apart hg (fun k hk=>hr k (.inr hk)),h.2.2⟩
theorem OwnW.setLow {base:Nat} {w:World} {vn vl:Value} {ns ls:List (Int×Int)} (h:OwnW base w vn vl ns ls) {p:Addr} (hp:p.block<base) (u:Value):OwnW base (w.setCell p u) vn vl ns ls:=
 ⟨h.1.setLow hp u,h.2.1.setLow hp u,h.2.2⟩
theorem OwnW.alloc {base:Nat} {w:World} {vn vl:Value} {ns ls:List (Int×Int)} (h:OwnW base w vn vl ns ls) (o:Obj):OwnW base (w.alloc o) vn vl ns ls:=⟨h.1.alloc o,h.2.1.alloc o,h.2.2⟩
theorem OwnW.setFar {base:Nat} {w:World} {vn vl:Value} {ns ls:List (Int×Int)} (h:OwnW base w vn vl ns ls) {p:Addr} (hp:¬zi vn vl p.block) (u:Value):OwnW base (w.setCell p u) vn vl ns ls:=
 h.apart (qS w p u) (fun k hk e=>by cases e;exact hp hk)
theorem zG.mk {ns ls:List (Int×Int)} {b:Bool} {w w':World} {e:Ending} {An Al:Option Addr} {n m cn cl:Nat} (he:e= .returned (.tuple #[.agg #[.slice An n cn,.slice Al m cl],.bool b])) (hn:n=ns.length) (hm:m=ls.length)
  (ho:OwnW w.heap.size w' (.slice An n cn) (.slice Al m cl) ns ls) (hb:Below w.heap.size w w'):zG ns ls b w e w':=by
 subst hn hm;exact⟨_,_,_,_,he,ho,hb⟩
noncomputable def addB (ns ls:List Pr) (a b:Int):Bool:=winB ns ls&&winB ns (ls++[(mn2 a b,mx2 a b)])
noncomputable def addL (ns ls:List Pr) (a b:Int):List Pr:=if addB ns ls a b then ls++[(mn2 a b,mx2 a b)] else ls
theorem z8j (vn vl:Value) (ns ls:List Pr) (a b:Int) (w:World) (hn:RP w vn ns) (hl:RP w vl ls) (h1:ns.length<=1048576) (h2:ls.length<=1048576) (hw:winB ns ls=false):
  Calls Tryz.prog 161 #[.agg #[vn,vl],.int .i64 a,.int .i64 b] w (zG ns ls false w):=by
 go_enter Tryz.func161,Tryz.ntmps161
 go_wp2_with fail
 refine(qn _ _ ns ls _ (hn.below bel_) (hl.below bel_) h1 h2).mono ?_
 rintro e w1 ⟨An1,cn1,Al1,cl1,rfl,Hi,h9⟩;have Ht:=h9.size;simp at Ht
 have H7:OwnW (w.heap.size+1+1) w1 (.slice An1 ns.length cn1) (.slice Al1 ls.length cl1) ns ls:=by simpa using Hi
 have GM:Blk w1 w.heap.size 27 #[vn,vl]:=Blk.below ((Blk.newAt rfl).alloc _) h9 sz_;have Hx:Blk w1 (w.heap.size+1) 27 #[.slice none 0 0,.slice none 0 0]:=Blk.below (Blk.newAt (by simp)) h9 sz_;have h8:Below w.heap.size w w1:=bel_
 have n1:w.heap.size<w1.heap.size:=o_
 have n2:w.heap.size+1<w1.heap.size:=o_
 obtain⟨a_0,a_1⟩:=GM.c2;have hbs:Below w1.heap.size w1 (w1.alloc (.cells #[.slice An1 ns.length cn1,.slice Al1 ls.length cl1] 27)):=bel_
 have Gl:Below w.heap.size w (w1.alloc (.cells #[.slice An1 ns.length cn1,.slice Al1 ls.length cl1] 27)):=bel_
 go_wp2_with fail
 refine(qa _ _ ns ls _ _ (hn.below Gl) (hl.below Gl) hw).mono ?_
 rintro e w2 ⟨rfl,Hd⟩;have gu:Below w1.heap.size w1 w2:=hbs.trans (Hd.mono hbs.size);have fk:Blk w2 w1.heap.size 27 #[.slice An1 ns.length cn1,.slice Al1 ls.length cl1]:=Blk.below (Blk.newAt rfl) Hd sz_;have gg:=Hx.below gu n2;have Hk:=H7.kept gu;have Ha:Below w.heap.size w w2:=h8.trans (gu.mono h8.size);obtain⟨s_0,s_1,s_f0,s_f1⟩:=fk.b2;obtain⟨r_0,r_1,r_f0,r_f1⟩:=gg.b2;have hO:=h_ (((Hk.setLow (p:=⟨w.heap.size+1,0,none⟩) sz_ (.slice An1 ns.length cn1)).setLow (p:=⟨w.heap.size+1,1,none⟩) sz_ (.slice Al1 ls.length cl1)).mono (show w.heap.size<=_ by omega));have HB:=h_ ((Ha.setCell (p:=⟨w.heap.size+1,0,none⟩) sz_ (.slice An1 ns.length cn1)).setCell (p:=⟨w.heap.size+1,1,none⟩) sz_ (.slice Al1 ls.length cl1));generalize w1.heap.size=B1 at*;go_wp2;exact bodyPost_ret (v:= .tuple #[.agg #[.slice An1 ns.length cn1,.slice Al1 ls.length cl1],.bool false]) (by simp[results,Tryz.results161,go_sem,r_0,r_1,s_0,s_1]) rfl ⟨_,_,_,_,rfl,hO.out,HB.out⟩
theorem yL {A:Option Addr} {n c:Nat} {v:Value} {h:Nat} (e:(Value.slice A n c).ownBlock =v.ownBlock∨(Value.slice A n c).ownBlock =some h) {k:Nat} (hk:(Value.slice A n c).ownBlock =some k):v.ownBlock=some k∨k=h:=by
 rcases e with e|e
 ·exact .inl (e.symm.trans hk)
 ·exact .inr (by have:=e.symm.trans hk;cases this;rfl)
theorem zbp (vn vl:Value) (ns ls:List Pr) (a b:Int) (w:World) (hn:RP w vn ns) (hl:RP w vl ls) (h1:ns.length<=1048576) (h2:ls.length<=1048576) (hw:winB ns ls=true) (hE:winB ns (ls++[(mn2 a b,mx2 a b)])=true):
  Calls Tryz.prog 161 #[.agg #[vn,vl],.int .i64 a,.int .i64 b] w (zG ns (ls++[(mn2 a b,mx2 a b)]) true w):=by
 obtain⟨j0,hj,jz0,jz1,jz2⟩:=info_parts jb
 go_enter Tryz.func161,Tryz.ntmps161
 go_wp2_with fail
 refine(qn _ _ ns ls _ (hn.below bel_) (hl.below bel_) h1 h2).mono ?_
 rintro e w1 ⟨An1,cn1,Al1,cl1,rfl,Hi,h9⟩;have Ht:=h9.size;simp at Ht
 have H7:OwnW (w.heap.size+1+1) w1 (.slice An1 ns.length cn1) (.slice Al1 ls.length cl1) ns ls:=by simpa using Hi
 have Hp:=H7.lt;have GM:Blk w1 w.heap.size 27 #[vn,vl]:=Blk.below ((Blk.newAt rfl).alloc _) h9 sz_;have Hx:Blk w1 (w.heap.size+1) 27 #[.slice none 0 0,.slice none 0 0]:=Blk.below (Blk.newAt (by simp)) h9 sz_;have h8:Below w.heap.size w w1:=bel_
 have n1:w.heap.size<w1.heap.size:=o_
 have n2:w.heap.size+1<w1.heap.size:=o_
 obtain⟨a_0,a_1⟩:=GM.c2;have hbs:Below w1.heap.size w1 (w1.alloc (.cells #[.slice An1 ns.length cn1,.slice Al1 ls.length cl1] 27)):=bel_
 have Gl:Below w.heap.size w (w1.alloc (.cells #[.slice An1 ns.length cn1,.slice Al1 ls.length cl1] 27)):=bel_
 go_wp2_with fail
 refine(qa _ _ ns ls _ _ (hn.below Gl) (hl.below Gl) hw).mono ?_
 rintro e w2 ⟨rfl,Hd⟩;have Gh:=Hd.size;(try simp at Gh);(try have gI:=p0_ w w2);(try have gJ:=p1_ w w2);(try have GS:=p2_ w w2)
 have gu:Below w1.heap.size w1 w2:=hbs.trans (Hd.mono hbs.size);have fk:Blk w2 w1.heap.size 27 #[.slice An1 ns.length cn1,.slice Al1 ls.length cl1]:=Blk.below (Blk.newAt rfl) Hd sz_;have Ft:=GM.below gu n1;have gg:=Hx.below gu n2;have Hk:=H7.kept gu;have Ha:Below w.heap.size w w2:=h8.trans (gu.mono h8.size);have n3:w1.heap.size<w2.heap.size:=fk.lt;obtain⟨a_0,a_1⟩:=Ft.c2
 go_wp2_with fail
 refine(qn _ _ ns ls _ (hn.below Ha) (hl.below Ha) h1 h2).mono ?_
 rintro e w3 ⟨An3,cn3,Al3,cl3,rfl,Hm,He⟩;have G5:=He.size;have go:=Hm.lt;have gZ:=gg.below He gg.lt;have FC:=fk.below He n3;have r9:=Hk.kept He;have Hc:Below w.heap.size w w3:=Ha.trans (He.mono Ha.size)
 go_wp2_with (at_builtin;refine zj rfl _ _ _ rfl w2.heap.size 108 j0 Tryz.underlying25 hj jz0 jz1 jz2 (.slice Al3 ls.length cl3) _ ls [(mn2 a b,mx2 a b)] rfl rfl ((Hm.2.1.alloc _).alloc _) (j6 (by simp) rfl rfl rfl (by simp[maxLen])) (by simp;omega) (by simp;omega) ?_)
 intro A4 c4 w4 gH Gc Cg;have Hq:∀k,(Value.slice Al3 ls.length cl3).ownBlock =some k->w2.heap.size<=k/\k<w3.heap.size:=fun k hk=>go k (.inr hk)
 have fF:=((gZ.alloc (.cells #[.slice An3 ns.length cn3,.slice Al3 ls.length cl3] 27)).alloc _).grownR Gc (fun k hk=>by have:=(Hq k hk).1;omega);have Bp:=((FC.alloc (.cells #[.slice An3 ns.length cn3,.slice Al3 ls.length cl3] 27)).alloc _).grownR Gc (fun k hk=>by have:=(Hq k hk).1;omega);have bB:Blk w4 w3.heap.size 27 #[.slice An3 ns.length cn3,.slice Al3 ls.length cl3]:=((Blk.newAt rfl).alloc _).grownR Gc (fun k hk=>by have:=(Hq k hk).2;omega);have Ra:=((r9.alloc (.cells #[.slice An3 ns.length cn3,.slice Al3 ls.length cl3] 27)).alloc _).apart Gc (fun k hk gG=>by have:=(Hq k gG).1;have:=(Hp k hk).2;omega);have FM:=((Hm.1.alloc (.cells #[.slice An3 ns.length cn3,.slice Al3 ls.length cl3] 27)).alloc _).apart Gc (fun k hk gG=>Hm.2.2 k hk gG)
 have fO:∀k,(Value.slice A4 (ls.length+1) c4).ownBlock =some k->(w2.heap.size<=k/\k<w3.heap.size)∨k=w3.heap.size+1+1:=by
  intro k hk
  rcases yL Cg hk with h|h
  ·exact .inl (Hq k h)
  ·exact .inr (by simpa using h)
 have cC:∀k,(Value.slice An3 ns.length cn3).ownBlock =some k->(Value.slice A4 (ls.length+1) c4).ownBlock =some k->False:=by
  intro k hk gG
  rcases yL Cg gG with h|h
  ·exact Hm.2.2 k hk h
  ·have h':k=w3.heap.size+1+1:=by simpa using h
   have:=(go k (.inl hk)).2;omega
 have fP:OwnW w2.heap.size w4 (.slice An3 ns.length cn3) (.slice A4 (ls.length+1) c4) ns (ls++[(mn2 a b,mx2 a b)]):=⟨FM,gH,cC⟩;have Hn:Below w.heap.size w w4:=((Hc.alloc o_ _).alloc sz_ _).grown Gc sz_ (fun k hk=>by have:=(Hq k hk).1;omega)
 have Fm:=fP.setFar (p:=⟨w3.heap.size,1,none⟩) (by
  rintro(h|h)
  ·have:=(go _ (.inl h)).2
   exact absurd this (aaV _)
  ·rcases fO _ h with h'|h'
   ·exact absurd h'.2 (aaV _)
   ·have h'':w3.heap.size=w3.heap.size+1+1:=h'
    omega) (.slice A4 (ls.length+1) c4)
 have U1:=Ra.setFar (p:=⟨w3.heap.size,1,none⟩) (by
  intro h;have:=(Hp _ h).2;have h':w3.heap.size<w1.heap.size:=this;omega) (.slice A4 (ls.length+1) c4)
 have Fe:Blk (w4.setCell ⟨w3.heap.size,1,none⟩ (.slice A4 (ls.length+1) c4)) w3.heap.size 27 #[.slice An3 ns.length cn3,.slice A4 (ls.length+1) c4]:=bB.set_ 1 _;have fL:=fF.far (p:=⟨w3.heap.size,1,none⟩) (show ¬w.heap.size+1=w3.heap.size by omega) (.slice A4 (ls.length+1) c4);have mF:=Bp.far (p:=⟨w3.heap.size,1,none⟩) (show ¬w1.heap.size=w3.heap.size by omega) (.slice A4 (ls.length+1) c4);have Hv:Below w.heap.size w (w4.setCell ⟨w3.heap.size,1,none⟩ (.slice A4 (ls.length+1) c4)):=Hn.setCell (p:=⟨w3.heap.size,1,none⟩) (show w.heap.size<=w3.heap.size by omega) _;obtain⟨t_0,t_1,t_f0,t_f1⟩:=bB.b2;have fb:=Fe.cell 0;have CF:=Fe.cell 1;simp only[abd,aah,aag] at fb CF
 have Fl:(w4.setCell ⟨w3.heap.size,1,none⟩ (.slice A4 (ls.length+1) c4)).heap.size =w4.heap.size:=by simp[World.setCell]
 have Hj:(ls++[(mn2 a b,mx2 a b)]).length =ls.length+1:=by simp
 generalize hL:ls++[(mn2 a b,mx2 a b)]=LL at*
 go_wp2_with fail
 refine(qa _ _ ns LL _ _ Fm.1.reads Fm.2.1.reads hE).mono ?_
 rintro e w6 ⟨rfl,gz⟩;have Ma:=gz.size;have fW:=fL.below gz fL.lt;have ro:=mF.below gz mF.lt;have CG:=Fe.below gz Fe.lt;have bD:=Fm.kept gz;have gQ:Below w.heap.size w w6:=Hv.trans (gz.mono Hv.size);obtain⟨r_0,r_1,r_f0,r_f1⟩:=fW.b2;obtain⟨s_0,s_1,s_f0,s_f1⟩:=ro.b2;obtain⟨t_0,t_1,t_f0,t_f1⟩:=CG.b2;rw[Fl] at Ma;have hO:=h_ (((bD.setLow (p:=⟨w.heap.size+1,0,none⟩) (show w.heap.size+1<w2.heap.size by omega) (.slice An3 ns.length cn3)).setLow (p:=⟨w.heap.size+1,1,none⟩) (show w.heap.size+1<w2.heap.size by omega) (.slice A4 (ls.length+1) c4)).mono (show w.heap.size<=_ by omega));have HB:=h_ ((gQ.setCell (p:=⟨w.heap.size+1,0,none⟩) sz_ (.slice An3 ns.length cn3)).setCell (p:=⟨w.heap.size+1,1,none⟩) sz_ (.slice A4 (ls.length+1) c4));generalize w1.heap.size=B1 at*;generalize w3.heap.size=B3 at*;go_wp2;exact bodyPost_ret (v:= .tuple #[.agg #[.slice An3 ns.length cn3,.slice A4 (ls.length+1) c4],.bool true]) (by simp[results,Tryz.results161,go_sem,r_0,r_1,t_0,t_1]) rfl (zG.mk rfl rfl Hj.symm hO.out HB.out)
theorem Jm (vn vl:Value) (ns ls:List Pr) (a b:Int) (w:World) (hn:RP w vn ns) (hl:RP w vl ls) (h1:ns.length<=1048576) (h2:ls.length<=1048576) (hw:winB ns ls=true) (hE:winB ns (ls++[(mn2 a b,mx2 a b)])=false):
  Calls Tryz.prog 161 #[.agg #[vn,vl],.int .i64 a,.int .i64 b] w (zG ns ls false w):=by
 obtain⟨j0,hj,jz0,jz1,jz2⟩:=info_parts jb
 go_enter Tryz.func161,Tryz.ntmps161
 go_wp2_with fail
 refine(qn _ _ ns ls _ (hn.below bel_) (hl.below bel_) h1 h2).mono ?_
 rintro e w1 ⟨An1,cn1,Al1,cl1,rfl,Hi,h9⟩;have Ht:=h9.size;simp at Ht
 have H7:OwnW (w.heap.size+1+1) w1 (.slice An1 ns.length cn1) (.slice Al1 ls.length cl1) ns ls:=by simpa using Hi
 have Hp:=H7.lt;have GM:Blk w1 w.heap.size 27 #[vn,vl]:=Blk.below ((Blk.newAt rfl).alloc _) h9 sz_;have Hx:Blk w1 (w.heap.size+1) 27 #[.slice none 0 0,.slice none 0 0]:=Blk.below (Blk.newAt (by simp)) h9 sz_;have h8:Below w.heap.size w w1:=bel_
 have n1:w.heap.size<w1.heap.size:=o_
 have n2:w.heap.size+1<w1.heap.size:=o_
 obtain⟨a_0,a_1⟩:=GM.c2;have hbs:Below w1.heap.size w1 (w1.alloc (.cells #[.slice An1 ns.length cn1,.slice Al1 ls.length cl1] 27)):=bel_
 have Gl:Below w.heap.size w (w1.alloc (.cells #[.slice An1 ns.length cn1,.slice Al1 ls.length cl1] 27)):=bel_
 go_wp2_with fail
 refine(qa _ _ ns ls _ _ (hn.below Gl) (hl.below Gl) hw).mono ?_
 rintro e w2 ⟨rfl,Hd⟩;have Gh:=Hd.size;(try simp at Gh);(try have gI:=p0_ w w2);(try have gJ:=p1_ w w2);(try have GS:=p2_ w w2)
 have gu:Below w1.heap.size w1 w2:=hbs.trans (Hd.mono hbs.size);have fk:Blk w2 w1.heap.size 27 #[.slice An1 ns.length cn1,.slice Al1 ls.length cl1]:=Blk.below (Blk.newAt rfl) Hd sz_;have Ft:=GM.below gu n1;have gg:=Hx.below gu n2;have Hk:=H7.kept gu;have Ha:Below w.heap.size w w2:=h8.trans (gu.mono h8.size);have n3:w1.heap.size<w2.heap.size:=fk.lt;obtain⟨a_0,a_1⟩:=Ft.c2
 go_wp2_with fail
 refine(qn _ _ ns ls _ (hn.below Ha) (hl.below Ha) h1 h2).mono ?_
 rintro e w3 ⟨An3,cn3,Al3,cl3,rfl,Hm,He⟩;have G5:=He.size;have go:=Hm.lt;have gZ:=gg.below He gg.lt;have FC:=fk.below He n3;have r9:=Hk.kept He;have Hc:Below w.heap.size w w3:=Ha.trans (He.mono Ha.size)
 go_wp2_with (at_builtin;refine zj rfl _ _ _ rfl w2.heap.size 108 j0 Tryz.underlying25 hj jz0 jz1 jz2 (.slice Al3 ls.length cl3) _ ls [(mn2 a b,mx2 a b)] rfl rfl ((Hm.2.1.alloc _).alloc _) (j6 (by simp) rfl rfl rfl (by simp[maxLen])) (by simp;omega) (by simp;omega) ?_)
 intro A4 c4 w4 gH Gc Cg;have Hq:∀k,(Value.slice Al3 ls.length cl3).ownBlock =some k->w2.heap.size<=k/\k<w3.heap.size:=fun k hk=>go k (.inr hk)
 have fF:=((gZ.alloc (.cells #[.slice An3 ns.length cn3,.slice Al3 ls.length cl3] 27)).alloc _).grownR Gc (fun k hk=>by have:=(Hq k hk).1;omega);have Bp:=((FC.alloc (.cells #[.slice An3 ns.length cn3,.slice Al3 ls.length cl3] 27)).alloc _).grownR Gc (fun k hk=>by have:=(Hq k hk).1;omega);have bB:Blk w4 w3.heap.size 27 #[.slice An3 ns.length cn3,.slice Al3 ls.length cl3]:=((Blk.newAt rfl).alloc _).grownR Gc (fun k hk=>by have:=(Hq k hk).2;omega);have Ra:=((r9.alloc (.cells #[.slice An3 ns.length cn3,.slice Al3 ls.length cl3] 27)).alloc _).apart Gc (fun k hk gG=>by have:=(Hq k gG).1;have:=(Hp k hk).2;omega);have FM:=((Hm.1.alloc (.cells #[.slice An3 ns.length cn3,.slice Al3 ls.length cl3] 27)).alloc _).apart Gc (fun k hk gG=>Hm.2.2 k hk gG)
 have fO:∀k,(Value.slice A4 (ls.length+1) c4).ownBlock =some k->(w2.heap.size<=k/\k<w3.heap.size)∨k=w3.heap.size+1+1:=by
  intro k hk
  rcases yL Cg hk with h|h
  ·exact .inl (Hq k h)
  ·exact .inr (by simpa using h)
 have cC:∀k,(Value.slice An3 ns.length cn3).ownBlock =some k->(Value.slice A4 (ls.length+1) c4).ownBlock =some k->False:=by
  intro k hk gG
  rcases yL Cg gG with h|h
  ·exact Hm.2.2 k hk h
  ·have h':k=w3.heap.size+1+1:=by simpa using h
   have:=(go k (.inl hk)).2;omega
 have fP:OwnW w2.heap.size w4 (.slice An3 ns.length cn3) (.slice A4 (ls.length+1) c4) ns (ls++[(mn2 a b,mx2 a b)]):=⟨FM,gH,cC⟩;have Hn:Below w.heap.size w w4:=((Hc.alloc o_ _).alloc sz_ _).grown Gc sz_ (fun k hk=>by have:=(Hq k hk).1;omega)
 have Fm:=fP.setFar (p:=⟨w3.heap.size,1,none⟩) (by
  rintro(h|h)
  ·have:=(go _ (.inl h)).2
   exact absurd this (aaV _)
  ·rcases fO _ h with h'|h'
   ·exact absurd h'.2 (aaV _)
   ·have h'':w3.heap.size=w3.heap.size+1+1:=h'
    omega) (.slice A4 (ls.length+1) c4)
 have U1:=Ra.setFar (p:=⟨w3.heap.size,1,none⟩) (by
  intro h;have:=(Hp _ h).2;have h':w3.heap.size<w1.heap.size:=this;omega) (.slice A4 (ls.length+1) c4)
 have Fe:Blk (w4.setCell ⟨w3.heap.size,1,none⟩ (.slice A4 (ls.length+1) c4)) w3.heap.size 27 #[.slice An3 ns.length cn3,.slice A4 (ls.length+1) c4]:=bB.set_ 1 _;have fL:=fF.far (p:=⟨w3.heap.size,1,none⟩) (show ¬w.heap.size+1=w3.heap.size by omega) (.slice A4 (ls.length+1) c4);have mF:=Bp.far (p:=⟨w3.heap.size,1,none⟩) (show ¬w1.heap.size=w3.heap.size by omega) (.slice A4 (ls.length+1) c4);have Hv:Below w.heap.size w (w4.setCell ⟨w3.heap.size,1,none⟩ (.slice A4 (ls.length+1) c4)):=Hn.setCell (p:=⟨w3.heap.size,1,none⟩) (show w.heap.size<=w3.heap.size by omega) _;obtain⟨t_0,t_1,t_f0,t_f1⟩:=bB.b2;have fb:=Fe.cell 0;have CF:=Fe.cell 1;simp only[abd,aah,aag] at fb CF
 have Fl:(w4.setCell ⟨w3.heap.size,1,none⟩ (.slice A4 (ls.length+1) c4)).heap.size =w4.heap.size:=by simp[World.setCell]
 generalize hL:ls++[(mn2 a b,mx2 a b)]=LL at*
 go_wp2_with fail
 refine(qa _ _ ns LL _ _ Fm.1.reads Fm.2.1.reads hE).mono ?_
 rintro e w6 ⟨rfl,gz⟩;have Ma:=gz.size;have fW:=fL.below gz fL.lt;have ro:=mF.below gz mF.lt;have CG:=Fe.below gz Fe.lt;have ho26:=U1.kept gz;have gQ:Below w.heap.size w w6:=Hv.trans (gz.mono Hv.size);obtain⟨r_0,r_1,r_f0,r_f1⟩:=fW.b2;obtain⟨s_0,s_1,s_f0,s_f1⟩:=ro.b2;obtain⟨t_0,t_1,t_f0,t_f1⟩:=CG.b2;rw[Fl] at Ma;have hO:=h_ (((ho26.setLow (p:=⟨w.heap.size+1,0,none⟩) (show w.heap.size+1<w.heap.size+1+1 by omega) (.slice An1 ns.length cn1)).setLow (p:=⟨w.heap.size+1,1,none⟩) (show w.heap.size+1<w.heap.size+1+1 by omega) (.slice Al1 ls.length cl1)).mono (show w.heap.size<=_ by omega));have HB:=h_ ((gQ.setCell (p:=⟨w.heap.size+1,0,none⟩) sz_ (.slice An1 ns.length cn1)).setCell (p:=⟨w.heap.size+1,1,none⟩) sz_ (.slice Al1 ls.length cl1));generalize w1.heap.size=B1 at*;generalize w3.heap.size=B3 at*;go_wp2;exact bodyPost_ret (v:= .tuple #[.agg #[.slice An1 ns.length cn1,.slice Al1 ls.length cl1],.bool false]) (by simp[results,Tryz.results161,go_sem,r_0,r_1,s_0,s_1]) rfl (zG.mk rfl rfl rfl hO.out HB.out)
end Go.Proofs.YtnjcpljhmhdhkaaGreat
