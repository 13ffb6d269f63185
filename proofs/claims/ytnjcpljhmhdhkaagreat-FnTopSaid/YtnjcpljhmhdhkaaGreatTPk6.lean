/- part 6 -/
import Derived.Test.YtnjcpljhmhdhkaaGreatTPk4
import Derived.Test.YtnjcpljhmhdhkaaGreatTPk5
import Derived.StillTailTactics
set_option linter.unusedSimpArgs false
set_option linter.unusedVariables false
set_option maxRecDepth 100000
set_option maxHeartbeats 8000000
namespace Go.Proofs.YtnjcpljhmhdhkaaGreat
open Go.RowKit
attribute [local go_sem ↓] zr zq zU zT
theorem zn (n lo hi:Int) (b:Bool) (w:World) (h:inB n lo hi=b):
  Calls Tryz.prog 78 #[.int .i64 n,.int .i64 lo,.int .i64 hi] w fun e w'=>e= .returned (.bool b)/\w=w':=by
 subst h;exact yK n lo hi w
theorem zP (n lo hi:Int) (b:Bool) (w:World) (h:inB n lo hi=b):
  Calls Tryz.prog 138 #[.int .i64 n,.int .i64 lo,.int .i64 hi] w fun e w'=>e= .returned (.bool b)/\w=w':=by
 subst h;exact qf n lo hi w
theorem JR (v:Value) (l:List Pr) (b:Bool) (w:World) (h:RP w v l) (hb:q9 l=b):
  CB_ 154 #[v] w (.bool b):=by
 subst hb;exact xx v l w h
theorem VR (v:Value) (ns:List Pr) (l:Pr) (b:Bool) (w:World) (h:RP w v ns) (Gn:q9 ns=true) (hb:zt ns l=b):
  CB_ 156 #[v,.agg #[.int .i64 l.1,.int .i64 l.2]] w (.bool b):=by
 subst hb;exact js v ns l.1 l.2 w h Gn
theorem z5c (v:Value) (ns:List Pr) (l m:Pr) (b:Bool) (w:World) (h:RP w v ns) (Gn:q9 ns=true) (hb:qO ns l m=b):
  CB_ 157 #[v,.agg #[.int .i64 l.1,.int .i64 l.2],.agg #[.int .i64 m.1,.int .i64 m.2]] w (.bool b):=by
 subst hb;exact z4i v ns l.1 l.2 m.1 m.2 w h Gn
theorem z3K (v:Value) (ns:List Pr) (l n:Pr) (b:Bool) (w:World) (h:RP w v ns) (Gn:q9 ns=true) (hb:onB ns l n=b):
  CB_ 158 #[v,.agg #[.int .i64 l.1,.int .i64 l.2],.agg #[.int .i64 n.1,.int .i64 n.2]] w (.bool b):=by
 subst hb;exact z2U v ns l.1 l.2 n.1 n.2 w h Gn
theorem z4x {ns:List Pr} {k:Nat} (hk:k<ns.length):((ndI ns k).1,(ndI ns k).2)∈ns.take k↔∃a:Nat,a<k/\qz (ndI ns a) (ndI ns k)=true:=by
 rw[List.mem_iff_getElem]
 constructor
 ·rintro⟨i,hi,h⟩
  rw[abm] at hi;refine⟨i,by omega,?_⟩
  rw[yt,qd ns i o_];rw[abp] at h;exact h
 ·rintro⟨a,ha,h⟩
  refine⟨a,by rw[abm];omega,?_⟩
  rw[abp,<-qd ns a o_];exact yt.1 h
theorem Ji {ns ls:List Pr} (h:¬((1<=ns.length/\ns.length<=12)/\ls.length<=20)):winB ns ls=false:=
 jO.2 fun hw=>h ⟨⟨hw.1,hw.2.1⟩,hw.2.2.1⟩
theorem z1v {ns ls:List Pr} (h:q9 ns=false):winB ns ls=false:=
 jO.2 fun hw=>by rw[hw.2.2.2.1] at h;cases h
theorem z4g {ns ls:List Pr} {k:Nat} (hk:k<ns.length) (h:((ndI ns k).1,(ndI ns k).2)∈ns.take k):winB ns ls=false:=
 jO.2 fun hw=>by
  obtain⟨a,ha,h⟩:=(z4x hk).1 h;rw[hw.2.2.2.2.1 a k ha hk] at h;cases h
theorem Jh {ns ls:List Pr} {k:Nat} (hk:k<ls.length) (h:zt ns (ndI ls k)=false):winB ns ls=false:=
 jO.2 fun hw=>by rw[(hw.2.2.2.2.2 k hk).1] at h;cases h
theorem Zm {ns ls:List Pr} {k i:Nat} (hk:k<ls.length) (hi:i<k) (h:qO ns (ndI ls k) (ndI ls i)=true):winB ns ls=false:=
 jO.2 fun hw=>by rw[(hw.2.2.2.2.2 k hk).2.1 i hi] at h;cases h
theorem XY {ns ls:List Pr} {k i:Nat} (hk:k<ls.length) (hi:i<ns.length) (h1:(i:Int)≠(ndI ls k).1) (h2:(i:Int)≠(ndI ls k).2) (h:onB ns (ndI ls k) (ndI ns i)=true):winB ns ls=false:=
 jO.2 fun hw=>by rw[(hw.2.2.2.2.2 k hk).2.2 i hi h1 h2] at h;cases h
theorem z4t {ns ls:List Pr} (h1:(1<=ns.length/\ns.length<=12)/\ls.length<=20) (h2:q9 ns=true) (h3:Dis ns ns.length) (h4:∀k:Nat,k<ls.length->LdOk ns ls k):winB ns ls=true:=
 zu.2 ⟨h1.1.1,h1.1.2,h1.2,h2,h3,h4⟩
theorem z4J (ns ls:List Pr):∀k:Nat,k<0->LdOk ns ls k:=fun k hk=>absurd hk o_
theorem z4N {ns ls:List Pr} {m:Nat} (h:∀k:Nat,k<m->LdOk ns ls k) (hm:LdOk ns ls m):∀k:Nat,k<m+1->LdOk ns ls k:=by
 intro k hk
 rcases Nat.lt_succ_iff_lt_or_eq.1 hk with h1|h1
 ·exact h k h1
 ·subst h1;exact hm
theorem z4a (vn vl:Value) (ns ls:List Pr) (w:World) (hn:RP w vn ns) (hl:RP w vl ls):
  CB_ 87 #[.agg #[vn,vl]] w (.bool (winB ns ls)):=by
 obtain⟨An,cn,rfl,FQ,GW,Hp⟩:=hn.formI;obtain⟨Al,cl,rfl,Hz,GM,gg⟩:=hl.formI;unfold maxLen at GW GM
 by_cases hE:(1<=ns.length/\ns.length<=12)/\ls.length<=20
 case neg=>
  have HR:=h_ (Ji hE);have HE:=h_ hE;obtain⟨b,hb⟩:∃b,q9 ns=b:=⟨_,rfl⟩;clear hE Hp gg
  by_cases h1:1<=ns.length/\ns.length<=12
  ·have i1:inB (ns.length:Int) 1 12=true:=zc.2 o_
   have i2:(20:Int)<(ls.length:Int):=by
    have:¬ls.length<=20:=fun h=>HE.out ⟨h1,h⟩
    omega
   clear h1
   go_enter Tryz.func87,Tryz.ntmps87
   go_wp2_with (go_at_call 78;refine(zn _ _ _ _ _ i1).mono ?_;rintro e w' ⟨rfl,rfl⟩)
   go_ret
   exact⟨z8 HR.out.symm,by exact bel_⟩
  ·have i1:inB (ns.length:Int) 1 12=false:=z0L.2 o_
   clear h1
   go_enter Tryz.func87,Tryz.ntmps87
   go_wp2_with (go_at_call 78;refine(zn _ _ _ _ _ i1).mono ?_;rintro e w' ⟨rfl,rfl⟩)
   go_ret
   exact⟨z8 HR.out.symm,by exact bel_⟩
 have i1:inB (ns.length:Int) 1 12=true:=zc.2 o_;have i2:¬(20:Int)<(ls.length:Int):=o_
 cases Gn:q9 ns
 ·have HR:=h_ (z1v (ls:=ls) Gn)
  clear Hp gg
  go_enter Tryz.func87,Tryz.ntmps87
  go_wp2_with (go_at_call 78;refine(zn _ _ _ _ _ i1).mono ?_;rintro e w' ⟨rfl,rfl⟩)
  refine(JR _ ns _ _ (hn.below bel_) Gn).mono ?_
  rintro e w1 ⟨rfl,Hb⟩;go_wp2;go_ret
  exact⟨z8 HR.out.symm,by exact bel_⟩
 have HE:=h_ hE;clear hE
 go_enter Tryz.func87,Tryz.ntmps87
 go_wp2_with (go_at_call 78;refine(zn _ _ _ _ _ i1).mono ?_;rintro e w' ⟨rfl,rfl⟩)
 refine(JR _ ns _ _ (hn.below bel_) Gn).mono ?_
 rintro e w1 ⟨rfl,Hb⟩;have gc:Blk w1 w.heap.size 27 #[.slice An ns.length cn,.slice Al ls.length cl]:=Blk.below (Blk.newAt rfl) Hb sz_;have Ha:Below w.heap.size w w1:=bel_
 clear Hb i1;obtain⟨a_0,a_1⟩:=gc.c2;go_wp2
 go_loopw [31] (fun i wr=>∃k:Nat,k<=ns.length/\i= .int .i64 k/\Hid (Dis ns k)/\Blk wr w.heap.size 27 #[.slice An ns.length cn,.slice Al ls.length cl]/\Below w.heap.size w wr) (fun i _=>ns.length -(intOf i).toNat)
 case atStart=>exact⟨0,aab _,rfl,h_ (Dis.zero ns),gc,Ha⟩
 case round=>
  obtain⟨k,hk,rfl,HD,hW,Hd⟩:=hrel;clear gc Ha a_0 a_1;have gI:=hW.lt
  by_cases Hf:k<ns.length
  ·obtain⟨b,off,rfl,hb,Gj⟩:=Hp o_
   obtain⟨k0,k1⟩:=Gj k Hf;have q0:=(Hd.cell (p:=⟨b,off+k*2,none⟩) hb).trans k0;have q1:=(Hd.cell (p:=⟨b,off+k*2+1,none⟩) hb).trans k1;have hT:=RP.take hn k hk;have Cz:(0:Int)<=(k:Int):=o_
   have CS:(k:Int)<(ns.length:Int):=o_
   have NO:k<=cn:=o_
   have hi4:(k:Int)<=(cn:Int):=o_
   obtain⟨a_0,a_1⟩:=hW.c2;clear k0 k1 Gj Hp
   by_cases F3:((ndI ns k).1,(ndI ns k).2)∈ns.take k
   ·have HR:=h_ (z4g (ls:=ls) Hf F3)
    have hd:=aaQ F3;go_wp2
    (refine z7 k_ k_ (fun hG=>?_))
    repeat (go_big_quiet_step ((go_at_call 155;exact zE (QV _ _ _ _ _ _ (RS.grw _ (RP.below hT bel_)) hd))))
    (refine wpQuiet_nil ?_);(clear hG);(rintro w2 ⟨⟨_,Hh⟩,rfl⟩);(try dsimp only)
    go_wp2;go_ret
    exact⟨z8 HR.out.symm,by exact bel_⟩
   ·have HX:Hid (Dis ns (k+1)):=h_ (HD.out.succ fun a ha=>by
     cases h:qz (ndI ns a) (ndI ns k)
     ·rfl
     ·exact absurd ((z4x Hf).2 ⟨a,ha,h⟩) F3)
    have hd:=aaO F3;go_wp2
    (refine z7 k_ k_ (fun hG=>?_))
    repeat (go_big_quiet_step ((go_at_call 155;exact zE (QV _ _ _ _ _ _ (RS.grw _ (RP.below hT bel_)) hd))))
    (refine wpQuiet_nil ?_);(clear hG);(rintro w2 ⟨⟨_,Hh⟩,rfl⟩);(try dsimp only)
    have gX:Blk w2 w.heap.size 27 #[.slice (some ⟨b,off,none⟩) ns.length cn,.slice Al ls.length cl]:=Blk.below (hW.alloc _) Hh sz_;have Hc:Below w.heap.size w w2:=bel_
    go_wp2;go_roundw
    case rel=>exact⟨k+1,by omega,by go_num,HX,gX,Hc⟩
    case measure=>simp[intOf];omega
  ·have gn:k=ns.length:=o_
   subst gn;obtain⟨a_0,a_1⟩:=hW.c2;clear Hf;have uc:=h_ HD.out;clear HD;have fO:=Hd;have gE:=hW;go_wp2
   go_loopw [46] (fun i wr=>∃k:Nat,k<=ls.length/\i= .int .i64 k/\Hid (∀j:Nat,j<k->LdOk ns ls j)/\Blk wr w.heap.size 27 #[.slice An ns.length cn,.slice Al ls.length cl]/\Below w.heap.size w wr) (fun i _=>ls.length -(intOf i).toNat)
   case atStart=>exact⟨0,aab _,rfl,h_ (z4J ns ls),gE,fO⟩
   case round=>
    obtain⟨k,hk,rfl,Bg,hW,Hd⟩:=hrel;clear gE fO a_0 a_1;have gI:=hW.lt
    by_cases Hf:k<ls.length
    ·obtain⟨b,off,rfl,hb,Gj⟩:=gg o_
     obtain⟨k0,k1⟩:=Gj k Hf;have q0:=(Hd.cell (p:=⟨b,off+k*2,none⟩) hb).trans k0;have q1:=(Hd.cell (p:=⟨b,off+k*2+1,none⟩) hb).trans k1;have Cz:(0:Int)<=(k:Int):=o_
     have CS:(k:Int)<(ls.length:Int):=o_
     have NO:k<=cl:=o_
     have hi4:(k:Int)<=(cl:Int):=o_
     obtain⟨a_0,a_1⟩:=hW.c2
     cases Hr:zt ns (ndI ls k)
     ·have HR:=h_ (Jh Hf Hr)
      clear k0 k1 Gj Hp
      go_wp2_with fail
      refine(VR _ ns (ndI ls k) _ _ (hn.below bel_) Gn Hr).mono ?_
      rintro e w2 ⟨rfl,Hh⟩;go_wp2;go_ret
      exact⟨z8 HR.out.symm,by exact bel_⟩
     ·have HLK:=h_ Hr
      clear k0 k1;generalize hL:ndI ls (k:Int)=L at*;have HL:=h_ hL;clear hL;have Gh:Below w.heap.size w (wr.alloc (.cells #[.int .i64 L.1,.int .i64 L.2] 108)):=bel_
      go_wp2_with fail
      refine(VR _ ns L _ _ (hn.below bel_) Gn Hr).mono ?_
      rintro e w2 ⟨rfl,Hh⟩;have gX:Blk w2 w.heap.size 27 #[.slice An ns.length cn,.slice (some ⟨b,off,none⟩) ls.length cl]:=Blk.below (hW.alloc _) Hh sz_;have rp:Blk w2 wr.heap.size 108 #[.int .i64 L.1,.int .i64 L.2]:=Blk.below (Blk.newAt rfl) Hh sz_;have Hc:Below w.heap.size w w2:=bel_
      generalize wr.heap.size=B5 at*;clear a_0 a_1 Hh Gh hW Hd q0 q1;obtain⟨a_0,a_1⟩:=gX.c2;obtain⟨x_0,x_1⟩:=rp.c2;go_wp2
      go_loopw [61] (fun i wr=>∃j:Nat,j<=k/\i= .int .i64 j/\Hid (CrOk ns ls L j)/\Blk wr w.heap.size 27 #[.slice An ns.length cn,.slice (some ⟨b,off,none⟩) ls.length cl]/\Blk wr B5 108 #[.int .i64 L.1,.int .i64 L.2]/\Below w.heap.size w wr) (fun i _=>k -(intOf i).toNat)
      case atStart=>exact⟨0,aab _,rfl,h_ (CrOk.zero ns ls L),gX,rp,Hc⟩
      case round=>
       obtain⟨j,hj,rfl,HC,hW,cG,Hd⟩:=hrel;clear gX rp Hc a_0 a_1 x_0 x_1;have gI:=hW.lt;have FR:=cG.lt;obtain⟨a_0,a_1⟩:=hW.c2;obtain⟨x_0,x_1⟩:=cG.c2
       by_cases cm:j<k
       ·obtain⟨k0,k1⟩:=Gj j o_
        have q0:=(Hd.cell (p:=⟨b,off+j*2,none⟩) hb).trans k0;have q1:=(Hd.cell (p:=⟨b,off+j*2+1,none⟩) hb).trans k1;have hi5:(0:Int)<=(j:Int):=o_
        have hi6:(j:Int)<(k:Int):=o_
        clear k0 k1;obtain⟨E,hE⟩:∃E,qO ns L (ndI ls j)=E:=⟨_,rfl⟩;have HX:Hid (E=true->winB ns ls=false):=h_ (fun e=>Zm Hf cm (by rw[HL.out,hE,e]));have ud:Hid (E=false->CrOk ns ls L (j+1)):=h_ (fun e=>HC.out.succ (by rw[hE,e]));generalize ndI ls (j:Int)=M at*
        go_wp2_with fail
        refine(z5c _ ns L M _ _ (hn.below bel_) Gn hE).mono ?_
        rintro e w3 ⟨rfl,Hg⟩;have Gz:Blk w3 w.heap.size 27 #[.slice An ns.length cn,.slice (some ⟨b,off,none⟩) ls.length cl]:=Blk.below (hW.alloc _) Hg sz_;have mn:Blk w3 B5 108 #[.int .i64 L.1,.int .i64 L.2]:=Blk.below (cG.alloc _) Hg sz_;have He:Below w.heap.size w w3:=bel_
        clear Hg hW cG Hd a_0 a_1 x_0 x_1 q0 q1
        cases E
        ·have HY:=h_ (ud.out rfl)
         go_wp2;go_roundw
         case rel=>exact⟨j+1,by omega,by go_num,HY,Gz,mn,He⟩
         case measure=>simp[intOf];omega
        ·have HY:=h_ (HX.out rfl)
         go_wp2;go_ret
         exact⟨z8 HY.out.symm,He⟩
       ·have GS:j=k:=o_
        subst GS;have ru:=h_ HC.out;have gE:=hW;have WG:=cG;have fO:=Hd;clear HC cm;go_wp2
        go_loopw [74] (fun i wr=>∃m:Nat,m<=ns.length/\i= .int .i64 m/\Hid (OnOk ns L m)/\Blk wr w.heap.size 27 #[.slice An ns.length cn,.slice (some ⟨b,off,none⟩) ls.length cl]/\Blk wr B5 108 #[.int .i64 L.1,.int .i64 L.2]/\Below w.heap.size w wr) (fun i _=>ns.length -(intOf i).toNat)
        case atStart=>exact⟨0,aab _,rfl,h_ (OnOk.zero ns L),gE,WG,fO⟩
        case round=>
         obtain⟨m,hm,rfl,HO,hW,cG,Hd⟩:=hrel;clear gE WG fO a_0 a_1 x_0 x_1 gI FR;have gI:=hW.lt;have FR:=cG.lt;obtain⟨a_0,a_1⟩:=hW.c2;obtain⟨x_0,x_1⟩:=cG.c2
         by_cases nq:m<ns.length
         ·obtain⟨bn,offn,rfl,Gh,nr⟩:=Hp o_
          obtain⟨k0,k1⟩:=nr m nq;have q0:=(Hd.cell (p:=⟨bn,offn+m*2,none⟩) Gh).trans k0;have q1:=(Hd.cell (p:=⟨bn,offn+m*2+1,none⟩) Gh).trans k1;have hi5:(0:Int)<=(m:Int):=o_
          have hi6:(m:Int)<(ns.length:Int):=o_
          clear k0 k1 nr Hp
          by_cases h1:(m:Int)=L.1
          ·have HY:Hid (OnOk ns L (m+1)):=h_ (HO.out.succ (fun h _=>absurd h1 h))
           have He:Below w.heap.size w (wr.alloc (.cells #[.int .i64 (ndI ns m).1,.int .i64 (ndI ns m).2] 106)):=bel_
           have e1:((m:Int) != L.1)=false:=by simp[h1]
           clear h1;go_wp2;go_roundw
           case rel=>exact⟨m+1,by omega,by go_num,HY,hW.alloc _,cG.alloc _,He⟩
           case measure=>simp[intOf];omega
          ·have e1:((m:Int) != L.1)=true:=by simp[h1]
           have H1:=h_ h1;clear h1
           by_cases h2:(m:Int)=L.2
           ·have HY:Hid (OnOk ns L (m+1)):=h_ (HO.out.succ (fun _ h=>absurd h2 h))
            have He:Below w.heap.size w (wr.alloc (.cells #[.int .i64 (ndI ns m).1,.int .i64 (ndI ns m).2] 106)):=bel_
            have e2:((m:Int) != L.2)=false:=by simp[h2]
            clear h2;go_wp2;go_roundw
            case rel=>exact⟨m+1,by omega,by go_num,HY,hW.alloc _,cG.alloc _,He⟩
            case measure=>simp[intOf];omega
           ·have e2:((m:Int) != L.2)=true:=by simp[h2]
            have H2:=h_ h2;clear h2;obtain⟨E,hE⟩:∃E,onB ns L (ndI ns m)=E:=⟨_,rfl⟩;have HX:Hid (E=true->winB ns ls=false):=h_ (fun e=>XY Hf nq (by rw[HL.out];exact H1.out) (by rw[HL.out];exact H2.out) (by rw[HL.out,hE,e]));have ud:Hid (E=false->OnOk ns L (m+1)):=h_ (fun e=>HO.out.succ (fun _ _=>by rw[hE,e]));generalize ndI ns (m:Int)=M at*
            go_wp2_with fail
            refine(z3K _ ns L M _ _ (hn.below bel_) Gn hE).mono ?_
            rintro e w3 ⟨rfl,Hg⟩;have Gz:Blk w3 w.heap.size 27 #[.slice (some ⟨bn,offn,none⟩) ns.length cn,.slice (some ⟨b,off,none⟩) ls.length cl]:=Blk.below (hW.alloc _) Hg sz_;have mn:Blk w3 B5 108 #[.int .i64 L.1,.int .i64 L.2]:=Blk.below (cG.alloc _) Hg sz_;have He:Below w.heap.size w w3:=bel_
            clear Hg hW cG Hd a_0 a_1 x_0 x_1 q0 q1
            cases E
            ·have HY:=h_ (ud.out rfl)
             go_wp2;go_roundw
             case rel=>exact⟨m+1,by omega,by go_num,HY,Gz,mn,He⟩
             case measure=>simp[intOf];omega
            ·have HY:=h_ (HX.out rfl)
             go_wp2;go_ret
             exact⟨z8 HY.out.symm,He⟩
         ·have hmm:m=ns.length:=o_
          subst hmm;have HY:Hid (∀i:Nat,i<j+1->LdOk ns ls i):=h_ (z4N Bg.out ⟨by rw[HL.out];exact HLK.out,by rw[HL.out];exact ru.out,by rw[HL.out];exact HO.out⟩);clear Hp;go_wp2;go_roundw
          case rel=>exact⟨j+1,by omega,by go_num,HY,hW,Hd⟩
          case measure=>simp[intOf];omega
    ·have gn:k=ls.length:=o_
     subst gn;have HR:=h_ (z4t HE.out Gn uc.out Bg.out);clear Hf Hp gg;go_wp2;go_ret
     exact⟨z8 HR.out.symm,Hd⟩
attribute [local go_sem ↓] zr zq zU zT
theorem XZ (p:Pr) (b:Bool) (w:World) (h:jH p=b):
  CB_ 195 #[.agg #[.int .i64 p.1,.int .i64 p.2]] w (.bool b):=zO p.1 p.2 b w h
theorem JL (v:Value) (ns:List Pr) (l:Pr) (b:Bool) (w:World) (h:RP w v ns) (hb:zt ns l=b):
  CB_ 196 #[v,.agg #[.int .i64 l.1,.int .i64 l.2]] w (.bool b):=by
 subst hb;exact jt v ns l.1 l.2 w h
theorem z5C (v:Value) (ns:List Pr) (l m:Pr) (b:Bool) (w:World) (h:RP w v ns) (hb:qO ns m l=b):
  CB_ 197 #[v,.agg #[.int .i64 l.1,.int .i64 l.2],.agg #[.int .i64 m.1,.int .i64 m.2]] w (.bool b):=by
 rw[xX] at hb;subst hb;exact z48 v ns l.1 l.2 m.1 m.2 w h
theorem z3A (v:Value) (ns:List Pr) (l n:Pr) (b:Bool) (w:World) (h:RP w v ns) (hb:onB ns l n=b):
  CB_ 198 #[v,.agg #[.int .i64 l.1,.int .i64 l.2],.agg #[.int .i64 n.1,.int .i64 n.2]] w (.bool b):=by
 subst hb;exact z2D v ns l.1 l.2 n.1 n.2 w h
theorem z2w {ns:List Pr} {k:Nat} (hk:k<ns.length) (h:q9 (ns.take k)=true) (h2:jH (ndI ns k)=true):q9 (ns.take (k+1))=true:=by
 unfold q9 at h⊢;rw[aax hk,List.all_append,h,<-qd ns k hk]
 simpa[jH] using h2
theorem z2z {ns ls:List Pr} {k:Nat} (hk:k<ns.length) (h:jH (ndI ns k)=false):winB ns ls=false:=
 jO.2 fun hw=>by rw[jY hw.2.2.2.1 k hk] at h;cases h
theorem z35 {ns ls:List Pr} {i k:Nat} (hi:i<k) (hk:k<ns.length) (h:qz (ndI ns i) (ndI ns k)=true):winB ns ls=false:=
 jO.2 fun hw=>by rw[hw.2.2.2.2.1 i k hi hk] at h;cases h
theorem z4j (vn vl:Value) (ns ls:List Pr) (w:World) (hn:RP w vn ns) (hl:RP w vl ls):
  CB_ 118 #[.agg #[vn,vl]] w (.bool (winB ns ls)):=by
 obtain⟨An,cn,rfl,FQ,GW,Hp⟩:=hn.formI;obtain⟨Al,cl,rfl,Hz,GM,gg⟩:=hl.formI;unfold maxLen at GW GM
 by_cases hE:(1<=ns.length/\ns.length<=12)/\ls.length<=20
 case neg=>
  have HR:=h_ (Ji hE);have HE:=h_ hE;clear hE Hp gg
  by_cases h1:1<=ns.length/\ns.length<=12
  ·have i1:inB (ns.length:Int) 1 12=true:=zc.2 o_
   have i2:(20:Int)<(ls.length:Int):=by
    have:¬ls.length<=20:=fun h=>HE.out ⟨h1,h⟩
    omega
   clear h1
   go_enter Tryz.func118,Tryz.ntmps118
   go_wp2_with (go_at_call 138;refine(zP _ _ _ _ _ i1).mono ?_;rintro e w' ⟨rfl,rfl⟩)
   go_ret
   exact⟨z8 HR.out.symm,by exact bel_⟩
  ·have i1:inB (ns.length:Int) 1 12=false:=z0L.2 o_
   clear h1
   go_enter Tryz.func118,Tryz.ntmps118
   go_wp2_with (go_at_call 138;refine(zP _ _ _ _ _ i1).mono ?_;rintro e w' ⟨rfl,rfl⟩)
   go_ret
   exact⟨z8 HR.out.symm,by exact bel_⟩
 have i1:inB (ns.length:Int) 1 12=true:=zc.2 o_;have i2:¬(20:Int)<(ls.length:Int):=o_
 have HE:=h_ hE;clear hE
 go_enter Tryz.func118,Tryz.ntmps118
 go_wp2_with (go_at_call 138;refine(zP _ _ _ _ _ i1).mono ?_;rintro e w' ⟨rfl,rfl⟩)
 go_loopw [3] (fun i wr=>∃k:Nat,k<=ns.length/\i= .int .i64 k/\Hid (q9 (ns.take k)=true/\Dis ns k)/\Blk wr w.heap.size 27 #[.slice An ns.length cn,.slice Al ls.length cl]/\Below w.heap.size w wr) (fun i _=>ns.length -(intOf i).toNat)
 case atStart=>exact⟨0,aab _,rfl,h_ ⟨by simp[q9],Dis.zero ns⟩,Blk.newAt rfl,by exact bel_⟩
 case round=>
  obtain⟨k,hk,rfl,HD,hW,Hd⟩:=hrel;have gI:=hW.lt;obtain⟨a_0,a_1⟩:=hW.c2
  by_cases Hf:k<ns.length
  ·obtain⟨b,off,rfl,hb,Gj⟩:=Hp o_
   obtain⟨k0,k1⟩:=Gj k Hf;have q0:=(Hd.cell (p:=⟨b,off+k*2,none⟩) hb).trans k0;have q1:=(Hd.cell (p:=⟨b,off+k*2+1,none⟩) hb).trans k1;have Cz:(0:Int)<=(k:Int):=o_
   have CS:(k:Int)<(ns.length:Int):=o_
   clear Hp
   cases hnd:jH (ndI ns k)
   ·have HR:=h_ (z2z (ls:=ls) Hf hnd)
    clear k0 k1
    go_wp2_with fail
    refine(XZ (ndI ns k) _ _ hnd).mono ?_
    rintro e w2 ⟨rfl,Hh⟩;go_wp2;go_ret
    exact⟨z8 HR.out.symm,by exact bel_⟩
   ·have NR:=h_ (z2w Hf HD.out.1 hnd)
    go_wp2_with fail
    refine(XZ (ndI ns k) _ _ hnd).mono ?_
    rintro e w2 ⟨rfl,Hh⟩;have gX:Blk w2 w.heap.size 27 #[.slice (some ⟨b,off,none⟩) ns.length cn,.slice Al ls.length cl]:=Blk.below hW Hh sz_;have Hc:Below w.heap.size w w2:=bel_
    clear Hh hW Hd q0 q1 a_0 a_1;go_wp2
    go_loopw [4] (fun i wr=>∃j:Nat,j<=k/\i= .int .i64 j/\Hid (∀a:Nat,a<j->qz (ndI ns a) (ndI ns k)=false)/\Blk wr w.heap.size 27 #[.slice (some ⟨b,off,none⟩) ns.length cn,.slice Al ls.length cl]/\Below w.heap.size w wr) (fun i _=>k -(intOf i).toNat)
    case atStart=>exact⟨0,aab _,rfl,h_ (fun a ha=>absurd ha o_),gX,Hc⟩
    case round=>
     obtain⟨j,hj,rfl,HS,hW,Hd⟩:=hrel;clear gX Hc;obtain⟨a_0,a_1⟩:=hW.c2
     by_cases cm:j<k
     ·obtain⟨j0,j1⟩:=Gj j o_
      have q0:=(Hd.cell (p:=⟨b,off+k*2,none⟩) hb).trans k0;have q1:=(Hd.cell (p:=⟨b,off+k*2+1,none⟩) hb).trans k1;have q2:=(Hd.cell (p:=⟨b,off+j*2,none⟩) hb).trans j0;have q3:=(Hd.cell (p:=⟨b,off+j*2+1,none⟩) hb).trans j1;have NO:(0:Int)<=(j:Int):=o_
      have hi4:(j:Int)<(ns.length:Int):=o_
      have hi5:(j:Int)<(k:Int):=o_
      clear k0 k1 j0 j1 Gj
      cases hsm:prB (ndI ns j).1 (ndI ns j).2 (ndI ns k).1 (ndI ns k).2
      ·have HX:Hid (∀a:Nat,a<j+1->qz (ndI ns a) (ndI ns k)=false):=h_ (by
        intro a ha
        rcases Nat.lt_succ_iff_lt_or_eq.1 ha with h|h
        ·exact HS.out a h
        ·subst h;exact hsm)
       go_wp2
       go_quiet (fail)
       go_wp2;go_roundw
       case rel=>exact⟨j+1,by omega,by go_num,HX,hW,by exact bel_⟩
       case measure=>simp[intOf];omega
      ·have HR:=h_ (z35 (ls:=ls) cm Hf hsm)
       go_wp2
       go_quiet (fail)
       go_wp2;go_ret
       exact⟨z8 HR.out.symm,by exact bel_⟩
     ·have GS:j=k:=o_
      subst GS;have HX:Hid (q9 (ns.take (j+1))=true/\Dis ns (j+1)):=h_ ⟨NR.out,HD.out.2.succ HS.out⟩;clear k0 k1 Gj cm;go_wp2;go_roundw
      case rel=>exact⟨j+1,by omega,by go_num,HX,hW,Hd⟩
      case measure=>simp[intOf];omega
  ·have gn:k=ns.length:=o_
   subst gn
   have Gn:q9 ns=true:=by
    have:=HD.out.1
    rwa [aaA] at this
   have uc:=h_ HD.out.2;clear HD Hf;have fO:=Hd;have gE:=hW;go_wp2
   go_loopw [5] (fun i wr=>∃k:Nat,k<=ls.length/\i= .int .i64 k/\Hid (∀j:Nat,j<k->LdOk ns ls j)/\Blk wr w.heap.size 27 #[.slice An ns.length cn,.slice Al ls.length cl]/\Below w.heap.size w wr) (fun i _=>ls.length -(intOf i).toNat)
   case atStart=>exact⟨0,aab _,rfl,h_ (z4J ns ls),gE,fO⟩
   case round=>
    obtain⟨k,hk,rfl,Bg,hW,Hd⟩:=hrel;clear gE fO a_0 a_1;have gI:=hW.lt
    by_cases Hf:k<ls.length
    ·obtain⟨b,off,rfl,hb,Gj⟩:=gg o_
     obtain⟨k0,k1⟩:=Gj k Hf;have q0:=(Hd.cell (p:=⟨b,off+k*2,none⟩) hb).trans k0;have q1:=(Hd.cell (p:=⟨b,off+k*2+1,none⟩) hb).trans k1;have Cz:(0:Int)<=(k:Int):=o_
     have CS:(k:Int)<(ls.length:Int):=o_
     obtain⟨a_0,a_1⟩:=hW.c2;have Fo:b<wr.heap.size:=by have:=Hd.size;omega
     cases Hr:zt ns (ndI ls k)
     ·have HR:=h_ (Jh Hf Hr)
      clear k0 k1 Gj Hp
      go_wp2_with fail
      refine(JL _ ns (ndI ls k) _ _ (hn.below bel_) Hr).mono ?_
      rintro e w2 ⟨rfl,Hh⟩;go_wp2;go_ret
      exact⟨z8 HR.out.symm,by exact bel_⟩
     ·have HLK:=h_ Hr
      clear k0 k1;generalize hL:ndI ls (k:Int)=L at*;have HL:=h_ hL;clear hL
      go_wp2_with fail
      refine(JL _ ns L _ _ (hn.below bel_) Hr).mono ?_
      rintro e w2 ⟨rfl,Hh⟩;have gX:Blk w2 w.heap.size 27 #[.slice An ns.length cn,.slice (some ⟨b,off,none⟩) ls.length cl]:=Blk.below (hW.alloc _) Hh sz_;have rp:Blk w2 wr.heap.size 108 #[.int .i64 L.1,.int .i64 L.2]:=Blk.below (Blk.newAt rfl) Hh sz_;have Hc:Below w.heap.size w w2:=bel_
      generalize wr.heap.size=B5 at*;clear a_0 a_1 Hh hW Hd q0 q1;go_wp2
      go_loopw [7] (fun i wr=>∃j:Nat,j<=k/\i= .int .i64 j/\Hid (CrOk ns ls L j)/\Blk wr w.heap.size 27 #[.slice An ns.length cn,.slice (some ⟨b,off,none⟩) ls.length cl]/\Blk wr B5 108 #[.int .i64 L.1,.int .i64 L.2]/\Below w.heap.size w wr) (fun i _=>k -(intOf i).toNat)
      case atStart=>exact⟨0,aab _,rfl,h_ (CrOk.zero ns ls L),gX,rp,Hc⟩
      case round=>
       obtain⟨j,hj,rfl,HC,hW,cG,Hd⟩:=hrel;clear gX rp Hc;have gI:=hW.lt;have FR:=cG.lt;obtain⟨a_0,a_1⟩:=hW.c2;obtain⟨x_0,x_1⟩:=cG.c2
       by_cases cm:j<k
       ·obtain⟨k0,k1⟩:=Gj j o_
        have q0:=(Hd.cell (p:=⟨b,off+j*2,none⟩) hb).trans k0;have q1:=(Hd.cell (p:=⟨b,off+j*2+1,none⟩) hb).trans k1;have hi5:(0:Int)<=(j:Int):=o_
        have hi6:(j:Int)<(k:Int):=o_
        have hi7:(j:Int)<(ls.length:Int):=o_
        have Mh:b<wr.heap.size:=by have:=Hd.size;omega
        clear k0 k1;obtain⟨E,hE⟩:∃E,qO ns L (ndI ls j)=E:=⟨_,rfl⟩;have HX:Hid (E=true->winB ns ls=false):=h_ (fun e=>Zm Hf cm (by rw[HL.out,hE,e]));have ud:Hid (E=false->CrOk ns ls L (j+1)):=h_ (fun e=>HC.out.succ (by rw[hE,e]));generalize ndI ls (j:Int)=M at*;have ue:RP wr (.slice An ns.length cn) ns:=hn.below Hd
        go_wp2_with fail
        (refine z7 k_ k_ (fun hG=>?_))
        repeat (go_big_quiet_step ((go_at_call 197;exact zE (z5C _ ns M L _ _ (RS.grw _ ue) hE))))
        (refine wpQuiet_nil ?_);(clear hG);(rintro w3 ⟨⟨_,Hg⟩,rfl⟩);(try dsimp only)
        have Gz:Blk w3 w.heap.size 27 #[.slice An ns.length cn,.slice (some ⟨b,off,none⟩) ls.length cl]:=Blk.below hW Hg sz_;have mn:Blk w3 B5 108 #[.int .i64 L.1,.int .i64 L.2]:=Blk.below cG Hg sz_;have He:Below w.heap.size w w3:=bel_
        clear Hg hW cG Hd a_0 a_1 x_0 x_1 q0 q1 ue
        cases E
        ·have HY:=h_ (ud.out rfl)
         go_wp2;go_roundw
         case rel=>exact⟨j+1,by omega,by go_num,HY,Gz,mn,He⟩
         case measure=>simp[intOf];omega
        ·have HY:=h_ (HX.out rfl)
         go_wp2;go_ret
         exact⟨z8 HY.out.symm,He⟩
       ·have GS:j=k:=o_
        subst GS;have ru:=h_ HC.out;have gE:=hW;have WG:=cG;have fO:=Hd;clear HC cm;go_wp2
        go_loopw [8] (fun i wr=>∃m:Nat,m<=ns.length/\i= .int .i64 m/\Hid (OnOk ns L m)/\Blk wr w.heap.size 27 #[.slice An ns.length cn,.slice (some ⟨b,off,none⟩) ls.length cl]/\Blk wr B5 108 #[.int .i64 L.1,.int .i64 L.2]/\Below w.heap.size w wr) (fun i _=>ns.length -(intOf i).toNat)
        case atStart=>exact⟨0,aab _,rfl,h_ (OnOk.zero ns L),gE,WG,fO⟩
        case round=>
         obtain⟨m,hm,rfl,HO,hW,cG,Hd⟩:=hrel;clear gE WG fO a_0 a_1 x_0 x_1 gI FR;have gI:=hW.lt;have FR:=cG.lt;obtain⟨a_0,a_1⟩:=hW.c2;obtain⟨x_0,x_1⟩:=cG.c2
         by_cases nq:m<ns.length
         ·obtain⟨bn,offn,rfl,Gh,nr⟩:=Hp o_
          obtain⟨k0,k1⟩:=nr m nq;have q0:=(Hd.cell (p:=⟨bn,offn+m*2,none⟩) Gh).trans k0;have q1:=(Hd.cell (p:=⟨bn,offn+m*2+1,none⟩) Gh).trans k1;have hi5:(0:Int)<=(m:Int):=o_
          have hi6:(m:Int)<(ns.length:Int):=o_
          have Mh:bn<wr.heap.size:=by have:=Hd.size;omega
          have ue:RP wr (.slice (some ⟨bn,offn,none⟩) ns.length cn) ns:=hn.below Hd;clear k0 k1 nr Hp
          by_cases h1:(m:Int)=L.1
          ·have HY:Hid (OnOk ns L (m+1)):=h_ (HO.out.succ (fun h _=>absurd h1 h))
           have e1:((m:Int) != L.1)=false:=by simp[h1]
           clear h1
           go_wp2_with fail
           (refine z7 k_ k_ (fun hG=>?_))
           repeat (go_big_quiet_step (fail))
           (refine wpQuiet_nil ?_);(clear hG);(rintro w3 ⟨⟨_,Hg⟩,rfl⟩);(try dsimp only)
           have Gz:Blk w3 w.heap.size 27 #[.slice (some ⟨bn,offn,none⟩) ns.length cn,.slice (some ⟨b,off,none⟩) ls.length cl]:=Blk.below hW Hg sz_;have mn:Blk w3 B5 108 #[.int .i64 L.1,.int .i64 L.2]:=Blk.below cG Hg sz_;have He:Below w.heap.size w w3:=bel_
           clear Hg hW cG Hd a_0 a_1 x_0 x_1 q0 q1 ue;go_wp2;go_roundw
           case rel=>exact⟨m+1,by omega,by go_num,HY,Gz,mn,He⟩
           case measure=>simp[intOf];omega
          ·have e1:((m:Int) != L.1)=true:=by simp[h1]
           have H1:=h_ h1;clear h1
           by_cases h2:(m:Int)=L.2
           ·have HY:Hid (OnOk ns L (m+1)):=h_ (HO.out.succ (fun _ h=>absurd h2 h))
            have e2:((m:Int) != L.2)=false:=by simp[h2]
            clear h2
            go_wp2_with fail
            (refine z7 k_ k_ (fun hG=>?_))
            repeat (go_big_quiet_step (fail))
            (refine wpQuiet_nil ?_);(clear hG);(rintro w3 ⟨⟨_,Hg⟩,rfl⟩);(try dsimp only)
            have Gz:Blk w3 w.heap.size 27 #[.slice (some ⟨bn,offn,none⟩) ns.length cn,.slice (some ⟨b,off,none⟩) ls.length cl]:=Blk.below hW Hg sz_;have mn:Blk w3 B5 108 #[.int .i64 L.1,.int .i64 L.2]:=Blk.below cG Hg sz_;have He:Below w.heap.size w w3:=bel_
            clear Hg hW cG Hd a_0 a_1 x_0 x_1 q0 q1 ue;go_wp2;go_roundw
            case rel=>exact⟨m+1,by omega,by go_num,HY,Gz,mn,He⟩
            case measure=>simp[intOf];omega
           ·have e2:((m:Int) != L.2)=true:=by simp[h2]
            have H2:=h_ h2;clear h2;obtain⟨E,hE⟩:∃E,onB ns L (ndI ns m)=E:=⟨_,rfl⟩;have HX:Hid (E=true->winB ns ls=false):=h_ (fun e=>XY Hf nq (by rw[HL.out];exact H1.out) (by rw[HL.out];exact H2.out) (by rw[HL.out,hE,e]));have ud:Hid (E=false->OnOk ns L (m+1)):=h_ (fun e=>HO.out.succ (fun _ _=>by rw[hE,e]));generalize ndI ns (m:Int)=M at*
            go_wp2_with fail
            (refine z7 k_ k_ (fun hG=>?_))
            repeat (go_big_quiet_step ((go_at_call 198;exact zE (z3A _ ns L M _ _ (RS.grw _ ue) hE))))
            (refine wpQuiet_nil ?_);(clear hG);(rintro w3 ⟨⟨_,Hg⟩,rfl⟩);(try dsimp only)
            have Gz:Blk w3 w.heap.size 27 #[.slice (some ⟨bn,offn,none⟩) ns.length cn,.slice (some ⟨b,off,none⟩) ls.length cl]:=Blk.below hW Hg sz_;have mn:Blk w3 B5 108 #[.int .i64 L.1,.int .i64 L.2]:=Blk.below cG Hg sz_;have He:Below w.heap.size w w3:=bel_
            clear Hg hW cG Hd a_0 a_1 x_0 x_1 q0 q1 ue
            cases E
            ·have HY:=h_ (ud.out rfl)
             go_wp2;go_roundw
             case rel=>exact⟨m+1,by omega,by go_num,HY,Gz,mn,He⟩
             case measure=>simp[intOf];omega
            ·have HY:=h_ (HX.out rfl)
             go_wp2;go_ret
             exact⟨z8 HY.out.symm,He⟩
         ·have hmm:m=ns.length:=o_
          subst hmm;have HY:Hid (∀i:Nat,i<j+1->LdOk ns ls i):=h_ (z4N Bg.out ⟨by rw[HL.out];exact HLK.out,by rw[HL.out];exact ru.out,by rw[HL.out];exact HO.out⟩);clear Hp;go_wp2;go_roundw
          case rel=>exact⟨j+1,by omega,by go_num,HY,hW,Hd⟩
          case measure=>simp[intOf];omega
    ·have gn:k=ls.length:=o_
     subst gn;have HR:=h_ (z4t HE.out Gn uc.out Bg.out);obtain⟨a_0,a_1⟩:=hW.c2;clear Hf Hp gg;go_wp2;go_ret
     exact⟨z8 HR.out.symm,Hd⟩
def posN (bf:Nat->Bool) (G:List Nat):Nat->Nat
 |0=>0
 |a+1=>if bf (G.getD a 0) then posN bf G a else a+1
def insN (bf:Nat->Bool) (d:Nat) (G:List Nat):List Nat:=G.take (posN bf G G.length)++d::G.drop (posN bf G G.length)
theorem z0W (bf:Nat->Bool) (G:List Nat):∀a,posN bf G a<=a
 |0=>aaa _
 |a+1=>by
  unfold posN
  split
  ·exact Nat.le_succ_of_le (z0W bf G a)
  ·exact aaa _
theorem Ja (bf:Nat->Bool) (d:Nat) (G:List Nat):(insN bf d G).length =G.length+1:=by
 have:=z0W bf G G.length;simp[insN];omega
theorem X5 {bf:Nat->Bool} {d e:Nat} {G:List Nat} (h:e∈insN bf d G):e=d∨e∈G:=by
 unfold insN at h;rw[aaI,List.mem_cons] at h
 rcases h with h|h|h
 ·exact .inr (List.mem_of_mem_take h)
 ·exact .inl h
 ·exact .inr (List.mem_of_mem_drop h)
def bfD (ns ls:List Pr) (k:Nat) (d e:Nat):Bool:=
 befB (ndI ns k).1 (ndI ns k).2 (ndI ns (dTo ls d)).1 (ndI ns (dTo ls d)).2 (ndI ns (dTo ls e)).1 (ndI ns (dTo ls e)).2
def ardS (ns ls:List Pr) (k:Nat):Nat->List Nat
 |0=> []
 |d+1=>if zd ls d=k then insN (bfD ns ls k d) d (ardS ns ls k d) else ardS ns ls k d
theorem Qj {ns ls:List Pr} {k d:Nat} (h:¬zd ls d=k):ardS ns ls k (d+1)=ardS ns ls k d:=by simp[ardS,h]
theorem kC {ns ls:List Pr} {k d:Nat} (h:zd ls d=k):ardS ns ls k (d+1)=insN (bfD ns ls k d) d (ardS ns ls k d):=by simp[ardS,h]
theorem z1a (ns ls:List Pr) (k:Nat):∀d e,e∈ardS ns ls k d->e<d
 |0,e,h=>by simp[ardS] at h
 |d+1,e,h=>by
  unfold ardS at h
  split at h
  ·rcases X5 h with rfl|h
   ·omega
   ·have:=z1a ns ls k d e h;omega
  ·have:=z1a ns ls k d e h;omega
theorem V9 (ns ls:List Pr) (k:Nat):∀d,(ardS ns ls k d).length <=d
 |0=>by simp[ardS]
 |d+1=>by
  unfold ardS
  split
  ·rw[Ja];have:=V9 ns ls k d;omega
  ·have:=V9 ns ls k d;omega
def natI (G:List Nat):List Int:=G.map fun (d:Nat)=>(d:Int)
theorem za (G:List Nat):(natI G).length =G.length:=by simp[natI]
theorem OwnI.made {base:Nat} {w:World} {g:Nat} (hg:g=w.heap.size) (hb:base<=w.heap.size):OwnI base (w.alloc (.cells #[] 3)) (.slice (some ⟨g,0,none⟩) 0 0) []:=by
 subst hg;exact World.ownsRow_made _ _ _ hb (by simp) (by simp[maxLen])
theorem OwnI.form {base:Nat} {w:World} {v:Value} {zs:List Int} (h:OwnI base w v zs):∃A c,v= .slice A zs.length c:=by
 rcases h.2 with ⟨rfl,hn⟩|⟨g,cap,cur,rfl,_⟩
 ·exact⟨none,0,by rw[hn]⟩
 ·exact⟨_,_,rfl⟩
def gapI (G:List Nat) (at':Nat) (y:Int):List Int:=natI (G.take at')++y::natI (G.drop at')
theorem jv (G:List Nat) (a:Nat) (y:Int) (h:a<=G.length):(gapI G a y).length =G.length+1:=by
 simp[gapI,natI];omega
theorem Zq (G:List Nat) (y:Int):gapI G G.length y=natI G++[y]:=by simp[gapI,natI]
theorem xw (G:List Nat) (a:Nat) (y:Int) (h:a<G.length):(gapI G (a+1) y).getD a 0=((G.getD a 0:Nat):Int):=by
 unfold gapI natI;rw[List.getD,abc (by simp;omega)];simp[List.getElem?_take,h]
theorem ZI (G:List Nat) (a:Nat) (y:Int) (h:a<G.length):(gapI G (a+1) y).set (a+1) ((G.getD a 0:Nat):Int)=gapI G a ((G.getD a 0:Nat):Int):=by
 unfold gapI natI;rw[aan,aaq (by simp;omega)];have e:(List.map (fun (d:Nat)=>(d:Int)) (G.take (a+1))).length =a+1:=by simp;omega
 rw[e,aae,aal,aax h,aaz,aay];simp[List.getD,h]
 rw[aas (i:=a) (by simpa using h)];simp
theorem xQ (G:List Nat) (a:Nat) (y:Int) (d:Nat) (h:a<=G.length):(gapI G a y).set a (d:Int)=natI (G.take a++d::G.drop a):=by
 unfold gapI natI;rw[aan,aaq (by simp;omega)];have e:(List.map (fun (d:Nat)=>(d:Int)) (G.take a)).length =a:=by simp;omega
 rw[e,aae,aal,aaz,aaS]
theorem jM {ns ls:List Pr} (Hr:∀j:Nat,j<ls.length->zt ns (ndI ls j)=true) {d:Nat} (hd:d<2*ls.length):∃t:Nat,dTo ls d=(t:Int)/\t<ns.length:=by
 obtain⟨h1,h2,h3,_⟩:=zZ.1 (Hr (d/2) o_);unfold dTo
 split
 ·exact⟨(ndI ls (d/2:Nat)).1.toNat,by omega,by omega⟩
 ·exact⟨(ndI ls (d/2:Nat)).2.toNat,by omega,by omega⟩
theorem z41 (a b c:Pr) (x:Bool) (w:World) (h:befB a.1 a.2 b.1 b.2 c.1 c.2=x):
  Calls Tryz.prog 272 #[.agg #[.int .i64 a.1,.int .i64 a.2],.agg #[.int .i64 b.1,.int .i64 b.2],.agg #[.int .i64 c.1,.int .i64 c.2]] w
   fun e w'=>e= .returned (.bool x)/\Below w.heap.size w w':=by
 subst h;exact z31 _ _ _ _ _ _ w
theorem z36 (vn vl:Value) (ns ls:List Pr) (k:Nat) (w:World) (hn:RP w vn ns) (hl:RP w vl ls) (hk:k<ns.length) (hm:ls.length<=20) (FG:ns.length<=12) (Hr:∀j:Nat,j<ls.length->zt ns (ndI ls j)=true):
  Calls Tryz.prog 266 #[.agg #[vn,vl],.int .i64 k] w (RetI (natI (ardS ns ls k (2*ls.length))) w):=by
 obtain⟨An,cn,rfl,FQ,GW,Hp⟩:=hn.formI;obtain⟨Al,cl,rfl,Hz,GM,_⟩:=hl.formI;unfold maxLen at GW GM;obtain⟨bn,offn,rfl,Gh,Gj⟩:=Hp o_;obtain⟨i0,hi,iz0,iz1,iz2⟩:=info_parts qq;have Bg:=h_ Hr;clear Hr Hp
 go_enter Tryz.func266,Tryz.ntmps266
 go_wp2
 go_loopw [5,6] (fun v i wr=>∃d:Nat,d<=2*ls.length/\i= .int .i64 d/\OwnI (w.heap.size+1) wr v (natI (ardS ns ls k d))/\Blk wr w.heap.size 27 #[.slice (some ⟨bn,offn,none⟩) ns.length cn,.slice Al ls.length cl]/\Below w.heap.size w wr) (fun _ i _=>2*ls.length -(intOf i).toNat)
 case atStart=>exact⟨0,aab _,rfl,OwnI.made (by simp) (by simp),(Blk.newAt rfl).alloc _,by exact bel_⟩
 case round=>
  obtain⟨d,hd,rfl,ho,hW,Hd⟩:=hrel;have gI:=hW.lt;obtain⟨a_0,a_1⟩:=hW.c2
  by_cases Hf:d<2*ls.length
  ·have Hu:(d:Int)<2*(ls.length:Int):=o_
   go_wp2_with fail
   refine(kA _ _ ls d _ (hl.below bel_) Hf).mono ?_
   rintro e w1 ⟨rfl,Hb⟩;have H7:=Hb.size;(try simp at H7);(try have gY:=p0_ w w1)
   have Hj:=ho.kept Hb;have gc:=hW.below Hb gI;have Ha:Below w.heap.size w w1:=bel_
   clear Hb ho hW Hd a_0 a_1
   by_cases bF:zd ls d=k
   ·have e1:(zd ls d != (k:Int))=false:=by simp[bF]
    have HS:=h_ (kC (ns:=ns) bF);have hle:=V9 ns ls k d;have Cf:=h_ (z1a ns ls k d);generalize ardS ns ls k d=G at*;have hgl:=za G;have hG:G.length<=40:=o_
    obtain⟨t,ht,Bh⟩:=jM Bg.out Hf;rw[ht,bF];have HTT:=h_ ht;have Cg:=h_ hgl;obtain⟨k0,k1⟩:=Gj k hk;obtain⟨t0,t1⟩:=Gj t Bh;clear bF ht hgl hle;have uf:=Ha.size;have Hm:=Hj.form;obtain⟨A1,c1,Bi⟩:=Hm;subst Bi;obtain⟨a_0,a_1⟩:=gc.c2
    go_wp2_with (at_builtin;refine wpList_append_own _ rfl _ _ 31 rfl (w.heap.size+1) 3 i0 (.int .i64 0) 1 8 Tryz.underlying31 hi iz0 iz1 iz2 rfl (by decide) _ _ _ rfl (World.ownsRow.alloc Hj _) ⟨w1.heap.size,0,none⟩ 1 1 [.int .i64 _] rfl rfl (cell_one_new _ _ _) (by intro u hu;simp at hu;subst hu;rfl) (by rw[Cg.out];unfold maxLen;omega) (by rw[Cg.out];omega) (by simp;omega) ?_)
    intro v2 w2 fe gu Gr;have Ge:Below w.heap.size w w2:=(Ha.alloc o_ _).grown gu (by simp;omega) (fun k hk=>by have:=(Hj.lt k hk).1;omega);have gX:Blk w2 w.heap.size 27 #[.slice (some ⟨bn,offn,none⟩) ns.length cn,.slice Al ls.length cl]:=(gu.block _ (by simp;omega) (fun e=>by have:=(Hj.lt _ e.symm).1;omega)).trans (gc.alloc _)
    have HO:OwnI (w.heap.size+1) w2 v2 (gapI G G.length (d:Int)):=by
     rw[Zq];exact OwnI.snoc fe
    clear fe gu Hj gc Ha a_0 a_1 uf gI
    rcases F4:HO.2 with ⟨e0,_⟩|⟨gb,cap,cur,rfl,mo,hh,Fs⟩
    ·exact absurd e0 Gr
    have Bj:gb<w2.heap.size:=(HO.lt gb rfl).2;have Hv:¬gb=w.heap.size:=o_
    clear F4 hh Fs cur Gr;rw[jv G G.length _ (aaa _)] at HO⊢;rw[Cg.out];go_wp2
    go_loopw [9] (fun x wr=>∃p:Nat,p<=G.length/\x= .int .i64 p/\(∃y,OwnI (w.heap.size+1) wr (.slice (some ⟨gb,0,none⟩) (G.length+1) cap) (gapI G p y))/\Hid (posN (bfD ns ls k d) G G.length=posN (bfD ns ls k d) G p)/\Blk wr w.heap.size 27 #[.slice (some ⟨bn,offn,none⟩) ns.length cn,.slice Al ls.length cl]/\Below w.heap.size w wr/\gb<wr.heap.size) (fun x _=>(intOf x).toNat)
    case atStart=>exact⟨G.length,aaa _,rfl,⟨_,HO⟩,h_ rfl,gX,Ge,Bj⟩
    case round=>
     obtain⟨p,hp,rfl,⟨y,cH⟩,HP,hW,Hd,Mw⟩:=hrel;clear HO gX Ge Bj;have gI:=hW.lt;have ug:=jv G p y hp;obtain⟨a_0,a_1⟩:=hW.c2
     by_cases nt:0<p
     ·obtain⟨r,rfl⟩:∃r,p=r+1:=⟨p -1,by omega⟩
      have hr:r<G.length:=o_
      have xr:=cH.cell (q:=r) o_;rw[xw G r y hr] at xr;have he:G.getD r 0<d:=Cf.out _ (by rw[List.getD,aac hr];exact abg hr);have HMV:=h_ (ZI G r y hr);have Mi:Hid (posN (bfD ns ls k d) G (r+1)=if bfD ns ls k d (G.getD r 0) then posN (bfD ns ls k d) G r else r+1):=h_ rfl;generalize hev:G.getD r 0=e at*;have HEV:=h_ hev;clear hev;obtain⟨t2,NS,ht2n⟩:=jM Bg.out (show e<2*ls.length by omega);have WI:=h_ NS;obtain⟨s0,s1⟩:=Gj t2 ht2n;obtain⟨x,hx⟩:∃x,befB (ndI ns k).1 (ndI ns k).2 (ndI ns t).1 (ndI ns t).2 (ndI ns t2).1 (ndI ns t2).2=x:=⟨_,rfl⟩;have HX:Hid (bfD ns ls k d e=x):=h_ (by unfold bfD;rw[HTT.out,WI.out];exact hx);have nv:RP wr (.slice Al ls.length cl) ls:=hl.below Hd;have Cz:(0:Int)<=(r:Int):=o_
      go_wp2_with fail
      (refine z7 k_ k_ (fun hG=>?_))
      repeat (go_big_quiet_step ((go_at_call 192;exact zE (kA _ _ ls e _ (RS.grw _ nv) o_))))
      (refine wpQuiet_nil ?_);(clear hG);(rintro w3 ⟨⟨_,Hg⟩,rfl⟩);(try dsimp only);have fC:=Hg.size;(try simp at fC);(try have F1:=p0_ w w3);(try have F2:=p1_ w w3)
      have Gz:=hW.below Hg gI;have Hq:=cH.kept Hg;have gy:Below w.heap.size w w3:=bel_
      have hgw3:gb<w3.heap.size:=o_
      have fC:w.heap.size<w3.heap.size:=Gz.lt;have hbn3:bn<w3.heap.size:=o_
      have c0:=(gy.cell (p:=⟨bn,offn+k*2,none⟩) Gh).trans k0;have c1':=(gy.cell (p:=⟨bn,offn+k*2+1,none⟩) Gh).trans k1;have c2:=(gy.cell (p:=⟨bn,offn+t*2,none⟩) Gh).trans t0;have c3:=(gy.cell (p:=⟨bn,offn+t*2+1,none⟩) Gh).trans t1;have c4:=(gy.cell (p:=⟨bn,offn+t2*2,none⟩) Gh).trans s0;have c5:=(gy.cell (p:=⟨bn,offn+t2*2+1,none⟩) Gh).trans s1;have ik1:(0:Int)<=(k:Int):=o_
      have ik2:(k:Int)<(ns.length:Int):=o_
      have it1:(0:Int)<=(t:Int):=o_
      have it2:(t:Int)<(ns.length:Int):=o_
      have is1:(0:Int)<=(t2:Int):=o_
      have is2:(t2:Int)<(ns.length:Int):=o_
      clear Hg F1 F2 hW cH Hd a_0 a_1 xr nv;obtain⟨a_0,a_1⟩:=Gz.c2;rw[WI.out]
      go_wp2_with fail
      (refine z7 k_ k_ (fun hG=>?_))
      repeat (go_big_quiet_step ((go_at_call 272;exact zE (z41 (ndI ns k) (ndI ns t) (ndI ns t2) _ _ hx))))
      (refine wpQuiet_nil ?_);(clear hG);(rintro w4 ⟨⟨_,H5⟩,rfl⟩);(try dsimp only);have BA:=H5.size;(try simp at BA)
      have hW:=Gz.below H5 fC;have cH:=Hq.kept H5;have Hd:Below w.heap.size w w4:=bel_
      have WJ:gb<w4.heap.size:=o_
      clear H5 BA Gz Hq gy a_0 a_1 c0 c1' c2 c3 c4 c5 fC;obtain⟨a_0,a_1⟩:=hW.c2
      cases x
      ·have FO:Hid (posN (bfD ns ls k d) G G.length=r+1):=h_ (by rw[HP.out,Mi.out,HX.out];rfl)
       have xp:=cH.cell (q:=r+1) o_;obtain⟨z,hz⟩:∃z,w4.cell? ⟨gb,r+1,none⟩=some z:=⟨_,xp⟩;have fp:=cH.frz (r+1)
       have Cu:Hid (OwnI (w.heap.size+1) (w4.setCell ⟨gb,r+1,none⟩ (.int .i64 (d:Int))) (.slice (some ⟨gb,0,none⟩) (G.length+1) cap) (natI (ardS ns ls k (d+1)))):=h_ (by
        rw[HS.out];unfold insN;rw[FO.out,<-xQ G (r+1) y d o_];exact cH.set_ (r+1) (d:Int))
       have CT:=h_ (Hd.setCell (p:=⟨gb,r+1,none⟩) (show w.heap.size<=gb by omega) (.int .i64 (d:Int)));have C0:=h_ (hW.far (p:=⟨gb,r+1,none⟩) (Ne.symm Hv) (.int .i64 (d:Int)));clear xp cH Hd hW a_0 a_1;go_wp2;go_roundw
       case rel=>exact⟨d+1,by omega,by go_num,Cu.out,C0.out,CT.out⟩
       case measure=>simp[intOf];omega
      ·have FO:Hid (posN (bfD ns ls k d) G G.length=posN (bfD ns ls k d) G r):=h_ (by rw[HP.out,Mi.out,HX.out];rfl)
       have xp:=cH.cell (q:=r+1) o_;obtain⟨z,hz⟩:∃z,w4.cell? ⟨gb,r+1,none⟩=some z:=⟨_,xp⟩;have fp:=cH.frz (r+1);have xr:=cH.cell (q:=r) o_;rw[xw G r y hr,HEV.out] at xr
       have Cu:Hid (OwnI (w.heap.size+1) (w4.setCell ⟨gb,r+1,none⟩ (.int .i64 (e:Int))) (.slice (some ⟨gb,0,none⟩) (G.length+1) cap) (gapI G r (e:Int))):=h_ (by
        rw[<-HMV.out];exact cH.set_ (r+1) (e:Int))
       have CT:=h_ (Hd.setCell (p:=⟨gb,r+1,none⟩) (show w.heap.size<=gb by omega) (.int .i64 (e:Int)));have C0:=h_ (hW.far (p:=⟨gb,r+1,none⟩) (Ne.symm Hv) (.int .i64 (e:Int)));have Bk:(r:Int)<(G.length:Int)+1:=o_
       clear xp cH Hd hW a_0 a_1;go_wp2;go_roundw
       case rel=>exact⟨r,by omega,by go_num,⟨_,Cu.out⟩,FO,C0.out,CT.out,by simpa using WJ⟩
       case measure=>simp[intOf]
     ·have mG:p=0:=o_
      subst mG;have FO:Hid (posN (bfD ns ls k d) G G.length=0):=h_ HP.out;clear nt;have xp:=cH.cell (q:=0) o_;obtain⟨z,hz⟩:∃z,wr.cell? ⟨gb,0,none⟩=some z:=⟨_,xp⟩;have fp:=cH.frz 0
      have Cu:Hid (OwnI (w.heap.size+1) (wr.setCell ⟨gb,0,none⟩ (.int .i64 (d:Int))) (.slice (some ⟨gb,0,none⟩) (G.length+1) cap) (natI (ardS ns ls k (d+1)))):=h_ (by
       rw[HS.out];unfold insN;rw[FO.out,<-xQ G 0 y d o_];exact cH.set_ 0 (d:Int))
      have CT:=h_ (Hd.setCell (p:=⟨gb,0,none⟩) (show w.heap.size<=gb by omega) (.int .i64 (d:Int)));have C0:=h_ (hW.far (p:=⟨gb,0,none⟩) (Ne.symm Hv) (.int .i64 (d:Int)));clear xp cH Hd hW a_0 a_1;go_wp2;go_roundw
      case rel=>exact⟨d+1,by omega,by go_num,Cu.out,C0.out,CT.out⟩
      case measure=>simp[intOf];omega
   ·have e1:(zd ls d != (k:Int))=true:=by simp[bF]
    have HS:Hid (ardS ns ls k (d+1)=ardS ns ls k d):=h_ (Qj bF);clear bF;go_wp2;go_roundw
    case rel=>exact⟨d+1,by omega,by go_num,by rw[HS.out];exact Hj,gc,Ha⟩
    case measure=>simp[intOf];omega
  ·have C1:d=2*ls.length:=o_
   subst C1;go_wp2;go_ret
   exact⟨_,rfl,ho.mono o_,Hd⟩
theorem ju {W:World} {v:Value} {t:TypeId} {g:Nat} (hg:g=W.heap.size):∀(j:Nat) (u:Value),[v][j]? =some u->(W.alloc (.cells #[v] t)).cell? ((⟨g,0,none⟩:Addr).add j)=some u:=by
 subst hg;exact cell_one_new _ _ _
def jR (ls:List Pr) (k:Int) (i:Nat):Bool:=(ndI ls i).1==k||(ndI ls i).2==k
theorem z2B {ls:List Pr} {k:Int} {i:Nat} (h:jR ls k i=false):¬(ndI ls i).1=k/\¬(ndI ls i).2=k:=by
 simpa[jR] using h
theorem Zr {ls:List Pr} {k:Int} {i:Nat} (h:jR ls k i=true) (h2:¬(ndI ls i).1=k):(ndI ls i).2=k:=by
 simpa[jR,h2] using h
def atN (ls:List Pr) (k:Int):Nat->List Nat
 |0=> []
 |i+1=>if jR ls k i then atN ls k i++[i] else atN ls k i
theorem JC {ls:List Pr} {k:Int} {i:Nat} (h:jR ls k i=true):atN ls k (i+1)=atN ls k i++[i]:=by simp[atN,h]
theorem z1w {ls:List Pr} {k:Int} {i:Nat} (h:jR ls k i=false):atN ls k (i+1)=atN ls k i:=by simp[atN,h]
theorem Jr (ls:List Pr) (k:Int):∀i,(atN ls k i).length <=i
 |0=>by simp[atN]
 |i+1=>by
  have:=Jr ls k i;unfold atN
  split<;>simp<;>omega
theorem qb (vn vl:Value) (ns ls:List Pr) (b:Bool) (w:World) (hn:RP w vn ns) (hl:RP w vl ls) (hb:winB ns ls=b):
  CB_ 87 #[.agg #[vn,vl]] w (.bool b):=by
 subst hb;exact z4a vn vl ns ls w hn hl
theorem zH (vn vl:Value) (ns ls:List Pr) (b:Bool) (w:World) (hn:RP w vn ns) (hl:RP w vl ls) (hb:winB ns ls=b):
  CB_ 118 #[.agg #[vn,vl]] w (.bool b):=by
 subst hb;exact z4j vn vl ns ls w hn hl
noncomputable def hasN (ns ls:List Pr) (k:Int):Bool:=winB ns ls&&inB k 0 ((ns.length:Int) -1)
theorem z1M (vn vl:Value) (ns ls:List Pr) (k:Int) (w:World) (hn:RP w vn ns) (hl:RP w vl ls):
  CB_ 250 #[.agg #[vn,vl],.int .i64 k] w (.bool (hasN ns ls k)):=by
 obtain⟨An,cn,rfl,FQ,GW,_⟩:=hn.formI;unfold maxLen at GW
 cases hw:winB ns ls
 ·have HR:Hid (hasN ns ls k=false):=h_ (by simp[hasN,hw])
  go_enter Tryz.func250,Tryz.ntmps250
  go_wp2_with fail
  refine(qb _ _ ns ls _ _ (hn.below bel_) (hl.below bel_) hw).mono ?_
  rintro e w1 ⟨rfl,Hb⟩;go_wp2;go_ret
  exact⟨z8 HR.out.symm,by exact bel_⟩
 ·have HR:Hid (hasN ns ls k=inB k 0 ((ns.length:Int) -1)):=h_ (by simp[hasN,hw])
  go_enter Tryz.func250,Tryz.ntmps250
  go_wp2_with fail
  refine(qb _ _ ns ls _ _ (hn.below bel_) (hl.below bel_) hw).mono ?_
  rintro e w1 ⟨rfl,Hb⟩;(have gl:=bcC Hb)
  go_wp2_with fail
  refine(yK _ _ _ _).mono ?_
  rintro e w' ⟨rfl,rfl⟩;rw[<-HR.out];go_wp2;go_ret
  exact⟨rfl,by exact bel_⟩
theorem xW (vn vl:Value) (ns ls:List Pr) (k:Int) (b:Bool) (w:World) (hn:RP w vn ns) (hl:RP w vl ls) (hb:hasN ns ls k=b):
  CB_ 250 #[.agg #[vn,vl],.int .i64 k] w (.bool b):=by
 subst hb;exact z1M vn vl ns ls k w hn hl
theorem xe (vn vl:Value) (ns ls:List Pr) (k:Int) (w:World) (hn:RP w vn ns) (hl:RP w vl ls) (hk:hasN ns ls k=true):
  Calls Tryz.prog 218 #[.agg #[vn,vl],.int .i64 k] w (RetI (natI (atN ls k ls.length)) w):=by
 have hW:zC ns ls:=by
  unfold hasN at hk;rw[aaG] at hk
  exact zu.1 hk.1
 have GN:=hW.2.2.1;obtain⟨Al,cl,rfl,Hz,GM,gg⟩:=hl.formI;obtain⟨i0,hi,iz0,iz1,iz2⟩:=info_parts qq;unfold maxLen at GM;clear hW
 go_enter Tryz.func218,Tryz.ntmps218
 go_wp2_with fail
 refine(xW _ _ ns ls _ _ _ (hn.below bel_) (hl.below bel_) hk).mono ?_
 rintro e w1 ⟨rfl,Hb⟩;have gc:Blk w1 w.heap.size 27 #[vn,.slice Al ls.length cl]:=Blk.below (Blk.newAt rfl) Hb sz_;have Ha:Below w.heap.size w w1:=bel_
 clear Hb;obtain⟨a_0,a_1⟩:=gc.c2;go_wp2
 go_loopw [5,15] (fun v i wr=>∃j:Nat,j<=ls.length/\i= .int .i64 j/\OwnI w.heap.size wr v (natI (atN ls k j))/\Below w.heap.size w wr) (fun _ i _=>ls.length -(intOf i).toNat)
 case atStart=>exact⟨0,aab _,rfl,OwnI.nil _ _,Ha⟩
 case round=>
  obtain⟨j,hj,rfl,ho,Hd⟩:=hrel;clear gc Ha a_0 a_1;have gI:=Hd.size
  by_cases Hf:j<ls.length
  ·obtain⟨b,off,rfl,hb,Gj⟩:=gg o_
   obtain⟨k0,k1⟩:=Gj j Hf;have q0:=(Hd.cell (p:=⟨b,off+j*2,none⟩) hb).trans k0;have q1:=(Hd.cell (p:=⟨b,off+j*2+1,none⟩) hb).trans k1;have Cz:(0:Int)<=(j:Int):=o_
   have CS:(j:Int)<(ls.length:Int):=o_
   have Hm:=Jr ls k j;have fQ:=za (atN ls k j);have HY:=h_ (fun h=>JC (ls:=ls) (k:=k) (i:=j) h);have HN:=h_ (fun h=>z1w (ls:=ls) (k:=k) (i:=j) h);generalize atN ls k j=G at*;have HL:=h_ fQ;clear fQ k0 k1 Gj gg;have hG:G.length<=20:=o_
   cases ht:jR ls k j
   ·have HS:=h_ (HN.out ht)
    obtain⟨e3,e4⟩:=z2B ht;have e1:((ndI ls j).1==k)=false:=beq_eq_false_iff_ne.2 e3;have e2:((ndI ls j).2==k)=false:=beq_eq_false_iff_ne.2 e4;clear ht;have HB:Hid (Below w.heap.size w (wr.alloc (.cells #[.int .i64 (ndI ls j).1,.int .i64 (ndI ls j).2] 108))):=h_ bel_;have HO:=h_ (ho.alloc (.cells #[.int .i64 (ndI ls j).1,.int .i64 (ndI ls j).2] 108));clear ho Hd;go_wp2;go_roundw
    case rel=>exact⟨j+1,by omega,by go_num,by rw[HS.out];exact HO.out,HB.out⟩
    case measure=>simp[intOf];omega
   ·have HS:=h_ (HY.out ht)
    have uh:=fun h=>Zr ht h
    clear ht;generalize (ndI ls j).1=L1 at*;generalize (ndI ls j).2=L2 at*
    by_cases e3:L1=k
    ·subst e3
     clear uh;have HB:Hid (Below w.heap.size w (wr.alloc (.cells #[.int .i64 L1,.int .i64 L2] 108))):=h_ bel_;have rv:=ho.alloc (.cells #[.int .i64 L1,.int .i64 L2] 108)
     go_wp2_with (at_builtin;refine wpList_append_own _ rfl _ _ 31 rfl w.heap.size 3 i0 (.int .i64 0) 1 8 Tryz.underlying31 hi iz0 iz1 iz2 rfl (by decide) _ _ _ rfl (World.ownsRow.alloc rv _) ⟨wr.heap.size+1,0,none⟩ 1 1 [.int .i64 _] rfl rfl (ju (by simp)) (by intro u hu;simp at hu;subst hu;rfl) (by rw[HL.out];unfold maxLen;omega) (by rw[HL.out];omega) (by simp;omega) ?_)
     intro v' w1 gZ gL _;have ui:Below w.heap.size w w1:=(HB.out.alloc (by simp;omega) _).grown gL (by simp;omega) (fun k hk=>(ho.lt k hk).1)
     have HO:OwnI w.heap.size w1 v' (natI (G++[j])):=by
      unfold natI;rw[aaz];exact OwnI.snoc gZ
     clear gZ gL ho rv Hd HB;go_wp2;go_roundw
     case rel=>exact⟨j+1,by omega,by go_num,by rw[HS.out];exact HO,ui⟩
     case measure=>simp[intOf];omega
    ·have e4:=uh e3
     have e1:(L1==k)=false:=beq_eq_false_iff_ne.2 e3;clear uh;subst e4;have HB:Hid (Below w.heap.size w (wr.alloc (.cells #[.int .i64 L1,.int .i64 L2] 108))):=h_ bel_;have rv:=ho.alloc (.cells #[.int .i64 L1,.int .i64 L2] 108)
     go_wp2_with (at_builtin;refine wpList_append_own _ rfl _ _ 31 rfl w.heap.size 3 i0 (.int .i64 0) 1 8 Tryz.underlying31 hi iz0 iz1 iz2 rfl (by decide) _ _ _ rfl (World.ownsRow.alloc rv _) ⟨wr.heap.size+1,0,none⟩ 1 1 [.int .i64 _] rfl rfl (ju (by simp)) (by intro u hu;simp at hu;subst hu;rfl) (by rw[HL.out];unfold maxLen;omega) (by rw[HL.out];omega) (by simp;omega) ?_)
     intro v' w1 gZ gL _;have ui:Below w.heap.size w w1:=(HB.out.alloc (by simp;omega) _).grown gL (by simp;omega) (fun k hk=>(ho.lt k hk).1)
     have HO:OwnI w.heap.size w1 v' (natI (G++[j])):=by
      unfold natI;rw[aaz];exact OwnI.snoc gZ
     clear gZ gL ho rv Hd HB;go_wp2;go_roundw
     case rel=>exact⟨j+1,by omega,by go_num,by rw[HS.out];exact HO,ui⟩
     case measure=>simp[intOf];omega
  ·have GS:j=ls.length:=o_
   subst GS;clear gg;go_wp2;go_ret
   exact⟨_,rfl,ho,Hd⟩
noncomputable def degI (ns ls:List Pr) (k:Int):Int:=if hasN ns ls k then((atN ls k ls.length).length :Int) else -1
theorem ZY (vn vl:Value) (ns ls:List Pr) (k:Int) (w:World) (hn:RP w vn ns) (hl:RP w vl ls):
  CB_ 248 #[.agg #[vn,vl],.int .i64 k] w (.int .i64 (degI ns ls k)):=by
 cases hk:hasN ns ls k
 ·have HR:Hid (degI ns ls k= -1):=h_ (by simp[degI,hk])
  go_enter Tryz.func248,Tryz.ntmps248
  go_wp2_with fail
  refine(xW _ _ ns ls _ _ _ (hn.below bel_) (hl.below bel_) hk).mono ?_
  rintro e w1 ⟨rfl,Hb⟩;go_wp2;go_ret
  exact⟨zi HR.out.symm,by exact bel_⟩
 ·have HR:Hid (degI ns ls k=((natI (atN ls k ls.length)).length :Int)):=h_ (by simp[degI,hk,za])
  go_enter Tryz.func248,Tryz.ntmps248
  go_wp2_with fail
  refine(xW _ _ ns ls _ _ _ (hn.below bel_) (hl.below bel_) hk).mono ?_
  rintro e w1 ⟨rfl,Hb⟩;(have gl:=bcC Hb);have H7:=Hb.size;(try simp at H7)
  have Ha:Below w.heap.size w w1:=bel_
  go_wp2_with fail
  refine(xe _ _ ns ls _ _ (hn.below Ha) (hl.below Ha) hk).mono ?_
  rintro e w2 ⟨v2,rfl,Hn,Hh⟩;obtain⟨A2,c2,rfl⟩:=Hn.form;have Hc:Below w.heap.size w w2:=bel_
  go_wp2;go_ret
  exact⟨zi HR.out.symm,Hc⟩
attribute [local go_sem ↓] zr zq zU zT
def zI (ns ls:List (Int×Int)) (b:Bool) (w:World) (e:Ending) (w':World):Prop:=∃An cn Al cl,e= .returned (.tuple #[.agg #[.slice An ns.length cn,.slice Al ls.length cl],.bool b])/\
 OwnW w.heap.size w' (.slice An ns.length cn) (.slice Al ls.length cl) ns ls/\Below w.heap.size w w'
theorem Blk.grownR {w w':World} {b:Nat} {t:TypeId} {cs:Array Value} {row:Option Nat} (h:Blk w b t cs) (hg:w.grownBy w' row) (hr:∀k,row=some k->¬k=b):Blk w' b t cs:=
 (hg.block b h.lt (fun e=>hr b e.symm rfl)).trans h
theorem OwnW.far {base:Nat} {w w':World} {vn vl:Value} {ns ls:List (Int×Int)} {row:Option Nat} (h:OwnW base w vn vl ns ls) (hg:w.grownBy w' row) (hr:∀k,row=some k->k<base):OwnW base w' vn vl ns ls:=
 ⟨h.1.far hg hr,h.2.1.far hg hr,h.2.2⟩
theorem OwnW.apart {base:Nat} {w w':World} {vn vl:Value} {ns ls:List (Int×Int)} {row:Option Nat} (h:OwnW base w vn vl ns ls) (hg:w.grownBy w' row) (hr:∀k,zp vn vl k->row=some k->False):OwnW base w' vn vl ns ls:=
 ⟨h.1.apart hg (fun k hk=>hr k (.inl hk)),h.2.1.apart hg (fun k hk=>hr k (.inr hk)),h.2.2⟩
theorem OwnW.setLow {base:Nat} {w:World} {vn vl:Value} {ns ls:List (Int×Int)} (h:OwnW base w vn vl ns ls) {p:Addr} (hp:p.block<base) (u:Value):OwnW base (w.setCell p u) vn vl ns ls:=
 ⟨h.1.setLow hp u,h.2.1.setLow hp u,h.2.2⟩
theorem OwnW.alloc {base:Nat} {w:World} {vn vl:Value} {ns ls:List (Int×Int)} (h:OwnW base w vn vl ns ls) (o:Obj):OwnW base (w.alloc o) vn vl ns ls:=⟨h.1.alloc o,h.2.1.alloc o,h.2.2⟩
theorem OwnW.setFar {base:Nat} {w:World} {vn vl:Value} {ns ls:List (Int×Int)} (h:OwnW base w vn vl ns ls) {p:Addr} (hp:¬zp vn vl p.block) (u:Value):OwnW base (w.setCell p u) vn vl ns ls:=
 h.apart (jq w p u) (fun k hk e=>by cases e;exact hp hk)
theorem zI.mk {ns ls:List (Int×Int)} {b:Bool} {w w':World} {e:Ending} {An Al:Option Addr} {n m cn cl:Nat} (he:e= .returned (.tuple #[.agg #[.slice An n cn,.slice Al m cl],.bool b])) (hn:n=ns.length) (hm:m=ls.length)
  (ho:OwnW w.heap.size w' (.slice An n cn) (.slice Al m cl) ns ls) (hb:Below w.heap.size w w'):zI ns ls b w e w':=by
 subst hn hm;exact⟨_,_,_,_,he,ho,hb⟩
noncomputable def addB (ns ls:List Pr) (a b:Int):Bool:=winB ns ls&&winB ns (ls++[(mn2 a b,mx2 a b)])
noncomputable def addL (ns ls:List Pr) (a b:Int):List Pr:=if addB ns ls a b then ls++[(mn2 a b,mx2 a b)] else ls
theorem z8C (vn vl:Value) (ns ls:List Pr) (a b:Int) (w:World) (hn:RP w vn ns) (hl:RP w vl ls) (h1:ns.length<=1048576) (h2:ls.length<=1048576) (hw:winB ns ls=false):
  Calls Tryz.prog 161 #[.agg #[vn,vl],.int .i64 a,.int .i64 b] w (zI ns ls false w):=by
 go_enter Tryz.func161,Tryz.ntmps161
 go_wp2_with fail
 refine(qt _ _ ns ls _ (hn.below bel_) (hl.below bel_) h1 h2).mono ?_
 rintro e w1 ⟨An1,cn1,Al1,cl1,rfl,Hj,Hb⟩;have H7:=Hb.size;simp at H7
 have gd:OwnW (w.heap.size+1+1) w1 (.slice An1 ns.length cn1) (.slice Al1 ls.length cl1) ns ls:=by simpa using Hj
 have GT:Blk w1 w.heap.size 27 #[vn,vl]:=Blk.below ((Blk.newAt rfl).alloc _) Hb sz_;have H6:Blk w1 (w.heap.size+1) 27 #[.slice none 0 0,.slice none 0 0]:=Blk.below (Blk.newAt (by simp)) Hb sz_;have Ha:Below w.heap.size w w1:=bel_
 have n1:w.heap.size<w1.heap.size:=o_
 have n2:w.heap.size+1<w1.heap.size:=o_
 obtain⟨a_0,a_1⟩:=GT.c2;have hbs:Below w1.heap.size w1 (w1.alloc (.cells #[.slice An1 ns.length cn1,.slice Al1 ls.length cl1] 27)):=bel_
 have Gw:Below w.heap.size w (w1.alloc (.cells #[.slice An1 ns.length cn1,.slice Al1 ls.length cl1] 27)):=bel_
 go_wp2_with fail
 refine(qb _ _ ns ls _ _ (hn.below Gw) (hl.below Gw) hw).mono ?_
 rintro e w2 ⟨rfl,Hh⟩;have gG:Below w1.heap.size w1 w2:=hbs.trans (Hh.mono hbs.size);have fT:Blk w2 w1.heap.size 27 #[.slice An1 ns.length cn1,.slice Al1 ls.length cl1]:=Blk.below (Blk.newAt rfl) Hh sz_;have go:=H6.below gG n2;have Hn:=gd.kept gG;have Hc:Below w.heap.size w w2:=Ha.trans (gG.mono Ha.size);obtain⟨s_0,s_1,s_f0,s_f1⟩:=fT.b2;obtain⟨r_0,r_1,r_f0,r_f1⟩:=go.b2;have hO:=h_ (((Hn.setLow (p:=⟨w.heap.size+1,0,none⟩) sz_ (.slice An1 ns.length cn1)).setLow (p:=⟨w.heap.size+1,1,none⟩) sz_ (.slice Al1 ls.length cl1)).mono (show w.heap.size<=_ by omega));have HB:=h_ ((Hc.setCell (p:=⟨w.heap.size+1,0,none⟩) sz_ (.slice An1 ns.length cn1)).setCell (p:=⟨w.heap.size+1,1,none⟩) sz_ (.slice Al1 ls.length cl1));generalize w1.heap.size=B1 at*;go_wp2;exact bodyPost_ret (v:= .tuple #[.agg #[.slice An1 ns.length cn1,.slice Al1 ls.length cl1],.bool false]) (by simp[results,Tryz.results161,go_sem,r_0,r_1,s_0,s_1]) rfl ⟨_,_,_,_,rfl,hO.out,HB.out⟩
theorem yV {A:Option Addr} {n c:Nat} {v:Value} {h:Nat} (e:(Value.slice A n c).ownBlock =v.ownBlock∨(Value.slice A n c).ownBlock =some h) {k:Nat} (hk:(Value.slice A n c).ownBlock =some k):v.ownBlock=some k∨k=h:=by
 rcases e with e|e
 ·exact .inl (e.symm.trans hk)
 ·exact .inr (by have:=e.symm.trans hk;cases this;rfl)
theorem Xs (vn vl:Value) (ns ls:List Pr) (a b:Int) (w:World) (hn:RP w vn ns) (hl:RP w vl ls) (h1:ns.length<=1048576) (h2:ls.length<=1048576) (hw:winB ns ls=true) (hE:winB ns (ls++[(mn2 a b,mx2 a b)])=true):
  Calls Tryz.prog 161 #[.agg #[vn,vl],.int .i64 a,.int .i64 b] w (zI ns (ls++[(mn2 a b,mx2 a b)]) true w):=by
 obtain⟨j0,hj,jz0,jz1,jz2⟩:=info_parts jd
 go_enter Tryz.func161,Tryz.ntmps161
 go_wp2_with fail
 refine(qt _ _ ns ls _ (hn.below bel_) (hl.below bel_) h1 h2).mono ?_
 rintro e w1 ⟨An1,cn1,Al1,cl1,rfl,Hj,Hb⟩;have H7:=Hb.size;simp at H7
 have gd:OwnW (w.heap.size+1+1) w1 (.slice An1 ns.length cn1) (.slice Al1 ls.length cl1) ns ls:=by simpa using Hj
 have Hu:=gd.lt;have GT:Blk w1 w.heap.size 27 #[vn,vl]:=Blk.below ((Blk.newAt rfl).alloc _) Hb sz_;have H6:Blk w1 (w.heap.size+1) 27 #[.slice none 0 0,.slice none 0 0]:=Blk.below (Blk.newAt (by simp)) Hb sz_;have Ha:Below w.heap.size w w1:=bel_
 have n1:w.heap.size<w1.heap.size:=o_
 have n2:w.heap.size+1<w1.heap.size:=o_
 obtain⟨a_0,a_1⟩:=GT.c2;have hbs:Below w1.heap.size w1 (w1.alloc (.cells #[.slice An1 ns.length cn1,.slice Al1 ls.length cl1] 27)):=bel_
 have Gw:Below w.heap.size w (w1.alloc (.cells #[.slice An1 ns.length cn1,.slice Al1 ls.length cl1] 27)):=bel_
 go_wp2_with fail
 refine(qb _ _ ns ls _ _ (hn.below Gw) (hl.below Gw) hw).mono ?_
 rintro e w2 ⟨rfl,Hh⟩;have Gp:=Hh.size;(try simp at Gp);(try have Gc:=p0_ w w2);(try have Gd:=p1_ w w2);(try have fu:=p2_ w w2)
 have gG:Below w1.heap.size w1 w2:=hbs.trans (Hh.mono hbs.size);have fT:Blk w2 w1.heap.size 27 #[.slice An1 ns.length cn1,.slice Al1 ls.length cl1]:=Blk.below (Blk.newAt rfl) Hh sz_;have FA:=GT.below gG n1;have go:=H6.below gG n2;have Hn:=gd.kept gG;have Hc:Below w.heap.size w w2:=Ha.trans (gG.mono Ha.size);have n3:w1.heap.size<w2.heap.size:=fT.lt;obtain⟨a_0,a_1⟩:=FA.c2
 go_wp2_with fail
 refine(qt _ _ ns ls _ (hn.below Hc) (hl.below Hc) h1 h2).mono ?_
 rintro e w3 ⟨An3,cn3,Al3,cl3,rfl,Hq,Hg⟩;have fC:=Hg.size;have gj:=Hq.lt;have Ga:=go.below Hg go.lt;have F5:=fT.below Hg n3;have uj:=Hn.kept Hg;have He:Below w.heap.size w w3:=Hc.trans (Hg.mono Hc.size)
 go_wp2_with (at_builtin;refine zj rfl _ _ _ rfl w2.heap.size 108 j0 Tryz.underlying25 hj jz0 jz1 jz2 (.slice Al3 ls.length cl3) _ ls [(mn2 a b,mx2 a b)] rfl rfl ((Hq.2.1.alloc _).alloc _) (j6 (by simp) rfl rfl rfl (by simp[maxLen])) (by simp;omega) (by simp;omega) ?_)
 intro A4 c4 w4 gz Gf C2;have Hw:∀k,(Value.slice Al3 ls.length cl3).ownBlock =some k->w2.heap.size<=k/\k<w3.heap.size:=fun k hk=>gj k (.inr hk)
 have GY:=((Ga.alloc (.cells #[.slice An3 ns.length cn3,.slice Al3 ls.length cl3] 27)).alloc _).grownR Gf (fun k hk=>by have:=(Hw k hk).1;omega);have mp:=((F5.alloc (.cells #[.slice An3 ns.length cn3,.slice Al3 ls.length cl3] 27)).alloc _).grownR Gf (fun k hk=>by have:=(Hw k hk).1;omega);have BF:Blk w4 w3.heap.size 27 #[.slice An3 ns.length cn3,.slice Al3 ls.length cl3]:=((Blk.newAt rfl).alloc _).grownR Gf (fun k hk=>by have:=(Hw k hk).2;omega);have um:=((uj.alloc (.cells #[.slice An3 ns.length cn3,.slice Al3 ls.length cl3] 27)).alloc _).apart Gf (fun k hk gU=>by have:=(Hw k gU).1;have:=(Hu k hk).2;omega);have cI:=((Hq.1.alloc (.cells #[.slice An3 ns.length cn3,.slice Al3 ls.length cl3] 27)).alloc _).apart Gf (fun k hk gU=>Hq.2.2 k hk gU)
 have Fv:∀k,(Value.slice A4 (ls.length+1) c4).ownBlock =some k->(w2.heap.size<=k/\k<w3.heap.size)∨k=w3.heap.size+1+1:=by
  intro k hk
  rcases yV C2 hk with h|h
  ·exact .inl (Hw k h)
  ·exact .inr (by simpa using h)
 have CC:∀k,(Value.slice An3 ns.length cn3).ownBlock =some k->(Value.slice A4 (ls.length+1) c4).ownBlock =some k->False:=by
  intro k hk gU
  rcases yV C2 gU with h|h
  ·exact Hq.2.2 k hk h
  ·have h':k=w3.heap.size+1+1:=by simpa using h
   have:=(gj k (.inl hk)).2;omega
 have fG:OwnW w2.heap.size w4 (.slice An3 ns.length cn3) (.slice A4 (ls.length+1) c4) ns (ls++[(mn2 a b,mx2 a b)]):=⟨cI,gz,CC⟩;have Ho:Below w.heap.size w w4:=((He.alloc o_ _).alloc sz_ _).grown Gf sz_ (fun k hk=>by have:=(Hw k hk).1;omega)
 have Fj:=fG.setFar (p:=⟨w3.heap.size,1,none⟩) (by
  rintro(h|h)
  ·have:=(gj _ (.inl h)).2
   exact absurd this (aaV _)
  ·rcases Fv _ h with h'|h'
   ·exact absurd h'.2 (aaV _)
   ·have h'':w3.heap.size=w3.heap.size+1+1:=h'
    omega) (.slice A4 (ls.length+1) c4)
 have WK:=um.setFar (p:=⟨w3.heap.size,1,none⟩) (by
  intro h;have:=(Hu _ h).2;have h':w3.heap.size<w1.heap.size:=this;omega) (.slice A4 (ls.length+1) c4)
 have FP:Blk (w4.setCell ⟨w3.heap.size,1,none⟩ (.slice A4 (ls.length+1) c4)) w3.heap.size 27 #[.slice An3 ns.length cn3,.slice A4 (ls.length+1) c4]:=BF.set_ 1 _;have fJ:=GY.far (p:=⟨w3.heap.size,1,none⟩) (show ¬w.heap.size+1=w3.heap.size by omega) (.slice A4 (ls.length+1) c4);have Mx:=mp.far (p:=⟨w3.heap.size,1,none⟩) (show ¬w1.heap.size=w3.heap.size by omega) (.slice A4 (ls.length+1) c4);have H8:Below w.heap.size w (w4.setCell ⟨w3.heap.size,1,none⟩ (.slice A4 (ls.length+1) c4)):=Ho.setCell (p:=⟨w3.heap.size,1,none⟩) (show w.heap.size<=w3.heap.size by omega) _;obtain⟨t_0,t_1,t_f0,t_f1⟩:=BF.b2;have fQ:=FP.cell 0;have bT:=FP.cell 1;simp only[abd,aah,aag] at fQ bT
 have FR:(w4.setCell ⟨w3.heap.size,1,none⟩ (.slice A4 (ls.length+1) c4)).heap.size =w4.heap.size:=by simp[World.setCell]
 have Hm:(ls++[(mn2 a b,mx2 a b)]).length =ls.length+1:=by simp
 generalize hL:ls++[(mn2 a b,mx2 a b)]=LL at*
 go_wp2_with fail
 refine(qb _ _ ns LL _ _ Fj.1.reads Fj.2.1.reads hE).mono ?_
 rintro e w6 ⟨rfl,gJ⟩;have CU:=gJ.size;have Fg:=fJ.below gJ fJ.lt;have Rr:=Mx.below gJ Mx.lt;have bU:=FP.below gJ FP.lt;have CD:=Fj.kept gJ;have Gi:Below w.heap.size w w6:=H8.trans (gJ.mono H8.size);obtain⟨r_0,r_1,r_f0,r_f1⟩:=Fg.b2;obtain⟨s_0,s_1,s_f0,s_f1⟩:=Rr.b2;obtain⟨t_0,t_1,t_f0,t_f1⟩:=bU.b2;rw[FR] at CU;have hO:=h_ (((CD.setLow (p:=⟨w.heap.size+1,0,none⟩) (show w.heap.size+1<w2.heap.size by omega) (.slice An3 ns.length cn3)).setLow (p:=⟨w.heap.size+1,1,none⟩) (show w.heap.size+1<w2.heap.size by omega) (.slice A4 (ls.length+1) c4)).mono (show w.heap.size<=_ by omega));have HB:=h_ ((Gi.setCell (p:=⟨w.heap.size+1,0,none⟩) sz_ (.slice An3 ns.length cn3)).setCell (p:=⟨w.heap.size+1,1,none⟩) sz_ (.slice A4 (ls.length+1) c4));generalize w1.heap.size=B1 at*;generalize w3.heap.size=B3 at*;go_wp2;exact bodyPost_ret (v:= .tuple #[.agg #[.slice An3 ns.length cn3,.slice A4 (ls.length+1) c4],.bool true]) (by simp[results,Tryz.results161,go_sem,r_0,r_1,t_0,t_1]) rfl (zI.mk rfl rfl Hm.symm hO.out HB.out)
theorem Xj (vn vl:Value) (ns ls:List Pr) (a b:Int) (w:World) (hn:RP w vn ns) (hl:RP w vl ls) (h1:ns.length<=1048576) (h2:ls.length<=1048576) (hw:winB ns ls=true) (hE:winB ns (ls++[(mn2 a b,mx2 a b)])=false):
  Calls Tryz.prog 161 #[.agg #[vn,vl],.int .i64 a,.int .i64 b] w (zI ns ls false w):=by
 obtain⟨j0,hj,jz0,jz1,jz2⟩:=info_parts jd
 go_enter Tryz.func161,Tryz.ntmps161
 go_wp2_with fail
 refine(qt _ _ ns ls _ (hn.below bel_) (hl.below bel_) h1 h2).mono ?_
 rintro e w1 ⟨An1,cn1,Al1,cl1,rfl,Hj,Hb⟩;have H7:=Hb.size;simp at H7
 have gd:OwnW (w.heap.size+1+1) w1 (.slice An1 ns.length cn1) (.slice Al1 ls.length cl1) ns ls:=by simpa using Hj
 have Hu:=gd.lt;have GT:Blk w1 w.heap.size 27 #[vn,vl]:=Blk.below ((Blk.newAt rfl).alloc _) Hb sz_;have H6:Blk w1 (w.heap.size+1) 27 #[.slice none 0 0,.slice none 0 0]:=Blk.below (Blk.newAt (by simp)) Hb sz_;have Ha:Below w.heap.size w w1:=bel_
 have n1:w.heap.size<w1.heap.size:=o_
 have n2:w.heap.size+1<w1.heap.size:=o_
 obtain⟨a_0,a_1⟩:=GT.c2;have hbs:Below w1.heap.size w1 (w1.alloc (.cells #[.slice An1 ns.length cn1,.slice Al1 ls.length cl1] 27)):=bel_
 have Gw:Below w.heap.size w (w1.alloc (.cells #[.slice An1 ns.length cn1,.slice Al1 ls.length cl1] 27)):=bel_
 go_wp2_with fail
 refine(qb _ _ ns ls _ _ (hn.below Gw) (hl.below Gw) hw).mono ?_
 rintro e w2 ⟨rfl,Hh⟩;have Gp:=Hh.size;(try simp at Gp);(try have Gc:=p0_ w w2);(try have Gd:=p1_ w w2);(try have fu:=p2_ w w2)
 have gG:Below w1.heap.size w1 w2:=hbs.trans (Hh.mono hbs.size);have fT:Blk w2 w1.heap.size 27 #[.slice An1 ns.length cn1,.slice Al1 ls.length cl1]:=Blk.below (Blk.newAt rfl) Hh sz_;have FA:=GT.below gG n1;have go:=H6.below gG n2;have Hn:=gd.kept gG;have Hc:Below w.heap.size w w2:=Ha.trans (gG.mono Ha.size);have n3:w1.heap.size<w2.heap.size:=fT.lt;obtain⟨a_0,a_1⟩:=FA.c2
 go_wp2_with fail
 refine(qt _ _ ns ls _ (hn.below Hc) (hl.below Hc) h1 h2).mono ?_
 rintro e w3 ⟨An3,cn3,Al3,cl3,rfl,Hq,Hg⟩;have fC:=Hg.size;have gj:=Hq.lt;have Ga:=go.below Hg go.lt;have F5:=fT.below Hg n3;have uj:=Hn.kept Hg;have He:Below w.heap.size w w3:=Hc.trans (Hg.mono Hc.size)
 go_wp2_with (at_builtin;refine zj rfl _ _ _ rfl w2.heap.size 108 j0 Tryz.underlying25 hj jz0 jz1 jz2 (.slice Al3 ls.length cl3) _ ls [(mn2 a b,mx2 a b)] rfl rfl ((Hq.2.1.alloc _).alloc _) (j6 (by simp) rfl rfl rfl (by simp[maxLen])) (by simp;omega) (by simp;omega) ?_)
 intro A4 c4 w4 gz Gf C2;have Hw:∀k,(Value.slice Al3 ls.length cl3).ownBlock =some k->w2.heap.size<=k/\k<w3.heap.size:=fun k hk=>gj k (.inr hk)
 have GY:=((Ga.alloc (.cells #[.slice An3 ns.length cn3,.slice Al3 ls.length cl3] 27)).alloc _).grownR Gf (fun k hk=>by have:=(Hw k hk).1;omega);have mp:=((F5.alloc (.cells #[.slice An3 ns.length cn3,.slice Al3 ls.length cl3] 27)).alloc _).grownR Gf (fun k hk=>by have:=(Hw k hk).1;omega);have BF:Blk w4 w3.heap.size 27 #[.slice An3 ns.length cn3,.slice Al3 ls.length cl3]:=((Blk.newAt rfl).alloc _).grownR Gf (fun k hk=>by have:=(Hw k hk).2;omega);have um:=((uj.alloc (.cells #[.slice An3 ns.length cn3,.slice Al3 ls.length cl3] 27)).alloc _).apart Gf (fun k hk gU=>by have:=(Hw k gU).1;have:=(Hu k hk).2;omega);have cI:=((Hq.1.alloc (.cells #[.slice An3 ns.length cn3,.slice Al3 ls.length cl3] 27)).alloc _).apart Gf (fun k hk gU=>Hq.2.2 k hk gU)
 have Fv:∀k,(Value.slice A4 (ls.length+1) c4).ownBlock =some k->(w2.heap.size<=k/\k<w3.heap.size)∨k=w3.heap.size+1+1:=by
  intro k hk
  rcases yV C2 hk with h|h
  ·exact .inl (Hw k h)
  ·exact .inr (by simpa using h)
 have CC:∀k,(Value.slice An3 ns.length cn3).ownBlock =some k->(Value.slice A4 (ls.length+1) c4).ownBlock =some k->False:=by
  intro k hk gU
  rcases yV C2 gU with h|h
  ·exact Hq.2.2 k hk h
  ·have h':k=w3.heap.size+1+1:=by simpa using h
   have:=(gj k (.inl hk)).2;omega
 have fG:OwnW w2.heap.size w4 (.slice An3 ns.length cn3) (.slice A4 (ls.length+1) c4) ns (ls++[(mn2 a b,mx2 a b)]):=⟨cI,gz,CC⟩;have Ho:Below w.heap.size w w4:=((He.alloc o_ _).alloc sz_ _).grown Gf sz_ (fun k hk=>by have:=(Hw k hk).1;omega)
 have Fj:=fG.setFar (p:=⟨w3.heap.size,1,none⟩) (by
  rintro(h|h)
  ·have:=(gj _ (.inl h)).2
   exact absurd this (aaV _)
  ·rcases Fv _ h with h'|h'
   ·exact absurd h'.2 (aaV _)
   ·have h'':w3.heap.size=w3.heap.size+1+1:=h'
    omega) (.slice A4 (ls.length+1) c4)
 have WK:=um.setFar (p:=⟨w3.heap.size,1,none⟩) (by
  intro h;have:=(Hu _ h).2;have h':w3.heap.size<w1.heap.size:=this;omega) (.slice A4 (ls.length+1) c4)
 have FP:Blk (w4.setCell ⟨w3.heap.size,1,none⟩ (.slice A4 (ls.length+1) c4)) w3.heap.size 27 #[.slice An3 ns.length cn3,.slice A4 (ls.length+1) c4]:=BF.set_ 1 _;have fJ:=GY.far (p:=⟨w3.heap.size,1,none⟩) (show ¬w.heap.size+1=w3.heap.size by omega) (.slice A4 (ls.length+1) c4);have Mx:=mp.far (p:=⟨w3.heap.size,1,none⟩) (show ¬w1.heap.size=w3.heap.size by omega) (.slice A4 (ls.length+1) c4);have H8:Below w.heap.size w (w4.setCell ⟨w3.heap.size,1,none⟩ (.slice A4 (ls.length+1) c4)):=Ho.setCell (p:=⟨w3.heap.size,1,none⟩) (show w.heap.size<=w3.heap.size by omega) _;obtain⟨t_0,t_1,t_f0,t_f1⟩:=BF.b2;have fQ:=FP.cell 0;have bT:=FP.cell 1;simp only[abd,aah,aag] at fQ bT
 have FR:(w4.setCell ⟨w3.heap.size,1,none⟩ (.slice A4 (ls.length+1) c4)).heap.size =w4.heap.size:=by simp[World.setCell]
 generalize hL:ls++[(mn2 a b,mx2 a b)]=LL at*
 go_wp2_with fail
 refine(qb _ _ ns LL _ _ Fj.1.reads Fj.2.1.reads hE).mono ?_
 rintro e w6 ⟨rfl,gJ⟩;have CU:=gJ.size;have Fg:=fJ.below gJ fJ.lt;have Rr:=Mx.below gJ Mx.lt;have bU:=FP.below gJ FP.lt;have ho26:=WK.kept gJ;have Gi:Below w.heap.size w w6:=H8.trans (gJ.mono H8.size);obtain⟨r_0,r_1,r_f0,r_f1⟩:=Fg.b2;obtain⟨s_0,s_1,s_f0,s_f1⟩:=Rr.b2;obtain⟨t_0,t_1,t_f0,t_f1⟩:=bU.b2;rw[FR] at CU;have hO:=h_ (((ho26.setLow (p:=⟨w.heap.size+1,0,none⟩) (show w.heap.size+1<w.heap.size+1+1 by omega) (.slice An1 ns.length cn1)).setLow (p:=⟨w.heap.size+1,1,none⟩) (show w.heap.size+1<w.heap.size+1+1 by omega) (.slice Al1 ls.length cl1)).mono (show w.heap.size<=_ by omega));have HB:=h_ ((Gi.setCell (p:=⟨w.heap.size+1,0,none⟩) sz_ (.slice An1 ns.length cn1)).setCell (p:=⟨w.heap.size+1,1,none⟩) sz_ (.slice Al1 ls.length cl1));generalize w1.heap.size=B1 at*;generalize w3.heap.size=B3 at*;go_wp2;exact bodyPost_ret (v:= .tuple #[.agg #[.slice An1 ns.length cn1,.slice Al1 ls.length cl1],.bool false]) (by simp[results,Tryz.results161,go_sem,r_0,r_1,s_0,s_1]) rfl (zI.mk rfl rfl rfl hO.out HB.out)
end Go.Proofs.YtnjcpljhmhdhkaaGreat
