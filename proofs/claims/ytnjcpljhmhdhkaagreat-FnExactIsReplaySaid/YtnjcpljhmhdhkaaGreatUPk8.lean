/- part 8 -/
import Derived.Test.YtnjcpljhmhdhkaaGreatUPk7
set_option linter.unusedSimpArgs false
set_option linter.unusedVariables false
set_option maxRecDepth 100000
set_option maxHeartbeats 8000000
namespace Go.Proofs.YtnjcpljhmhdhkaaGreat
open Go.RowKit
theorem z88 {s m i:Nat} (hm:i<=m) (h:s/2^i=0):memS s m=memS s i:=by
 have hp:0<2^i:=Nat.two_pow_pos i
 have Hd:s<2^i:=by
  rcases abk s (2^i) with h1|h1
  ·exact h1
  ·have:=Nat.div_pos h1 hp
   omega
 have:=z16 Hd (m -i);rw[show i+(m -i)=m by omega] at this;exact this
theorem shl64 {k:Nat} (hk:k<62):wrap64 ((2:Int)^k)=((2^k:Nat):Int):=by
 have h:=z9C hk;rw[Int.one_mul] at h;have e:wrap64 ((2:Int)^k)=IntKind.i64.wrap ((2:Int)^k):=(IntWalk.i64_left _).symm;rw[e];exact h
theorem z9E {s:Nat} {l:Pr} {p q:Nat} (h1:l.1=p) (h2:l.2=q) (hb:(s.testBit p||s.testBit q)=false):addS s l=s:=by
 unfold addS;rw[h1,h2,aa6,aa6,hb];rfl
theorem z86 {s:Nat} {l:Pr} {p q:Nat} (h1:l.1=p) (h2:l.2=q) (hb:(s.testBit p||s.testBit q)=true):addS s l=s ||| (2^p ||| 2^q):=by
 unfold addS;rw[h1,h2,aa6,aa6,hb];rfl
theorem z2P (t:Nat) {ls:List Pr} {i:Nat} (h:i<ls.length):qh t (ls.take (i+1))=addS (qh t (ls.take i)) (ndI ls i):=by
 rw[aax h,kw,qd ls i h];rfl
theorem z8B {s m:Nat} (h:s<2^m):s/2^m=0:=Nat.div_eq_of_lt h
theorem Zs (s m:Nat) (w:World) (hs:s<2^m) (hm:m<=40):
  Calls Tryz.prog 207 #[.int .i64 s] w (RetI (natI (memS s m)) w):=by
 obtain⟨i0,hi,iz0,iz1,iz2⟩:=info_parts ql;have hs62:s<2^62:=aaE hs (aaF o_ o_);have HB:=h_ (fun k=>Zo (k:=k) hs62);have HD:=h_ (z8B hs);have Ye:=h_ (fun i (h1:i<=m) h2=>z88 (s:=s) h1 h2);have HY:=h_ (fun i h=>qO (s:=s) (m:=i) h);have HN:=h_ (fun i h=>jw (s:=s) (m:=i) h);have HL:=h_ (fun i=>z2l s i);clear hs
 go_enter Tryz.func207,Tryz.ntmps207
 go_wp2
 go_loopw [3,4] (fun v x wr=>∃i:Nat,i<=m/\x= .int .i64 i/\OwnI w.heap.size wr v (natI (memS s i))/\Below w.heap.size w wr) (fun _ x _=>m -(intOf x).toNat)
 case atStart=>exact⟨0,aab _,rfl,OwnI.nil _ _,by exact bel_⟩
 case round=>
  obtain⟨i,him,rfl,ho,Hb⟩:=hrel;have gj:=Hb.size;have UX:=HB.out i;have HLI:=HL.out i;have h0:i<64:=o_
  have HZ:Hid ((0:Int)<(s:Int)/2^i↔s/2^i≠0):=h_ (by
   have e:((s:Int)/2^i)=((s/2^i:Nat):Int):=by(rw[Int.natCast_ediv];rfl)
   rw[e];generalize s/2^i=q;omega)
  by_cases hz:(0:Int)<(s:Int)/2^i
  ·have gr:=HZ.out.1 hz
   have him2:i<m:=by
    rcases abk i m with h|h
    ·exact h
    ·have:i=m:=o_
     subst this;exact absurd HD.out gr
   clear gr
   cases hb:s.testBit i
   ·rw[hb] at UX
    have hbt':bits .and .i64 ((s:Int)/2^i) 1=0:=UX;have HS:=h_ (HN.out i hb);clear hb UX;go_wp2;go_roundw
    case rel=>exact⟨i+1,by omega,by go_num,by rw[HS.out];exact ho,Hb⟩
    case measure=>simp[intOf];omega
   ·rw[hb] at UX
    have hbt':bits .and .i64 ((s:Int)/2^i) 1=1:=UX;have HS:Hid (natI (memS s (i+1))=natI (memS s i)++[(i:Int)]):=h_ (by rw[HY.out i hb];simp[natI]);have cm:=h_ (za (memS s i));clear hb UX;generalize memS s i=G at*
    go_wp2_with (at_builtin;refine wpList_append_own _ rfl _ _ 31 rfl (w.heap.size) 3 i0 (.int .i64 0) 1 8 Tryz.underlying31 hi iz0 iz1 iz2 rfl (by decide) _ _ _ rfl (World.ownsRow.alloc ho _) ⟨wr.heap.size,0,none⟩ 1 1 [.int .i64 _] rfl rfl (jl (by simp)) (by intro u hu;simp at hu;subst hu;rfl) (by rw[cm.out];unfold maxLen;omega) (by rw[cm.out];omega) (by simp;omega) ?_)
    intro v2 w2 fo Gr Gv;have gn:Below w.heap.size w w2:=(Hb.alloc gj (.cells #[.int .i64 (i:Int)] 3)).grown Gr (by simp;omega) (fun k hk=>(ho.lt k hk).1);have HO:=h_ (OwnI.snoc fo);clear fo Gr ho Hb Gv;go_wp2;go_roundw
    case rel=>exact⟨i+1,by omega,by go_num,by rw[HS.out];exact HO.out,gn⟩
    case measure=>simp[intOf];omega
  ·have h2:s/2^i=0:=by
    apply abl
    intro h;exact hz (HZ.out.2 h)
   have HR:=h_ (Ye.out i him h2);clear h2 UX;go_wp2;go_ret
   exact⟨_,rfl,by rw[HR.out];exact ho,Hb⟩
theorem Ju (vn vl:Value) (ns ls:List Pr) (k:Nat) (w:World) (hn:RP w vn ns) (hl:RP w vl ls) (hk:k<ns.length) (ck:ns.length<=12) (GW:ls.length<=20) (Hu:∀j:Nat,j<ls.length->zp ns (ndI ls j)=true):
  Calls Tryz.prog 144 #[.agg #[vn,vl],.int .i64 k] w (RetI (natI (memS (zt (2^k) ls ns.length) ns.length)) w):=by
 obtain⟨An,cn,rfl,ci,fC,_⟩:=hn.formI;obtain⟨Al,cl,rfl,Ho,GO,hcell⟩:=hl.formI;unfold maxLen at fC GO
 have bk:∀l∈ls,l.1.toNat <ns.length/\l.2.toNat <ns.length:=by
  intro l hm;obtain⟨j,hj,e⟩:=abb hm;obtain⟨h1,h2,h3,_⟩:=q9.1 (Hu j hj);rw[qd ls j hj,e] at h1 h2 h3;omega
 have h2k:2^k<2^ns.length:=aa4 o_ hk;have F0:=h_ (fun j=>x6 (ls:=ls) h2k bk j);have uV:=h_ (fun (t:Nat) (i:Nat) (ht:t<2^ns.length)=>Qp (ls.take i) t ht (fun l hm=>bk l (List.mem_of_mem_take hm)));have n9:(2:Nat)^ns.length<=2^12:=aaF o_ ck;have Bk:=h_ Hu;have NC:=h_ hcell;have x0:=shl64 (k:=k) o_;have hk64:k<64:=o_
 clear Hu hcell bk;generalize hB:(2:Nat)^ns.length=B at*;have M7:=h_ hB;clear hB
 go_enter Tryz.func144,Tryz.ntmps144
 go_wp2
 go_loopw [5,13] (fun t x wr=>∃j:Nat,j<=ns.length/\x= .int .i64 j/\t= .int .i64 (zt (2^k) ls j)/\Blk wr w.heap.size 27 #[.slice An ns.length cn,.slice Al ls.length cl]/\Below w.heap.size w wr) (fun _ x _=>ns.length -(intOf x).toNat)
 case atStart=>exact⟨0,aab _,rfl,by rw[x0];rfl,Blk.newAt rfl,by exact bel_⟩
 case round=>
  clear x0;obtain⟨j,hj,rfl,rfl,hW,Hb⟩:=hrel;have gj:=hW.lt;obtain⟨a_0,a_1⟩:=hW.c2
  by_cases hjn:j<ns.length
  ·have HTB:=h_ (F0.out j)
   have UW:Hid (zt (2^k) ls (j+1)=qh (zt (2^k) ls j) ls):=h_ rfl;have HT0:Hid (qh (zt (2^k) ls j) (ls.take 0)=zt (2^k) ls j):=h_ rfl;generalize zt (2^k) ls j=T at*;go_wp2
   go_loopw [5,18] (fun t x wr=>∃i:Nat,i<=ls.length/\x= .int .i64 i/\t= .int .i64 (qh T (ls.take i))/\Blk wr w.heap.size 27 #[.slice An ns.length cn,.slice Al ls.length cl]/\Below w.heap.size w wr) (fun _ x _=>ls.length -(intOf x).toNat)
   case atStart=>exact⟨0,aab _,rfl,by rw[HT0.out],hW,Hb⟩
   case round=>
    clear hW Hb gj a_0 a_1;obtain⟨i,hi,rfl,rfl,hW,Hb⟩:=hrel;have gj:=hW.lt;obtain⟨a_0,a_1⟩:=hW.c2
    by_cases Fm:i<ls.length
    ·obtain⟨b,off,rfl,hb,Ho⟩:=NC.out o_
     obtain⟨k0,k1⟩:=Ho i Fm;have q0:=(Hb.cell (p:=⟨b,off+i*2,none⟩) hb).trans k0;have q1:=(Hb.cell (p:=⟨b,off+i*2+1,none⟩) hb).trans k1;obtain⟨h1,h2,h3,_⟩:=q9.1 (Bk.out i Fm);obtain⟨p,hp⟩:∃p:Nat,(ndI ls i).1=p:=⟨(ndI ls i).1.toNat,by omega⟩;obtain⟨q,hq⟩:∃q:Nat,(ndI ls i).2=q:=⟨(ndI ls i).2.toNat,by omega⟩;have HS:=h_ (z2P T Fm);have HSB:=h_ (uV.out T i HTB.out);have HAN:=h_ (fun s hb=>z9E (s:=s) hp hq hb);have HAY:=h_ (fun s hb=>z86 (s:=s) hp hq hb);rw[hp] at q0;rw[hq] at q1;have hp12:p<12:=o_
     have hq12:q<12:=o_
     have ii1:(0:Int)<=(i:Int):=o_
     have ii2:(i:Int)<(ls.length:Int):=o_
     generalize qh T (ls.take i)=s at*;have hs12:s<2^12:=by have:=HSB.out;omega
     have bp:=Zo (s:=s) (k:=p) o_;have bq:=Zo (s:=s) (k:=q) o_;have xp:=shl64 (k:=p) o_;have xq:=shl64 (k:=q) o_;have Pp:2^p<2^12:=aa4 o_ hp12;have Pq:2^q<2^12:=aa4 o_ hq12;have o1:=yZ (a:=2^p) (b:=2^q) o_ o_;have Po:2^p ||| 2^q<2^12:=Nat.or_lt_two_pow Pp Pq
     have o2:=yZ (a:=s) (b:=2^p ||| 2^q) o_ o_;clear Ho k0 k1 hp hq h1 h2 h3 Pp Pq Po;have gn:Below w.heap.size w (wr.alloc (.cells #[.int .i64 p,.int .i64 q] 108)):=bel_
     have gV:=hW.alloc (.cells #[.int .i64 p,.int .i64 q] 108)
     cases CW:s.testBit p||s.testBit q
     ·have HX:=h_ (HAN.out s CW)
      rw[Bool.or_eq_false_iff] at CW;rw[CW.1] at bp;rw[CW.2] at bq;have bp':bits .and .i64 ((s:Int)/2^p) 1=0:=bp;have bq':bits .and .i64 ((s:Int)/2^q) 1=0:=bq;clear bp bq CW o1 o2 xp xq hW Hb;go_wp2;go_roundw
      case rel=>exact⟨i+1,by omega,by go_num,by rw[HS.out,HX.out],gV,gn⟩
      case measure=>simp[intOf];omega
     ·have HX:=h_ (HAY.out s CW)
      cases h9:s.testBit p
      ·rw[h9,Bool.false_or] at CW
       rw[h9] at bp;rw[CW] at bq;have bp':bits .and .i64 ((s:Int)/2^p) 1=0:=bp;have bq':bits .and .i64 ((s:Int)/2^q) 1=1:=bq;clear bp bq CW h9 hW Hb;generalize hO:s ||| (2^p ||| 2^q)=O at*
       generalize (2^p ||| 2^q)=O1 at*;generalize hP:((2^p:Nat):Int)=P at*;generalize hQ:((2^q:Nat):Int)=QQ at*;clear hP hQ hO;go_wp2
       go_quiet (fail)
       go_wp2;go_roundw
       case rel=>exact⟨i+1,by omega,by go_num,by rw[HS.out,HX.out],gV,Qn gn _⟩
       case measure=>simp[intOf];omega
      ·rw[h9] at bp
       have bp':bits .and .i64 ((s:Int)/2^p) 1=1:=bp;clear bp bq CW h9 hW Hb;generalize hO:s ||| (2^p ||| 2^q)=O at*
       generalize (2^p ||| 2^q)=O1 at*;generalize hP:((2^p:Nat):Int)=P at*;generalize hQ:((2^q:Nat):Int)=QQ at*;clear hP hQ hO;go_wp2
       go_quiet (fail)
       go_wp2;go_roundw
       case rel=>exact⟨i+1,by omega,by go_num,by rw[HS.out,HX.out],gV,Qn gn _⟩
       case measure=>simp[intOf];omega
    ·have NF:i=ls.length:=o_
     subst NF;have HX:Hid (qh T (ls.take ls.length)=qh T ls):=h_ (by rw[aaB]);rw[HX.out];go_wp2;go_roundw
     case rel=>exact⟨j+1,by omega,by go_num,by rw[UW.out],hW,Hb⟩
     case measure=>simp[intOf];omega
  ·have GV:j=ns.length:=o_
   subst GV;have Hd:=F0.out ns.length;rw[<-M7.out] at Hd;have HM:=h_ (fun (v:World)=>Zs (zt (2^k) ls ns.length) ns.length v Hd o_);clear Hd;generalize zt (2^k) ls ns.length=R at*
   go_wp2_with fail
   refine(HM.out _).mono ?_
   rintro e w1 ⟨v1,rfl,Hj,h9⟩;go_wp2;go_ret
   exact⟨_,rfl,Hj.mono o_,Hb.trans (h9.mono Hb.size)⟩
theorem z1R {ns ls:List Pr} (Hu:∀j:Nat,j<ls.length->zp ns (ndI ls j)=true):Z0 ns.length ls:=by
 intro j hj;obtain⟨h1,h2,h3,_⟩:=q9.1 (Hu j hj);exact⟨(ndI ls j).1.toNat,(ndI ls j).2.toNat,by omega,by omega,by omega,by omega⟩
theorem z5v (vn vl:Value) (ns ls:List Pr) (w:World) (hn:RP w vn ns) (hl:RP w vl ls):
  CB_ 79 #[.agg #[vn,vl]] w (.bool (zf ns ls)):=by
 obtain⟨An,cn,rfl,ci,fC,_⟩:=hn.formI;obtain⟨Al,cl,rfl,Ho,GO,_⟩:=hl.formI;unfold maxLen at fC GO;have Hg:Below w.heap.size w (w.alloc (.cells #[.slice An ns.length cn,.slice Al ls.length cl] 27)):=bel_
 have fH:=hn.below Hg;have hl0:=hl.below Hg
 cases hw:winB ns ls
 ·have HR:Hid (zf ns ls=false):=h_ (by simp[zf,hw])
  have HC:=h_ (fun (v:World) (h1:RP v (.slice An ns.length cn) ns) (h2:RP v (.slice Al ls.length cl) ls)=>zX _ _ ns ls _ v h1 h2 hw);clear hw
  go_enter Tryz.func79,Tryz.ntmps79
  go_wp2_with fail
  (refine z7 k_ k_ (fun hG=>?_))
  repeat (go_big_quiet_step ((go_at_call 87;exact zy (HC.out _ (RS.grw _ fH) (RS.grw _ hl0)))))
  (refine wpQuiet_nil ?_);(clear hG);(rintro w3 ⟨⟨_,Hf⟩,rfl⟩);(try dsimp only)
  go_wp2;go_ret
  exact⟨z8 HR.out.symm,by exact bel_⟩
 ·have HC:=h_ (fun (v:World) (h1:RP v (.slice An ns.length cn) ns) (h2:RP v (.slice Al ls.length cl) ls)=>zX _ _ ns ls _ v h1 h2 hw)
  by_cases h0:ls.length=0
  ·have HR:Hid (zf ns ls=false):=h_ (by simp[zf,hw,h0])
   have e4:¬0<ls.length:=o_
   clear hw h0
   go_enter Tryz.func79,Tryz.ntmps79
   go_wp2_with fail
   (refine z7 k_ k_ (fun hG=>?_))
   repeat (go_big_quiet_step ((go_at_call 87;exact zy (HC.out _ (RS.grw _ fH) (RS.grw _ hl0)))))
   (refine wpQuiet_nil ?_);(clear hG);(rintro w3 ⟨⟨_,Hf⟩,rfl⟩);(try dsimp only)
   go_wp2;go_ret
   exact⟨z8 HR.out.symm,by exact bel_⟩
  ·have fv:=zD.1 hw
   have Hu:∀j:Nat,j<ls.length->zp ns (ndI ls j)=true:=fun j hj=>(fv.2.2.2.2.2 j hj).1
   have hws:=z7X (z1R Hu) fv.1;have HP:=h_ (fun (v:World) (h1:RP v (.slice An ns.length cn) ns) (h2:RP v (.slice Al ls.length cl) ls)=>Ju _ _ ns ls 0 v h1 h2 fv.1 fv.2.1 fv.2.2.1 Hu);have e0:(2:Nat)^0=1:=rfl;rw[e0] at HP;have e2:(0:Int)<(ls.length:Int):=o_
   have e4:0<ls.length:=o_
   generalize memS (zt 1 ls ns.length) ns.length=G at*
   have HR:Hid (zf ns ls=((G.length:Int)==(ns.length:Int))):=h_ (by
    unfold zf;rw[hw];have h1:decide (0<ls.length)=true:=by simp;omega
    rw[h1,aaS,aaS]
    cases hq:(zi ns.length ls ls.length).all (· ==0)
    ·have:¬G.length=ns.length:=fun h=>by rw[hws.1 h] at hq;cases hq
     symm;simp;omega
    ·have:=hws.2 hq
     symm;simp;omega)
   clear hw h0 fv Hu hws fH hl0 e0
   go_enter Tryz.func79,Tryz.ntmps79
   go_wp2_with fail
   go_region_held3 (fun w'=>w'.cell? ⟨w.heap.size,0,none⟩=some (.slice An ns.length cn)/\w'.cell? ⟨w.heap.size,1,none⟩=some (.slice Al ls.length cl))
    (go_keep)
    (first|(go_at_call 87;refine(HC.out _ (hn.below bel_) (hl.below bel_)).mono ?_;rintro e w1 ⟨rfl,h9⟩;(have Gb:=bdC h9);have H8:=h9.size;(try simp at H8);(try have gR:=p0_ w w1);have h8:Below w.heap.size w w1:=bel_)|(go_at_call 144;refine(HP.out _ (hn.below bel_) (hl.below bel_)).mono ?_;rintro e w2 ⟨v2,rfl,Hm,He⟩;obtain⟨A2,c2,rfl⟩:=Hm.form;(have fa:=bcC He)))
   rw[za];go_wp2;go_ret
   exact⟨z8 HR.out.symm,by exact bel_⟩
def OwnE {α:Type} (t:TypeId) (enc:α->Value) (base:Nat) (w:World) (v:Value) (l:List α):Prop:=w.ownsRow base t 1 v l.length (l.map enc)
section
variable {α:Type} {t:TypeId} {enc:α->Value} {base:Nat} {w w':World} {v:Value} {l:List α} {g n cap:Nat}
theorem OwnE.kept (h:OwnE t enc base w v l) (hb:Below w.heap.size w w'):OwnE t enc base w' v l:=zZ h hb
theorem OwnE.alloc (h:OwnE t enc base w v l) (o:Obj):OwnE t enc base (w.alloc o) v l:=World.ownsRow.alloc h o
theorem OwnE.lt (h:OwnE t enc base w v l):∀k,v.ownBlock=some k->base<=k/\k<w.heap.size:=World.ownsRow.lt h
theorem OwnE.form (h:OwnE t enc base w v l):∃A c,v= .slice A l.length c:=by
 rcases h.2 with ⟨rfl,hn⟩|⟨g,cap,cur,rfl,_⟩
 ·exact⟨none,0,by rw[hn]⟩
 ·exact⟨_,_,rfl⟩
theorem OwnE.len (h:OwnE t enc base w (.slice (some ⟨g,0,none⟩) n cap) l):n=l.length:=by
 obtain⟨A,c,e⟩:=h.form
 cases e;rfl
theorem OwnE.cell (h:OwnE t enc base w (.slice (some ⟨g,0,none⟩) n cap) l) (d:α) {q:Nat} (hq:q<l.length):w.cell? ⟨g,q,none⟩=some (enc (l.getD q d)):=by
 have e:=h.len;subst e;have ho:w.ownsRow base t 1 (.slice (some ⟨g,0,none⟩) l.length cap) l.length (l.map enc):=h;rw[ho.cellAt q o_,aau,aac hq];simp[List.getD,aac hq]
theorem OwnE.frz (h:OwnE t enc base w (.slice (some ⟨g,0,none⟩) n cap) l) (q:Nat):w.frozen? ⟨g,q,none⟩=false:=by
 have e:=h.len;subst e;have ho:w.ownsRow base t 1 (.slice (some ⟨g,0,none⟩) l.length cap) l.length (l.map enc):=h;exact ho.frozenAt q
theorem OwnE.set_ (h:OwnE t enc base w (.slice (some ⟨g,0,none⟩) n cap) l) (q:Nat) (x:α):OwnE t enc base (w.setCell ⟨g,q,none⟩ (enc x)) (.slice (some ⟨g,0,none⟩) n cap) (l.set q x):=by
 have e:=h.len;subst e;have ho:w.ownsRow base t 1 (.slice (some ⟨g,0,none⟩) l.length cap) l.length (l.map enc):=h;have:=(ho.stored q (enc x)).1;unfold OwnE;rw[aar,List.map_set];exact this
theorem OwnE.other (h:OwnE t enc base w v l) {b2 s2 n2:Nat} {t2:TypeId} {u:Value} {xs:List Value} (h2:w.ownsRow b2 t2 s2 u n2 xs) (gr:t≠t2) (hg:w.grownBy w' u.ownBlock):OwnE t enc base w' v l:=by
 refine World.ownsRow.kept h hg ?_
 rcases h.2 with ⟨rfl,hn⟩|⟨g,cap,cur,rfl,_,hh,_⟩
 ·exact .inl rfl
 ·right
  rcases h2.2 with ⟨rfl,_⟩|⟨g2,cap2,cur2,rfl,_,UY,_⟩
  ·exact fun e=>by cases e
  ·intro e
   have e':g=g2:=by injection e
   subst e';rw[hh] at UY
   injection UY with UY
   injection UY with _ UY _
   exact gr UY
end
theorem RS.get {w:World} {v:Value} {n:Nat} {xs:List Value} (h:RS w 1 v n xs):∃A c,v= .slice A n c/\n<=c/\n<=maxLen/\(0<n->∃b off,A=some ⟨b,off,none⟩/\b<w.heap.size/\∀k,k<n->w.cell? ⟨b,off+k,none⟩=some (xs.getD k undef)):=by
 obtain⟨h0,A,c,h1,h2,h3,h4⟩:=h;refine⟨A,c,h1,h2,h3,fun hn=>?_⟩
 obtain⟨b,off,e1,e2,e3⟩:=h4 hn;refine⟨b,off,e1,e2,fun k hk=>e3 k _ ?_⟩
 rw[List.getD,aac o_];rfl
def OwnF (base:Nat) (w:World) (v:Value) (F:List (List Nat)):Prop:=∃vs:List Value,vs.length=F.length/\w.ownsRow base 31 1 v F.length vs/\∀k,k<F.length->OwnI base w (vs.getD k undef) (natI (F.getD k []))
def RF (w:World) (v:Value) (F:List (List Nat)):Prop:=∃vs:List Value,RS w 1 v F.length vs/\∀k,k<F.length->RI w (vs.getD k undef) (natI (F.getD k []))
def RetF (F:List (List Nat)) (w:World) (e:Ending) (w':World):Prop:=∃v,e= .returned v/\OwnF w.heap.size w' v F/\Below w.heap.size w w'
section
variable {base:Nat} {w w':World} {v:Value} {F:List (List Nat)}
theorem OwnF.nil (base:Nat) (w:World):OwnF base w (.slice none 0 0) []:=⟨[],rfl,World.ownsRow_nil _ _ _ _,fun k hk=>absurd hk (by simp)⟩
theorem OwnF.kept (h:OwnF base w v F) (hb:Below w.heap.size w w'):OwnF base w' v F:=by
 obtain⟨vs,h1,h2,h3⟩:=h;exact⟨vs,h1,zZ h2 hb,fun k hk=>(h3 k hk).kept hb⟩
theorem OwnF.alloc (h:OwnF base w v F) (o:Obj):OwnF base (w.alloc o) v F:=h.kept ((aaj _ _).alloc (aaa _) _)
theorem OwnF.far {row:Option Nat} (h:OwnF base w v F) (hg:w.grownBy w' row) (hr:∀k,row=some k->k<base):OwnF base w' v F:=by
 obtain⟨vs,h1,h2,h3⟩:=h;refine⟨vs,h1,?_,fun k hk=>(h3 k hk).far hg hr⟩
 refine World.ownsRow.kept h2 hg ?_
 cases hv:v.ownBlock with
 |none=>exact .inl rfl
 |some k=>
  right
  rintro rfl;have:=hr k rfl;have:=(World.ownsRow.lt h2 k hv).1;omega
theorem OwnF.mono {base':Nat} (h:OwnF base w v F) (hb:base'<=base):OwnF base' w v F:=by
 obtain⟨vs,h1,h2,h3⟩:=h;refine⟨vs,h1,?_,fun k hk=>(h3 k hk).mono hb⟩
 obtain⟨h4,h5⟩:=h2;refine⟨h4,?_⟩
 rcases h5 with h5|⟨g,cap,cur,e1,e2,e3⟩
 ·exact .inl h5
 ·exact .inr ⟨g,cap,cur,e1,aai hb e2,e3⟩
theorem OwnF.form (h:OwnF base w v F):∃A c,v= .slice A F.length c:=by
 obtain⟨vs,h1,h2,h3⟩:=h
 rcases h2.2 with ⟨rfl,hn⟩|⟨g,cap,cur,rfl,_⟩
 ·exact⟨none,0,by rw[hn]⟩
 ·exact⟨_,_,rfl⟩
theorem OwnF.reads (h:OwnF base w v F):RF w v F:=by
 obtain⟨vs,h1,h2,h3⟩:=h;exact⟨vs,kE h2,fun k hk=>(h3 k hk).reads⟩
theorem OwnF.lt (h:OwnF base w v F):∀k,v.ownBlock=some k->base<=k/\k<w.heap.size:=by
 obtain⟨vs,h1,h2,h3⟩:=h;exact World.ownsRow.lt h2
theorem RF.below (h:RF w v F) (hb:Below w.heap.size w w'):RF w' v F:=by
 obtain⟨vs,h1,h2⟩:=h;exact⟨vs,RS.below h1 hb,fun k hk=>(h2 k hk).below hb⟩
end
theorem zbe:3≠31:=by decide
theorem OwnF.snoc {base n:Nat} {w w':World} {v v' u:Value} {vs:List Value} {F:List (List Nat)} {f:List Nat} (hv:vs.length=F.length) (h2:w.ownsRow base 31 1 v n vs) (h3:∀k,k<F.length->OwnI base w (vs.getD k undef) (natI (F.getD k [])))
  (hu:OwnI base w u (natI f)) (hg:w.grownBy w' v.ownBlock) (hw:w'.ownsRow base 31 1 v' (n+1) (vs++[u])):OwnF base w' v' (F++[f]):=by
 have hn:n=F.length:=by have:=h2.1;omega
 subst hn;have kp:∀x zs,OwnI base w x zs->OwnI base w' x zs:=fun x zs hx=>OwnE.other (t:=3) (enc:=vI) hx h2 zbe hg
 refine⟨vs++[u],by simp[hv],by simpa using hw,fun k hk=>?_⟩
 rw[aaX,aa9] at hk
 by_cases he:k=F.length
 ·subst he
  rw[List.getD,abc o_,hv,aae,List.getD,abc (aaa _),aae];exact kp _ _ hu
 ·have Hd:k<F.length:=o_
  have e1:(vs++[u]).getD k undef=vs.getD k undef:=by rw[List.getD,List.getD,abd o_]
  have e2:(F++[f]).getD k []=F.getD k []:=by rw[List.getD,List.getD,abd Hd]
  rw[e1,e2];exact kp _ _ (h3 k Hd)
theorem za4:(Tryz.prog.info? 31).map (fun i=>(i.zero,i.size,i.bytes))=some (some (.slice none 0 0),1,24):=by kernel_rfl
theorem kt {w:World} {ops:Array Oper} {rest:List Oper} {o:Oper} {a:Act} {Q:Exit->Act->World->Prop} (FH:o.guard=none) (s x:Operand)
  (ho:o.op= .call { callee:= .builtin .append,args:= #[s,x],argTypes:= #[135,135] })
  (base:Nat) (v u:Value) (F:List (List Nat)) (f:List Nat) (hs:a.eval s=v) (g:Nat) (hx:a.eval x= .slice (some ⟨g,0,none⟩) 1 1) (hg:w.cell? ⟨g,0,none⟩=some u)
  (hown:OwnF base w v F) (hu:OwnI base w u (natI f)) (Hi:F.length<=1048576) (H9:base<=w.heap.size)
  (h:∀v' w',OwnF base w' v' (F++[f])->w.grownBy w' v.ownBlock->wpList Tryz.prog ops Q rest (a.put o.dst v') w'):wpList Tryz.prog ops Q (o::rest) a w:=by
 obtain⟨i,hi,hz,H7,gG⟩:=info_parts za4;obtain⟨vs,h1,h2,h3⟩:=hown
 exact wpList_append_own w FH s x 135 ho base 31 i (.slice none 0 0) 1 24 Tryz.underlying135 hi hz H7 gG rfl (by decide) v F.length _ hs h2 ⟨g,0,none⟩ 1 1 [u] hx rfl
  (fun j y hj=>by
   match j,hj with
   |0,hj=>cases hj;exact hg
   |j+1,hj=>simp at hj)
  (by
   intro y hy;simp at hy
   subst hy;obtain⟨A,c,rfl⟩:=hu.form;rfl) (by unfold maxLen;omega) o_ H9 fun v' w' e1 e2 _=>h v' w' (OwnF.snoc h1 h2 h3 hu e2 e1) e2
def mkS (n:Nat) (F:List (List Nat)) (f:List Nat) (j:Nat):List Bool:=(List.range n).map fun e=>jj F e||(f.take j).contains e
theorem z1Y (n:Nat) (F:List (List Nat)) (f:List Nat) (j:Nat):(mkS n F f j).length =n:=by simp[mkS]
theorem z4s (n:Nat) (F:List (List Nat)) (f:List Nat):mkS n F f 0=(List.range n).map (jj F):=by simp[mkS]
theorem z0v (n:Nat):(List.range n).map (jj [])=List.replicate n false:=by
 apply aat
 intro j
 by_cases hj:j<n
 ·simp[aau,hj,jj,abm]
 ·simp[hj,abm]
theorem z6v (n:Nat) (F:List (List Nat)) (f:List Nat):mkS n F f f.length=(List.range n).map (jj (F++[f])):=by
 unfold mkS jj;rw[aaB];simp
theorem z3c (n:Nat) (F:List (List Nat)) (f:List Nat) (j:Nat) (hj:j<f.length):mkS n F f (j+1)=(mkS n F f j).set (f.getD j 0) true:=by
 have e:f.getD j 0=f[j]:=by simp[List.getD,hj]
 rw[e]
 apply aat
 intro i;rw[aa1,z1Y];unfold mkS
 by_cases hi:i<n
 ·rw[aau,aau,aav hi,aaw,aaw,aax hj,List.contains_append]
  by_cases he:f[j]=i
  ·rw[aao he,aao o_,he];simp
  ·rw[aaq he]
   have:([f[j]]:List Nat).contains i=false:=by simp;omega
   rw[this,Bool.or_false]
 ·have h1:(List.range n)[i]? =none:=by simp;omega
  rw[aau,aau,h1]
  by_cases he:f[j]=i
  ·rw[aao he,aaq o_];rfl
  ·rw[aaq he];rfl
theorem z6b {n:Nat} {F:List (List Nat)} {d:Nat} (h:d<n):((List.range n).map (jj F)).getD d false=jj F d:=by simp[List.getD,h]
theorem z67 (n:Nat):(madeCells #[.bool false] n).toList =(List.replicate n false).map Value.bool:=by
 apply aat
 intro j
 by_cases hj:j<n
 ·simp only[madeCells,Array.toList_map,aau,Array.toList_range,aav hj,abm,aao hj,aaw]
  congr 1
  show #[Value.bool false][j%1]! =_
  rw[Nat.mod_one];rfl
 ·simp[madeCells,hj]
theorem Zl:(Tryz.prog.info? 4).map (fun i=>(i.zero,i.size,i.bytes))=some (some (.bool false),1,1):=by kernel_rfl
noncomputable def z9 (ns ls:List Pr):List (List Nat):=if zf ns ls then zg ns ls else []
theorem j5 (vn vl:Value) (ns ls:List Pr) (b:Bool) (w:World) (hn:RP w vn ns) (hl:RP w vl ls) (hb:zf ns ls=b):
  CB_ 79 #[.agg #[vn,vl]] w (.bool b):=by
 subst hb;exact z5v vn vl ns ls w hn hl
theorem qH {W:World} {v:Value} {t:TypeId} {g:Nat} (hg:g=W.heap.size):(W.alloc (.cells #[v] t)).cell? ⟨g,0,none⟩=some v:=(Blk.newAt hg).cell 0
theorem ZX:3≠4:=by decide
theorem OwnF.made {base g:Nat} {w:World} (hg:g=w.heap.size) (hb:base<=w.heap.size):OwnF base (w.alloc (.cells #[] 31)) (.slice (some ⟨g,0,none⟩) 0 0) []:=by
 subst hg;exact⟨[],rfl,World.ownsRow_made _ _ _ hb (by simp[maxLen]) (by simp),fun k hk=>absurd hk (by simp)⟩
theorem OwnF.grownNone {base:Nat} {w w':World} {v:Value} {F:List (List Nat)} (h:OwnF base w v F) (hg:w.grownBy w' none):OwnF base w' v F:=
 h.far hg (fun k hk=>by cases hk)
theorem OwnF.offType {base b2:Nat} {w w':World} {v u:Value} {F:List (List Nat)} {l:List Bool} (h:OwnF base w v F) (hs:OwnE 4 Value.bool b2 w u l) (hg:w.grownBy w' u.ownBlock):OwnF base w' v F:=by
 obtain⟨vs,h1,h2,h3⟩:=h
 have US:OwnE 31 (fun x:Value=>x) base w v vs:=by
  unfold OwnE;rw[List.map_id',h1];exact h2
 refine⟨vs,h1,?_,fun k hk=>OwnE.other (t:=3) (enc:=vI) (h3 k hk) hs ZX hg⟩
 have:=OwnE.other US hs (by decide) hg;unfold OwnE at this;rw[List.map_id',h1] at this;exact this
theorem jP (vn vl:Value) (ns ls:List Pr) (w:World) (hn:RP w vn ns) (hl:RP w vl ls):
  Calls Tryz.prog 145 #[.agg #[vn,vl]] w (RetF (z9 ns ls) w):=by
 obtain⟨An,cn,rfl,ci,fC,_⟩:=hn.formI;obtain⟨Al,cl,rfl,Ho,GO,_⟩:=hl.formI;unfold maxLen at fC GO;have Hg:Below w.heap.size w (w.alloc (.cells #[.slice An ns.length cn,.slice Al ls.length cl] 27)):=bel_
 have gD:Blk (w.alloc (.cells #[.slice An ns.length cn,.slice Al ls.length cl] 27)) w.heap.size 27 #[.slice An ns.length cn,.slice Al ls.length cl]:=Blk.newAt rfl
 cases hw:zf ns ls
 ·have HR:Hid (z9 ns ls=[]):=h_ (by simp[z9,hw])
  go_enter Tryz.func145,Tryz.ntmps145
  go_wp2_with fail
  refine(j5 _ _ ns ls _ _ (hn.below Hg) (hl.below Hg) hw).mono ?_
  rintro e w1 ⟨rfl,h9⟩;have h8:=Hg.trans (h9.mono Hg.size);go_wp2;go_ret
  exact⟨_,rfl,by rw[HR.out];exact OwnF.nil _ _,h8⟩
 ·have HR:Hid (z9 ns ls=zr ns ls (2*ls.length)):=h_ (by simp[z9,hw];rfl)
  have Hn:=(zI hw).1;have GD:=(zI hw).2;have GW:=Hn.2.2.1;have Hu:∀j:Nat,j<ls.length->zp ns (ndI ls j)=true:=fun j hj=>(Hn.2.2.2.2.2 j hj).1
  obtain⟨i0,hi,iz0,iz1,iz2⟩:=info_parts Zl;have HWK:=h_ (fun (v:World) (d:Nat) (hv:Below w.heap.size w v) (hd:d<2*ls.length)=>z6X (.slice An ns.length cn) (.slice Al ls.length cl) ns ls d v (hn.below hv) (hl.below hv) hd Hn);have mT:=h_ (fun d hd=>Qz (ns:=ns) Hu (d:=d) hd);have uZ:=h_ (fun d hd=>Xa (ns:=ns) Hu (d:=d) hd);have HFL:=h_ (xv ns ls);have HFY:=h_ (fun m h=>k9 (ns:=ns) (ls:=ls) (m:=m) h);have Yf:=h_ (fun m h=>kP (ns:=ns) (ls:=ls) (m:=m) h);have Yg:Hid (zr ns ls 0=[]):=h_ rfl;have e2:2*(ls.length:Int)=((2*ls.length:Nat):Int):=o_
  clear Hn Hu
  go_enter Tryz.func145,Tryz.ntmps145
  go_wp2_with fail
  refine(j5 _ _ ns ls _ _ (hn.below Hg) (hl.below Hg) hw).mono ?_
  rintro e w1 ⟨rfl,h9⟩;have h8:=Hg.trans (h9.mono Hg.size);have gg:=gD.below h9 gD.lt;have H8:=gg.lt;clear h9 Hg gD hw;obtain⟨a_0,a_1⟩:=gg.c2;generalize hNN:2*ls.length=N at*;have Yh:N<=40:=o_
  go_wp2_with (at_make;refine wpList_make_full _ rfl _ _ 182 rfl (w.heap.size+1) 4 i0 (.bool false) 1 Tryz.underlying182 hi iz0 iz1 .i64 .i64 _ _ N rfl rfl rfl rfl (by rw[iz2];omega) (by unfold maxLen;omega) o_ ?_)
  intro w2 Hz gQ;have He:Below w.heap.size w w2:=h8.grown gQ h8.size (by intro k hk;cases hk);have gV:Blk w2 w.heap.size 27 #[.slice An ns.length cn,.slice Al ls.length cl]:=(gQ.block _ H8 (fun e=>by cases e)).trans gg
  have fI:OwnE 4 Value.bool (w.heap.size+1) w2 (.slice (some ⟨w1.heap.size,0,none⟩) N N) ((List.range N).map (jj (zr ns ls 0))):=by
   unfold OwnE;rw[Yg.out,z0v,aaD];rw[<-z67];exact Hz
  have bT:OwnF (w1.heap.size+1) w2 (.slice none 0 0) []:=OwnF.nil _ _;have UZ:=H8;generalize w1.heap.size=gs at*;clear Hz gQ h8 gg a_0 a_1 H8;obtain⟨a_0,a_1⟩:=gV.c2;go_wp2
  go_loopw [4,19] (fun v x wr=>∃d:Nat,d<=N/\x= .int .i64 d/\OwnF (gs+1) wr v (zr ns ls d)/\OwnE 4 Value.bool (w.heap.size+1) wr (.slice (some ⟨gs,0,none⟩) N N) ((List.range N).map (jj (zr ns ls d)))/\Blk wr w.heap.size 27 #[.slice An ns.length cn,.slice Al ls.length cl]/\Below w.heap.size w wr) (fun _ x _=>N -(intOf x).toNat)
  case atStart=>exact⟨0,aab _,rfl,by rw[Yg.out];exact bT,fI,gV,He⟩
  case round=>
   clear fI gV He a_0 a_1;obtain⟨d,hd,rfl,ho,fI,hW,Hb⟩:=hrel;have gj:=hW.lt;have Bo:gs<wr.heap.size:=(fI.lt gs rfl).2
   by_cases Hd:d<N
   ·have Hr:(d:Int)<(N:Int):=o_
    have hx:=fI.cell false (q:=d) (by simpa using Hd);rw[z6b Hd] at hx;have HY:=h_ (HFY.out d);have BM:=h_ (Yf.out d);have GB:=HFL.out d;generalize zr ns ls d=F at*;obtain⟨a_0,a_1⟩:=hW.c2
    cases hs:jj F d
    ·rw[hs] at hx
     have HS:=h_ (BM.out hs);clear hs
     go_wp2_with fail
     refine(HWK.out _ d Hb Hd).mono ?_
     rintro e w3 ⟨v3,rfl,Hq,Hf⟩;have Nc:=ho.kept Hf;have FX:=fI.kept Hf;have GJ:=hW.below Hf gj;have gz:=Hb.trans (Hf.mono Hb.size);have hI3:OwnI (gs+1) w3 v3 (natI (qF ns ls d)):=Hq.mono o_;have HB:=h_ (mT.out d Hd);have hwl:=uZ.out d Hd;generalize qF ns ls d=f at*;obtain⟨A3,c3,rfl⟩:=hI3.form;rw[za] at hI3⊢;rw[<-z4s N F f] at FX;clear Hf Hq ho fI hW Hb a_0 a_1 hx gj;go_wp2
     go_loopw [31] (fun x wr=>∃j:Nat,j<=f.length/\x= .int .i64 j/\OwnF (gs+1) wr u4 F/\OwnE 4 Value.bool (w.heap.size+1) wr (.slice (some ⟨gs,0,none⟩) N N) (mkS N F f j)/\OwnI (gs+1) wr (.slice A3 f.length c3) (natI f)/\Blk wr w.heap.size 27 #[.slice An ns.length cn,.slice Al ls.length cl]/\Below w.heap.size w wr) (fun x _=>f.length -(intOf x).toNat)
     case atStart=>exact⟨0,aab _,rfl,Nc,FX,hI3,GJ,gz⟩
     case round=>
      clear Nc FX hI3 GJ gz;obtain⟨j,hj,rfl,ho,fI,hI,hW,Hb⟩:=hrel;have gj:=hW.lt
      by_cases FL:j<f.length
      ·have Yi:(j:Int)<(f.length:Int):=o_
       have ij1:(0:Int)<=(j:Int):=o_
       obtain⟨A4,c4,he4,Cp,hm4,Gm⟩:=hI.reads.form;rw[za] at he4
       cases he4
       rw[za] at Gm;obtain⟨b4,off4,rfl,Hv,Fa⟩:=Gm o_;have hx:=Fa j FL;rw[qj] at hx;have Cc:f.getD j 0<N:=HB.out _ (by rw[List.getD,aac FL];exact abh FL);have fg:=h_ (z3c N F f j FL);generalize f.getD j 0=x at*;have ix1:(0:Int)<=(x:Int):=o_
       have ix2:(x:Int)<(N:Int):=o_
       have Fy:=fI.cell false (q:=x) (by rw[z1Y];exact Cc);obtain⟨z,hz⟩:∃z,wr.cell? ⟨gs,x,none⟩=some z:=⟨_,Fy⟩;have fx:=fI.frz x;have bU:Hid (OwnE 4 Value.bool (w.heap.size+1) (wr.setCell ⟨gs,x,none⟩ (.bool true)) (.slice (some ⟨gs,0,none⟩) N N) (mkS N F f (j+1))):=h_ (by rw[fg.out];exact fI.set_ x true);have Nv:wr.grownBy (wr.setCell ⟨gs,x,none⟩ (.bool true)) (some gs):=qs (qt _ _) x _;have HOF:=h_ (ho.far Nv (fun k hk=>by cases hk;omega));have HIF:=h_ (hI.far Nv (fun k hk=>by cases hk;omega));have HWF:=h_ (hW.far (p:=⟨gs,x,none⟩) (show ¬w.heap.size=gs by omega) (.bool true));have uy:=h_ (Hb.setCell (p:=⟨gs,x,none⟩) (show w.heap.size<=gs by omega) (.bool true));clear ho fI hI hW Hb Fy Nv Fa Gm;go_wp2;go_roundw
       case rel=>exact⟨j+1,by omega,by go_num,HOF.out,bU.out,HIF.out,HWF.out,uy.out⟩
       case measure=>simp[intOf];omega
      ·have GV:j=f.length:=o_
       subst GV;have bU:Hid (OwnE 4 Value.bool (w.heap.size+1) wr (.slice (some ⟨gs,0,none⟩) N N) ((List.range N).map (jj (F++[f])))):=h_ (by rw[<-z6v];exact fI);have hgz4:gs<wr.heap.size:=(fI.lt gs rfl).2;clear fI
       go_wp2_with (at_builtin;refine kt rfl _ _ rfl (gs+1) _ (.slice A3 f.length c3) F f rfl wr.heap.size rfl (qH (by simp)) (ho.alloc _) (hI.alloc _) o_ (by simp;omega) ?_)
       intro v4 w4 hF4 GA;have F6:∀k,(u4:Value).ownBlock =some k->gs+1<=k/\k<wr.heap.size:=fun k hk=>ho.lt k hk
       have NG:Below w.heap.size w w4:=(Hb.alloc Hb.size (.cells #[.slice A3 f.length c3] 31)).grown GA (by simp;have:=Hb.size;omega) (fun k hk=>by have:=(F6 k hk).1;omega);have bV:Blk w4 w.heap.size 27 #[.slice An ns.length cn,.slice Al ls.length cl]:=(GA.block _ (by simp;omega) (fun e=>by have:=(F6 _ e.symm).1;omega)).trans (hW.alloc _)
       have my:OwnE 4 Value.bool (w.heap.size+1) w4 (.slice (some ⟨gs,0,none⟩) N N) ((List.range N).map (jj (F++[f]))):=by
        obtain⟨vs,g1,g2,g3⟩:=ho.alloc (.cells #[.slice A3 f.length c3] 31);exact OwnE.other (bU.out.alloc _) g2 (by decide) GA
       clear ho hI hW Hb GA F6;go_wp2;go_roundw
       case rel=>exact⟨d+1,by omega,by go_num,by rw[HS.out];exact hF4,by rw[HS.out];exact my,bV,NG⟩
       case measure=>simp[intOf];omega
    ·rw[hs] at hx
     have HS:=h_ (HY.out hs);clear hs;go_wp2;go_roundw
     case rel=>exact⟨d+1,by omega,by go_num,by rw[HS.out];exact ho,by rw[HS.out];exact fI,hW,Hb⟩
     case measure=>simp[intOf];omega
   ·have CU:d=N:=o_
    subst CU;go_wp2;go_ret
    exact⟨_,rfl,by rw[HR.out];exact ho.mono o_,Hb⟩
theorem jN (vn vl:Value) (ns ls:List Pr) (w:World) (hn:RP w vn ns) (hl:RP w vl ls):
  Calls Tryz.prog 121 #[.agg #[vn,vl]] w (RetF (z9 ns ls) w):=by
 obtain⟨An,cn,rfl,ci,fC,_⟩:=hn.formI;obtain⟨Al,cl,rfl,Ho,GO,_⟩:=hl.formI;unfold maxLen at fC GO;have Hg:Below w.heap.size w ((w.alloc (.cells #[.slice An ns.length cn,.slice Al ls.length cl] 27)).alloc (.cells #[] 31)):=bel_
 have gD:Blk ((w.alloc (.cells #[.slice An ns.length cn,.slice Al ls.length cl] 27)).alloc (.cells #[] 31)) w.heap.size 27 #[.slice An ns.length cn,.slice Al ls.length cl]:=(Blk.newAt rfl).alloc _;have hOz:OwnF (w.heap.size+1) ((w.alloc (.cells #[.slice An ns.length cn,.slice Al ls.length cl] 27)).alloc (.cells #[] 31)) (.slice (some ⟨w.heap.size+1,0,none⟩) 0 0) []:=OwnF.made (by simp) (by simp)
 cases hw:zf ns ls
 ·have HR:Hid (z9 ns ls=[]):=h_ (by simp[z9,hw])
  go_enter Tryz.func121,Tryz.ntmps121
  go_wp2_with fail
  refine(j7 _ _ ns ls _ _ (hn.below Hg) (hl.below Hg) hw).mono ?_
  rintro e w1 ⟨rfl,h9⟩;have h8:=Hg.trans (h9.mono Hg.size);have Ua:=hOz.kept h9;go_wp2;go_ret
  exact⟨_,rfl,by rw[HR.out];exact Ua.mono o_,h8⟩
 ·have HR:Hid (z9 ns ls=zr ns ls (2*ls.length)):=h_ (by simp[z9,hw];rfl)
  have Hn:=(zI hw).1;have GD:=(zI hw).2;have GW:=Hn.2.2.1;have Hu:∀j:Nat,j<ls.length->zp ns (ndI ls j)=true:=fun j hj=>(Hn.2.2.2.2.2 j hj).1
  obtain⟨i0,hi,iz0,iz1,iz2⟩:=info_parts Zl;have HWK:=h_ (fun (v:World) (d:Nat) (hv:Below w.heap.size w v) (hd:d<2*ls.length)=>z7z (.slice An ns.length cn) (.slice Al ls.length cl) ns ls d v (hn.below hv) (hl.below hv) hd Hn);have mT:=h_ (fun d hd=>Qz (ns:=ns) Hu (d:=d) hd);have uZ:=h_ (fun d hd=>Xa (ns:=ns) Hu (d:=d) hd);have HFL:=h_ (xv ns ls);have HFY:=h_ (fun m h=>k9 (ns:=ns) (ls:=ls) (m:=m) h);have Yf:=h_ (fun m h=>kP (ns:=ns) (ls:=ls) (m:=m) h);have Yg:Hid (zr ns ls 0=[]):=h_ rfl;have e2:2*(ls.length:Int)=((2*ls.length:Nat):Int):=o_
  clear Hn Hu
  go_enter Tryz.func121,Tryz.ntmps121
  go_wp2_with fail
  refine(j7 _ _ ns ls _ _ (hn.below Hg) (hl.below Hg) hw).mono ?_
  rintro e w1 ⟨rfl,h9⟩;have h8:=Hg.trans (h9.mono Hg.size);have gg:=gD.below h9 gD.lt;have Ua:=hOz.kept h9;have H8:=gg.lt;clear h9 Hg gD hw;obtain⟨a_0,a_1⟩:=gg.c2;generalize hNN:2*ls.length=N at*;have Yh:N<=40:=o_
  go_wp2_with (at_make;refine wpList_make_full _ rfl _ _ 182 rfl (w.heap.size+1) 4 i0 (.bool false) 1 Tryz.underlying182 hi iz0 iz1 .i64 .i64 _ _ N rfl rfl rfl rfl (by rw[iz2];omega) (by unfold maxLen;omega) o_ ?_)
  intro w2 Hz gQ;have He:Below w.heap.size w w2:=h8.grown gQ h8.size (by intro k hk;cases hk);have gV:Blk w2 w.heap.size 27 #[.slice An ns.length cn,.slice Al ls.length cl]:=(gQ.block _ H8 (fun e=>by cases e)).trans gg
  have fI:OwnE 4 Value.bool (w.heap.size+1) w2 (.slice (some ⟨w1.heap.size,0,none⟩) N N) ((List.range N).map (jj (zr ns ls 0))):=by
   unfold OwnE;rw[Yg.out,z0v,aaD];rw[<-z67];exact Hz
  have bT:OwnF (w.heap.size+1) w2 (.slice (some ⟨w.heap.size+1,0,none⟩) 0 0) []:=Ua.grownNone gQ;clear hOz Ua;have UZ:=H8;generalize w1.heap.size=gs at*;clear Hz gQ h8 gg a_0 a_1 H8;obtain⟨a_0,a_1⟩:=gV.c2;go_wp2
  go_loopw [3,5] (fun v x wr=>∃d:Nat,d<=N/\x= .int .i64 d/\OwnF (w.heap.size+1) wr v (zr ns ls d)/\OwnE 4 Value.bool (w.heap.size+1) wr (.slice (some ⟨gs,0,none⟩) N N) ((List.range N).map (jj (zr ns ls d)))/\Blk wr w.heap.size 27 #[.slice An ns.length cn,.slice Al ls.length cl]/\Below w.heap.size w wr) (fun _ x _=>N -(intOf x).toNat)
  case atStart=>exact⟨0,aab _,rfl,by rw[Yg.out];exact bT,fI,gV,He⟩
  case round=>
   clear fI gV He a_0 a_1;obtain⟨d,hd,rfl,ho,fI,hW,Hb⟩:=hrel;have gj:=hW.lt
   by_cases Hd:d<N
   ·have Hr:(d:Int)<(N:Int):=o_
    have hx:=fI.cell false (q:=d) (by simpa using Hd);rw[z6b Hd] at hx;have HY:=h_ (HFY.out d);have BM:=h_ (Yf.out d);have GB:=HFL.out d;generalize zr ns ls d=F at*;obtain⟨a_0,a_1⟩:=hW.c2
    cases hs:jj F d
    ·rw[hs] at hx
     have HS:=h_ (BM.out hs);clear hs
     go_wp2_with fail
     refine(HWK.out _ d Hb Hd).mono ?_
     rintro e w3 ⟨v3,rfl,Hq,Hf⟩;have Nc:=ho.kept Hf;have FX:=fI.kept Hf;have GJ:=hW.below Hf gj;have gz:=Hb.trans (Hf.mono Hb.size);have hI3:OwnI (w.heap.size+1) w3 v3 (natI (qF ns ls d)):=Hq.mono o_;have HB:=h_ (mT.out d Hd);have hwl:=uZ.out d Hd;generalize qF ns ls d=f at*;obtain⟨A3,c3,rfl⟩:=hI3.form;rw[za] at hI3⊢;rw[<-z4s N F f] at FX;clear Hf Hq ho fI hW Hb a_0 a_1 hx gj;go_wp2
     go_loopw [7] (fun x wr=>∃j:Nat,j<=f.length/\x= .int .i64 j/\OwnF (w.heap.size+1) wr u3 F/\OwnE 4 Value.bool (w.heap.size+1) wr (.slice (some ⟨gs,0,none⟩) N N) (mkS N F f j)/\OwnI (w.heap.size+1) wr (.slice A3 f.length c3) (natI f)/\Blk wr w.heap.size 27 #[.slice An ns.length cn,.slice Al ls.length cl]/\Below w.heap.size w wr) (fun x _=>f.length -(intOf x).toNat)
     case atStart=>exact⟨0,aab _,rfl,Nc,FX,hI3,GJ,gz⟩
     case round=>
      clear Nc FX hI3 GJ gz;obtain⟨j,hj,rfl,ho,fI,hI,hW,Hb⟩:=hrel;have gj:=hW.lt
      by_cases FL:j<f.length
      ·have Yi:(j:Int)<(f.length:Int):=o_
       have ij1:(0:Int)<=(j:Int):=o_
       obtain⟨A4,c4,he4,Cp,hm4,Gm⟩:=hI.reads.form;rw[za] at he4
       cases he4
       rw[za] at Gm;obtain⟨b4,off4,rfl,Hv,Fa⟩:=Gm o_;have hx:=Fa j FL;rw[qj] at hx;have Cc:f.getD j 0<N:=HB.out _ (by rw[List.getD,aac FL];exact abh FL);have fg:=h_ (z3c N F f j FL);generalize f.getD j 0=x at*;have ix1:(0:Int)<=(x:Int):=o_
       have ix2:(x:Int)<(N:Int):=o_
       have Fy:=fI.cell false (q:=x) (by rw[z1Y];exact Cc);obtain⟨z,hz⟩:∃z,wr.cell? ⟨gs,x,none⟩=some z:=⟨_,Fy⟩;have fx:=fI.frz x;have bU:Hid (OwnE 4 Value.bool (w.heap.size+1) (wr.setCell ⟨gs,x,none⟩ (.bool true)) (.slice (some ⟨gs,0,none⟩) N N) (mkS N F f (j+1))):=h_ (by rw[fg.out];exact fI.set_ x true);have Nv:wr.grownBy (wr.setCell ⟨gs,x,none⟩ (.bool true)) (some gs):=qs (qt _ _) x _;have HOF:=h_ (ho.offType fI Nv);have HIF:=h_ (OwnE.other (t:=3) (enc:=vI) hI fI ZX Nv);have HWF:=h_ (hW.far (p:=⟨gs,x,none⟩) (show ¬w.heap.size=gs by omega) (.bool true));have uy:=h_ (Hb.setCell (p:=⟨gs,x,none⟩) (show w.heap.size<=gs by omega) (.bool true));clear ho fI hI hW Hb Fy Nv Fa Gm;go_wp2;go_roundw
       case rel=>exact⟨j+1,by omega,by go_num,HOF.out,bU.out,HIF.out,HWF.out,uy.out⟩
       case measure=>simp[intOf];omega
      ·have GV:j=f.length:=o_
       subst GV;have bU:Hid (OwnE 4 Value.bool (w.heap.size+1) wr (.slice (some ⟨gs,0,none⟩) N N) ((List.range N).map (jj (F++[f])))):=h_ (by rw[<-z6v];exact fI);clear fI
       go_wp2_with (at_builtin;refine kt rfl _ _ rfl (w.heap.size+1) _ (.slice A3 f.length c3) F f rfl wr.heap.size rfl (qH (by simp)) (ho.alloc _) (hI.alloc _) o_ (by simp;omega) ?_)
       intro v4 w4 hF4 GA;have F6:∀k,(u3:Value).ownBlock =some k->w.heap.size+1<=k/\k<wr.heap.size:=fun k hk=>ho.lt k hk
       have NG:Below w.heap.size w w4:=(Hb.alloc Hb.size (.cells #[.slice A3 f.length c3] 31)).grown GA (by simp;have:=Hb.size;omega) (fun k hk=>by have:=(F6 k hk).1;omega);have bV:Blk w4 w.heap.size 27 #[.slice An ns.length cn,.slice Al ls.length cl]:=(GA.block _ (by simp;omega) (fun e=>by have:=(F6 _ e.symm).1;omega)).trans (hW.alloc _)
       have my:OwnE 4 Value.bool (w.heap.size+1) w4 (.slice (some ⟨gs,0,none⟩) N N) ((List.range N).map (jj (F++[f]))):=by
        obtain⟨vs,g1,g2,g3⟩:=ho.alloc (.cells #[.slice A3 f.length c3] 31);exact OwnE.other (bU.out.alloc _) g2 (by decide) GA
       clear ho hI hW Hb GA F6;go_wp2;go_roundw
       case rel=>exact⟨d+1,by omega,by go_num,by rw[HS.out];exact hF4,by rw[HS.out];exact my,bV,NG⟩
       case measure=>simp[intOf];omega
    ·rw[hs] at hx
     have HS:=h_ (HY.out hs);clear hs;go_wp2;go_roundw
     case rel=>exact⟨d+1,by omega,by go_num,by rw[HS.out];exact ho,by rw[HS.out];exact fI,hW,Hb⟩
     case measure=>simp[intOf];omega
   ·have CU:d=N:=o_
    subst CU;go_wp2;go_ret
    exact⟨_,rfl,by rw[HR.out];exact ho.mono o_,Hb⟩
theorem RF.get {w:World} {v:Value} {F:List (List Nat)} (h:RF w v F):∃A c,v= .slice A F.length c/\F.length<=c/\F.length<=maxLen/\(0<F.length->∃b off,A=some ⟨b,off,none⟩/\b<w.heap.size/\∀k,k<F.length->∃u,w.cell? ⟨b,off+k,none⟩=some u/\RI w u (natI (F.getD k []))):=by
 obtain⟨vs,h1,h2⟩:=h;obtain⟨A,c,e1,e2,e3,e4⟩:=h1.get;refine⟨A,c,e1,e2,e3,fun hn=>?_⟩
 obtain⟨b,off,g1,g2,g3⟩:=e4 hn;exact⟨b,off,g1,g2,fun k hk=>⟨_,g3 k hk,h2 k hk⟩⟩
theorem XZ (ns ls:List Pr) (f:List Nat) (k:Nat):yv ns ls f (k+1)=yv ns ls f k+yB ns ls (f.getD k 0):=rfl
theorem z3X (vn vl u:Value) (ns ls:List Pr) (f:List Nat) (w:World) (hn:RP w vn ns) (hl:RP w vl ls) (hu:RI w u (natI f)) (hf:∀e∈f,e<2*ls.length) (GB:f.length<=40) (Hn:zL ns ls):
  CB_ 209 #[.agg #[vn,vl],u] w (.int .i64 (jX ns ls f)):=by
 have GW:=Hn.2.2.1;have Hu:∀j:Nat,j<ls.length->zp ns (ndI ls j)=true:=fun j hj=>(Hn.2.2.2.2.2 j hj).1
 obtain⟨An,cn,rfl,ci,fC,Ht⟩:=hn.formI;obtain⟨bn,offn,rfl,GE,Gq⟩:=Ht (by have:=Hn.1;omega);obtain⟨Au,cu,rfl,hcu,hmu,cG⟩:=hu.form;rw[za] at hcu hmu cG hu⊢;unfold maxLen at fC hmu;have mT:=h_ (fun k hk=>VG Hn hf k hk);have HTO:=h_ (fun d (hd:d<2*ls.length)=>jK Hu hd);have mB:=h_ (fun d (hd:d<2*ls.length)=>qE Hu hd);have us:=h_ (fun t ht=>y7 Hn.2.2.2.1 t ht);have HAS:=h_ (XZ ns ls f);have HA0:Hid (yv ns ls f 0=0):=h_ rfl;have Ce:=h_ Gq;have HCU:=h_ cG;have HTX:=h_ (fun (e:Nat) (he:e<2*ls.length)=>kU e o_);have HFM:=h_ hf;clear Ht Gq cG Hn Hu hf
 go_enter Tryz.func209,Tryz.ntmps209
 go_wp2
 go_loopw [5,12] (fun n x wr=>∃k:Nat,k<=f.length/\x= .int .i64 k/\n= .int .i64 (yv ns ls f k)/\Blk wr w.heap.size 27 #[.slice (some ⟨bn,offn,none⟩) ns.length cn,vl]/\Below w.heap.size w wr) (fun _ x _=>f.length -(intOf x).toNat)
 case atStart=>exact⟨0,aab _,rfl,by rw[HA0.out],Blk.newAt rfl,by exact bel_⟩
 case round=>
  obtain⟨k,hk,rfl,rfl,hW,Hb⟩:=hrel;have gj:=hW.lt
  by_cases Hd:k<f.length
  ·have Hr:(k:Int)<(f.length:Int):=o_
   have ik1:(0:Int)<=(k:Int):=o_
   obtain⟨b4,off4,rfl,Hv,Fa⟩:=HCU.out o_;have GU:=Fa k Hd;rw[qj] at GU;have hx:=(Hb.cell (p:=⟨b4,off4+k,none⟩) Hv).trans GU;have Cc:f.getD k 0<2*ls.length:=HFM.out _ (by rw[List.getD,aac Hd];exact abh Hd);have NH:=h_ (HAS.out k);have fr:=mT.out k hk;generalize f.getD k 0=d at*;obtain⟨u,mu,GQ⟩:=HTO.out d Cc;obtain⟨t,Bj,Bm⟩:=mB.out d Cc;obtain⟨a_0,a_1⟩:=hW.c2;have X2:=h_ (HTX.out d Cc);have hpt:=jv Cc;have U0:=jy ls d;rw[mu] at U0;obtain⟨t0,t1⟩:=Ce.out t Bm;obtain⟨u0,u1⟩:=Ce.out u GQ;have bm:Hid (∀v:World,Below wr.heap.size wr v->v.cell? ⟨w.heap.size,0,none⟩=some (.slice (some ⟨bn,offn,none⟩) ns.length cn)/\v.cell? ⟨w.heap.size,1,none⟩=some vl):=h_ (fun v hv=>⟨(hv.cell (p:=⟨w.heap.size,0,none⟩) gj).trans a_0,(hv.cell (p:=⟨w.heap.size,1,none⟩) gj).trans a_1⟩)
   go_wp2_with fail
   refine vo (n:=18) (S:=fun v=>v.cell? ⟨w.heap.size,0,none⟩=some (.slice (some ⟨bn,offn,none⟩) ns.length cn)/\v.cell? ⟨w.heap.size,1,none⟩=some vl) k_ (bm.out _ (aaj _ _).drew) (fun hS=>?_)
   refine tE_ 0 rfl rfl ?_;(try simp only[lp_])
   refine tE_ 1 rfl rfl ?_;(try simp only[lp_])
   refine tE_ 2 rfl rfl ?_;(try simp only[lp_])
   refine tE_ 3 rfl rfl ?_;(try simp only[lp_])
   refine tE_ 7 rfl rfl ?_;(try simp only[lp_])
   refine tE_ 8 rfl rfl ?_;(try simp only[lp_])
   refine tE_ 9 rfl rfl ?_;(try simp only[lp_])
   refine tE_ 10 rfl rfl ?_;(try simp only[lp_])
   refine tE_ 11 rfl rfl ?_;(try simp only[lp_])
   rw[X2.out];have HC:=h_ (fun (v:World) (hb:Below wr.heap.size wr v)=>yT (.slice (some ⟨bn,offn,none⟩) ns.length cn) vl ls d v (hl.below (Hb.trans (hb.mono Hb.size))) Cc);have HD:=h_ (fun (v:World) (hb:Below wr.heap.size wr v)=>yT (.slice (some ⟨bn,offn,none⟩) ns.length cn) vl ls (twin d) v (hl.below (Hb.trans (hb.mono Hb.size))) hpt);rw[Bj] at HC;rw[U0] at HD;have Ub:bn<wr.heap.size:=aaE GE Hb.size;have HT:Hid (∀v:World,Below wr.heap.size wr v->v.cell? ⟨bn,offn+t*2,none⟩=some (.int .i64 (ndI ns t).1)/\v.cell? ⟨bn,offn+t*2+1,none⟩=some (.int .i64 (ndI ns t).2)):=h_ (fun v hv=>⟨(hv.cell (p:=⟨bn,offn+t*2,none⟩) Ub).trans ((Hb.cell (p:=⟨bn,offn+t*2,none⟩) GE).trans t0),(hv.cell (p:=⟨bn,offn+t*2+1,none⟩) Ub).trans ((Hb.cell (p:=⟨bn,offn+t*2+1,none⟩) GE).trans t1)⟩);have HU:Hid (∀v:World,Below wr.heap.size wr v->v.cell? ⟨bn,offn+u*2,none⟩=some (.int .i64 (ndI ns u).1)/\v.cell? ⟨bn,offn+u*2+1,none⟩=some (.int .i64 (ndI ns u).2)):=h_ (fun v hv=>⟨(hv.cell (p:=⟨bn,offn+u*2,none⟩) Ub).trans ((Hb.cell (p:=⟨bn,offn+u*2,none⟩) GE).trans u0),(hv.cell (p:=⟨bn,offn+u*2+1,none⟩) Ub).trans ((Hb.cell (p:=⟨bn,offn+u*2+1,none⟩) GE).trans u1)⟩);have HS:Hid (∀v:World,Below wr.heap.size wr v->v.cell? ⟨w.heap.size,0,none⟩=some (.slice (some ⟨bn,offn,none⟩) ns.length cn)/\v.cell? ⟨w.heap.size,1,none⟩=some vl):=bm
   have uQ:Hid (yB ns ls d=(ndI ns t).1*(ndI ns u).2 -(ndI ns t).2*(ndI ns u).1):=h_ (by unfold yB;rw[Bj,mu]);obtain⟨p0,p1,p2,p3⟩:=zx (us.out t Bm);obtain⟨q0,q1,q2,q3⟩:=zx (us.out u GQ);have it1:(0:Int)<=(t:Int):=o_
   have it2:(t:Int)<(ns.length:Int):=o_
   have iu1:(0:Int)<=(u:Int):=o_
   have iu2:(u:Int)<(ns.length:Int):=o_
   generalize twin d=pe at*;clear bm t0 t1 u0 u1 Bj mu U0
   refine z5M (n:=18) (Inv:=fun L a v=>∃v8 v9 v20 v21 v22 v28 v29 v30,a= {
     tmps:= #[.agg #[.slice (some ⟨bn,offn,none⟩) ns.length cn,vl],.slice (some ⟨b4,off4,none⟩) f.length cu,.pointer (some ⟨w.heap.size,0,none⟩),undef,.int .i64 0,.int .i64 (yv ns ls f k),undef,.int .i64 d,v8,v9,
      .slice (some ⟨b4,off4,none⟩) f.length cu,.int .i64 f.length,.int .i64 k,.bool true,.pointer (some ⟨b4,off4+k,none⟩),.int .i64 d,.pointer (some ⟨w.heap.size,0,none⟩),.slice (some ⟨bn,offn,none⟩) ns.length cn,.agg #[.slice (some ⟨bn,offn,none⟩) ns.length cn,vl],.int .i64 d,v20,v21,v22,
      .pointer (some ⟨w.heap.size,0,none⟩),.slice (some ⟨bn,offn,none⟩) ns.length cn,.agg #[.slice (some ⟨bn,offn,none⟩) ns.length cn,vl],.int .i64 d,.int .i64 pe,v28,v29,v30,
      u31,u32,u33,u34,u35,u36,u37,u38,u39,u40,u41,u42,u43,u44,undef],defers:=[] }/\
     Below wr.heap.size wr v/\(∀j∈ [0,1,2,3,7,8,9,10,11],tk L j=true)/\
     Aft L 4 (v20= .int .i64 t)/\Aft L 5 (v21= .pointer (some ⟨bn,offn+t*2,none⟩))/\Aft L 6 (v22= .agg #[.int .i64 (ndI ns t).1,.int .i64 (ndI ns t).2])/\
     Aft L 12 (v28= .int .i64 u)/\Aft L 13 (v29= .pointer (some ⟨bn,offn+u*2,none⟩))/\Aft L 14 (v30= .agg #[.int .i64 (ndI ns u).1,.int .i64 (ndI ns u).2])/\
     One L 15 17 wr.heap.size 106 #[.int .i64 0,.int .i64 0] #[.int .i64 (ndI ns t).1,.int .i64 (ndI ns t).2] v8 v/\
     One L 16 18 wr.heap.size 106 #[.int .i64 0,.int .i64 0] #[.int .i64 (ndI ns u).1,.int .i64 (ndI ns u).2] v9 v/\
     Apart2 L 15 16 v8 v9) (by decide) k_ k_ ?_ ?_ 10 _ _ _ rfl ?_ k_ ?_
   ·intro L a v hI i hi hr
    obtain⟨v8,v9,v20,v21,v22,v28,v29,v30,rfl,hb,GY,f4,f5,f6,f12,f13,f14,o8,o9,p89⟩:=hI;have GQ:=z04 hr;have uW:=HS.out v hb
    rcases(show i=4∨i=5∨i=6∨i=12∨i=13∨i=14∨i=15∨i=16∨i=17∨i∈ [0,1,2,3,7,8,9,10,11] by simp only[List.mem_cons,List.mem_nil_iff,or_false];omega) with rfl|rfl|rfl|rfl|rfl|rfl|rfl|rfl|rfl|hm
    ·--4
     refine qD rfl (fun K hK=>?_)
     rw[aao (by rfl)];go_simp
     go_at_call 241
     refine(HC.out _ hb).mono ?_
     rintro en w1 ⟨rfl,h9⟩
     go_wp2_with fail
     have gy:=hb.trans (h9.mono hb.size);exact⟨HS.out _ gy,_,_,_,_,_,_,_,_,rfl,gy,preS GY,Aft.new rfl,f5.keep (by decide),f6.keep (by decide),f12.keep (by decide),f13.keep (by decide),f14.keep (by decide),o8.step (by decide) (by decide) h9,o9.step (by decide) (by decide) h9,p89.step (by decide) (by decide)⟩
    ·--5
     obtain rfl:=f4 (qU hr rfl k_);refine qD rfl (fun K hK=>?_)
     rw[aao (by rfl)];go_simp;exact hK _ _ ⟨uW,_,_,_,_,_,_,_,_,rfl,hb,preS GY,f4.keep (by decide),Aft.new rfl,f6.keep (by decide),f12.keep (by decide),f13.keep (by decide),f14.keep (by decide),o8.step (by decide) (by decide) (aaj _ _),o9.step (by decide) (by decide) (aaj _ _),p89.step (by decide) (by decide)⟩
    ·--6
     obtain rfl:=f5 (qU hr rfl k_);obtain⟨c0,c1⟩:=HT.out v hb;refine qD rfl (fun K hK=>?_)
     rw[aao (by rfl)];go_simp;exact hK _ _ ⟨uW,_,_,_,_,_,_,_,_,rfl,hb,preS GY,f4.keep (by decide),f5.keep (by decide),Aft.new rfl,f12.keep (by decide),f13.keep (by decide),f14.keep (by decide),o8.step (by decide) (by decide) (aaj _ _),o9.step (by decide) (by decide) (aaj _ _),p89.step (by decide) (by decide)⟩
    ·--12
     refine qD rfl (fun K hK=>?_)
     rw[aao (by rfl)];go_simp
     go_at_call 241
     refine(HD.out _ hb).mono ?_
     rintro en w1 ⟨rfl,h9⟩
     go_wp2_with fail
     have gy:=hb.trans (h9.mono hb.size);exact⟨HS.out _ gy,_,_,_,_,_,_,_,_,rfl,gy,preS GY,f4.keep (by decide),f5.keep (by decide),f6.keep (by decide),Aft.new rfl,f13.keep (by decide),f14.keep (by decide),o8.step (by decide) (by decide) h9,o9.step (by decide) (by decide) h9,p89.step (by decide) (by decide)⟩
    ·--13
     obtain rfl:=f12 (qU hr rfl k_);refine qD rfl (fun K hK=>?_)
     rw[aao (by rfl)];go_simp;exact hK _ _ ⟨uW,_,_,_,_,_,_,_,_,rfl,hb,preS GY,f4.keep (by decide),f5.keep (by decide),f6.keep (by decide),f12.keep (by decide),Aft.new rfl,f14.keep (by decide),o8.step (by decide) (by decide) (aaj _ _),o9.step (by decide) (by decide) (aaj _ _),p89.step (by decide) (by decide)⟩
    ·--14
     obtain rfl:=f13 (qU hr rfl k_);obtain⟨c0,c1⟩:=HU.out v hb;refine qD rfl (fun K hK=>?_)
     rw[aao (by rfl)];go_simp;exact hK _ _ ⟨uW,_,_,_,_,_,_,_,_,rfl,hb,preS GY,f4.keep (by decide),f5.keep (by decide),f6.keep (by decide),f12.keep (by decide),f13.keep (by decide),Aft.new rfl,o8.step (by decide) (by decide) (aaj _ _),o9.step (by decide) (by decide) (aaj _ _),p89.step (by decide) (by decide)⟩
    ·--15
     refine qD rfl (fun K hK=>?_)
     rw[aao (by rfl)];go_simp;have h9:Below v.heap.size v (v.alloc (.cells #[.int .i64 0,.int .i64 0] 106)):=(aaj _ _).alloc (aaa _) _;have gy:=hb.trans (h9.mono hb.size);exact hK _ _ ⟨HS.out _ gy,_,_,_,_,_,_,_,_,rfl,gy,preS GY,f4.keep (by decide),f5.keep (by decide),f6.keep (by decide),f12.keep (by decide),f13.keep (by decide),f14.keep (by decide),o8.lay GQ (by decide) hb.size,o9.step (by decide) (by decide) h9,Apart2.newL o9 (by decide)⟩
    ·--16
     refine qD rfl (fun K hK=>?_)
     rw[aao (by rfl)];go_simp;have h9:Below v.heap.size v (v.alloc (.cells #[.int .i64 0,.int .i64 0] 106)):=(aaj _ _).alloc (aaa _) _;have gy:=hb.trans (h9.mono hb.size);exact hK _ _ ⟨HS.out _ gy,_,_,_,_,_,_,_,_,rfl,gy,preS GY,f4.keep (by decide),f5.keep (by decide),f6.keep (by decide),f12.keep (by decide),f13.keep (by decide),f14.keep (by decide),o8.step (by decide) (by decide) h9,o9.lay GQ (by decide) hb.size,Apart2.newR o8 (by decide)⟩
    ·--17
     have h15:=qU (j:=15) hr rfl k_;obtain⟨g,rfl,hg,hB⟩:=o8.zero h15 GQ;obtain rfl:=f6 (qU hr rfl k_);obtain⟨b_0,b_1,b_f0,b_f1⟩:=hB.b2;refine qD rfl (fun K hK=>?_)
     rw[aao (by rfl)];go_simp;have gy:=(hb.setCell (p:=⟨g,0,none⟩) hg (.int .i64 (ndI ns t).1)).setCell (p:=⟨g,1,none⟩) hg (.int .i64 (ndI ns t).2);exact hK _ _ ⟨HS.out _ gy,_,_,_,_,_,_,_,_,rfl,gy,preS GY,f4.keep (by decide),f5.keep (by decide),f6.keep (by decide),f12.keep (by decide),f13.keep (by decide),f14.keep (by decide),o8.fill h15 GQ rfl (by decide),o9.far (by decide) (by decide) (fun h=>(p89 h15 h).symm) 0 1 _ _,p89.step (by decide) (by decide)⟩
    ·rw[GY i hm] at GQ;cases GQ
   ·intro a v hI
    obtain⟨v8,v9,v20,v21,v22,v28,v29,v30,rfl,hb,GY,f4,f5,f6,f12,f13,f14,o8,o9,p89⟩:=hI;obtain rfl:=f14 k_;obtain⟨g9,rfl,hg9,hB⟩:=o9.zero k_ k_;obtain⟨g8,rfl,hg8,hB8⟩:=o8.full k_;have n8:g8≠g9:=fun h=>p89 k_ k_ (by rw[h])
    obtain⟨b_0,b_1,b_f0,b_f1⟩:=hB.b2;refine qg (fuel:=0) (n:=18) (i:=18) rfl k_ (fun K hK=>?_)
    rw[aao (by rfl)];go_simp;refine hK _ _ (fun h=>absurd h (by decide)) (fun _=>?_)
    clear hK K;refine ky k_ ?_ _
    have gy:=(hb.setCell (p:=⟨g9,0,none⟩) hg9 (.int .i64 (ndI ns u).1)).setCell (p:=⟨g9,1,none⟩) hg9 (.int .i64 (ndI ns u).2)
    have W9:Blk ((v.setCell ⟨g9,0,none⟩ (.int .i64 (ndI ns u).1)).setCell ⟨g9,1,none⟩ (.int .i64 (ndI ns u).2)) g9 106 #[.int .i64 (ndI ns u).1,.int .i64 (ndI ns u).2]:=by
     have:=(hB.set_ 0 (.int .i64 (ndI ns u).1)).set_ 1 (.int .i64 (ndI ns u).2)
     simpa using this
    have Ya:=(hB8.far (p:=⟨g9,0,none⟩) n8 (.int .i64 (ndI ns u).1)).far (p:=⟨g9,1,none⟩) n8 (.int .i64 (ndI ns u).2);generalize ((v.setCell ⟨g9,0,none⟩ (.int .i64 (ndI ns u).1)).setCell ⟨g9,1,none⟩ (.int .i64 (ndI ns u).2))=w3 at*;have hWW:=hW.below gy gj;have gc:=Hb.trans (gy.mono Hb.size);clear hB hB8 b_0 b_1 b_f0 b_f1 hb o8 o9 p89 f4 f5 f6 f12 f13 f14 GY HC HD HT HU HS hW Hb hS a_0 a_1;obtain⟨c_0,c_1,c_f0,c_f1⟩:=Ya.b2;obtain⟨e_0,e_1,e_f0,e_f1⟩:=W9.b2;generalize (ndI ns t).1=X at*;generalize (ndI ns t).2=Y at*;generalize (ndI ns u).1=U at*;generalize (ndI ns u).2=V at*;have m1:=ku (u:=X) (v:=V) o_ o_ o_ o_;have m2:=ku (u:=Y) (v:=U) o_ o_ o_ o_;obtain⟨m1a,m1b⟩:=m1;obtain⟨m2a,m2b⟩:=m2;obtain⟨ba,bb⟩:=fr;go_wp2;go_roundw
    case rel=>
     have MK:∃k':Nat,k'<=f.length/\Value.int .i64 ((k:Int)+1)= .int .i64 k'/\Value.int .i64 (yv ns ls f k+(X*V -Y*U))= .int .i64 (yv ns ls f k')/\Blk w3 w.heap.size 27 #[.slice (some ⟨bn,offn,none⟩) ns.length cn,vl]/\Below w.heap.size w w3:=⟨k+1,by omega,by go_num,by rw[NH.out,uQ.out],hWW,gc⟩
     first|exact MK|((repeat apply Exists.intro);exact⟨MK,rfl⟩)
    case measure=>simp[intOf];omega
   ·intro j h1 h2
    have:j=18:=by
     have h3:j<19:=h2;omega
    subst this;rfl
   ·refine⟨_,_,_,_,_,_,_,_,rfl,(aaj _ _).drew,by decide,Aft.no rfl,Aft.no rfl,Aft.no rfl,Aft.no rfl,Aft.no rfl,Aft.no rfl,One.start rfl rfl,One.start rfl rfl,Apart2.start rfl⟩
  ·have Hw:k=f.length:=o_
   subst Hw;have HR:Hid (jX ns ls f=yv ns ls f f.length):=h_ rfl;go_wp2;go_ret
   exact⟨zb HR.out.symm,Hb⟩
end Go.Proofs.YtnjcpljhmhdhkaaGreat
