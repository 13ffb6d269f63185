/- part 10 -/
import Derived.Test.YtnjcpljhmhdhkaaGreatEPk8
import Derived.Test.YtnjcpljhmhdhkaaGreatEPk9
set_option linter.unusedSimpArgs false
set_option linter.unusedVariables false
set_option maxRecDepth 100000
set_option maxHeartbeats 8000000
namespace Go.Proofs.YtnjcpljhmhdhkaaGreat
open Go.RowKit
theorem ZH (f:Nat) (lb:Array Value) (w:World):
  Calls Tryz.prog 246 #[.slice none 0 0,.int .i64 0,.int .i64 0,.func (.func f) #[] lb] w
   fun e w'=>e= .returned (.tuple #[])/\Below w.heap.size w w':=by
 go_enter Tryz.func246,Tryz.ntmps246
 go_wp2;refine wp_loop_rounds 1 ?_
 rw[rounds_succ];go_wp2
 go_end0
 exact⟨rfl,by exact bel_⟩
theorem z7D (base f g cap:Nat) (k:Int) (lb:Array Value) (G:List Nat) (c:Nat->Nat->Int) (lt:Nat->Nat->Bool) (w:World) (hc:ZM f lb G c (some g) w) (Hf:∀d e,decide (c d e<0)=lt d e)
  (ho:OwnI base w (.slice (some ⟨g,0,none⟩) G.length cap) (natI G)) (mJ:G.length<=12) (ef:Enters Tryz.prog f):
  Calls Tryz.prog 273 #[.slice (some ⟨g,0,none⟩) G.length cap,.int .i64 0,.int .i64 G.length,.int .i64 k,.func (.func f) #[] lb] w
   fun e w'=>e= .returned (.tuple #[])/\OwnI base w' (.slice (some ⟨g,0,none⟩) G.length cap) (natI (isoK lt G G.length))/\w.grownBy w' (some g):=by
 have h1:(G.length:Int)<=12:=o_
 go_enter Tryz.func273,Tryz.ntmps273
 go_wp2;refine wp_loop_rounds 1 ?_
 rw[rounds_succ]
 go_wp2_with fail
 refine(z2G base f g cap lb G c lt _ hc Hf ho mJ ef).mono ?_
 rintro e w1 ⟨rfl,Hi,gD⟩;go_wp2;exact bodyPost_ret (v:= .tuple #[]) (by simp[results,Tryz.results273,go_sem]) rfl ⟨rfl,Hi,gD⟩
theorem z5k (base f g cap:Nat) (lb:Array Value) (G:List Nat) (c:Nat->Nat->Int) (lt:Nat->Nat->Bool) (w:World) (hc:ZM f lb G c (some g) w) (Hf:∀d e,decide (c d e<0)=lt d e)
  (ho:OwnI base w (.slice (some ⟨g,0,none⟩) G.length cap) (natI G)) (mJ:G.length<=12) (ef:Enters Tryz.prog f):
  Calls Tryz.prog 267 #[.slice (some ⟨g,0,none⟩) G.length cap,.func (.func f) #[] lb] w
   fun e w'=>e= .returned (.tuple #[])/\OwnI base w' (.slice (some ⟨g,0,none⟩) G.length cap) (natI (isoK lt G G.length))/\w.grownBy w' (some g):=by
 have h0:(0:Int)<=(G.length:Int):=o_
 have h1:(G.length:Int)<=12:=o_
 go_enter Tryz.func267,Tryz.ntmps267
 go_wp2_with (go_at_call 274;refine(z4j _ _ h0 h1).mono ?_;rintro e w' ⟨⟨k,rfl⟩,rfl⟩)
 refine(z7D base f g cap _ lb G c lt _ hc Hf ho mJ ef).mono ?_
 rintro e w1 ⟨rfl,Hi,gD⟩;go_wp2
 go_end0
 exact⟨rfl,Hi,gD⟩
theorem z80 (f:Nat) (k:Int) (lb:Array Value) (w:World):
  Calls Tryz.prog 273 #[.slice none 0 0,.int .i64 0,.int .i64 0,.int .i64 k,.func (.func f) #[] lb] w
   fun e w'=>e= .returned (.tuple #[])/\Below w.heap.size w w':=by
 go_enter Tryz.func273,Tryz.ntmps273
 go_wp2;refine wp_loop_rounds 1 ?_
 rw[rounds_succ]
 go_wp2_with fail
 refine(ZH f lb _).mono ?_
 rintro e w1 ⟨rfl,h9⟩;go_wp2;exact bodyPost_ret (v:= .tuple #[]) (by simp[results,Tryz.results273,go_sem]) rfl ⟨rfl,h9⟩
theorem z4M (f:Nat) (lb:Array Value) (w:World):
  Calls Tryz.prog 267 #[.slice none 0 0,.func (.func f) #[] lb] w
   fun e w'=>e= .returned (.tuple #[])/\Below w.heap.size w w':=by
 go_enter Tryz.func267,Tryz.ntmps267
 go_wp2_with (go_at_call 274;refine(z4j 0 _ o_ o_).mono ?_;rintro e w' ⟨⟨k,rfl⟩,rfl⟩)
 refine(z80 f _ lb _).mono ?_
 rintro e w1 ⟨rfl,h9⟩;go_wp2
 go_end0
 exact⟨rfl,h9⟩
theorem z4o (ls:List Pr) (k:Nat):∀d,(frD ls k d).length <=d
 |0=>by simp[frD]
 |d+1=>by
  have:=z4o ls k d;unfold frD
  split<;>simp<;>omega
theorem z2m (vn vl:Value) (ns ls:List Pr) (k:Nat) (w:World) (hn:RP w vn ns) (hl:RP w vl ls) (hk:k<ns.length) (Hh:zC ns ls):
  Calls Tryz.prog 262 #[.agg #[vn,vl],.int .i64 k] w (RetI (natI (ardS ns ls k (2*ls.length))) w):=by
 have GD:=Hh.2.2.1;obtain⟨Al,cl,rfl,Hy,Gz,_⟩:=hl.formI;unfold maxLen at Gz;obtain⟨i0,hi,iz0,iz1,iz2⟩:=info_parts qu
 go_enter Tryz.func262,Tryz.ntmps262
 go_wp2
 go_loopw [5,6] (fun v i wr=>∃d:Nat,d<=2*ls.length/\i= .int .i64 d/\OwnI (w.heap.size+1+1) wr v (natI (frD ls k d))/\Blk wr w.heap.size 27 #[vn,.slice Al ls.length cl]/\Blk wr (w.heap.size+1) 3 #[.int .i64 k]/\Below w.heap.size w wr) (fun _ i _=>2*ls.length -(intOf i).toNat)
 case atStart=>exact⟨0,aab _,rfl,OwnI.nil _ _,(Blk.newAt rfl).alloc _,Blk.newAt (by simp),by exact bel_⟩
 case round=>
  obtain⟨d,hd,rfl,ho,hW,hK,Hb⟩:=hrel;have gx:=hW.lt;have YF:=hK.lt
  by_cases Hf:d<2*ls.length
  ·have Hp:(d:Int)<2*(ls.length:Int):=o_
   have Mt:RP wr (.slice Al ls.length cl) ls:=hl.below Hb;have kk:=hK.cell 0;simp only[abd,aag] at kk
   obtain⟨a_0,a_1⟩:=hW.c2
   go_wp2_with fail
   (refine z7 k_ k_ (fun hG=>?_))
   repeat (go_big_quiet_step ((go_at_call 241;exact zI (yF _ _ ls d _ (RS.grw _ Mt) Hf))))
   (refine wpQuiet_nil ?_);(clear hG);(rintro w3 ⟨⟨_,He⟩,rfl⟩);(try dsimp only);have G5:=He.size;(try simp at G5);(try have Fw:=p0_ w w3);(try have Fy:=p1_ w w3)
   have gq:Below w.heap.size w w3:=Hb.trans (He.mono Hb.size);have Hm:=ho.kept He;have GA:=hW.below He gx;have Np:=hK.below He YF
   by_cases Ct:zc ls d=k
   ·have e1:(zc ls d==(k:Int))=true:=by simp[Ct]
    have HS:Hid (natI (frD ls k (d+1))=natI (frD ls k d)++[(d:Int)]):=h_ (by rw[J6 Ct];simp[natI]);have hle:=z4o ls k d;have F0:=h_ (za (frD ls k d));generalize frD ls k d=G at*;have hG:G.length<=40:=o_
    go_wp2_with (at_builtin;refine wpList_append_own _ rfl _ _ 31 rfl (w.heap.size+1+1) 3 i0 (.int .i64 0) 1 8 Tryz.underlying31 hi iz0 iz1 iz2 rfl (by decide) _ _ _ rfl (World.ownsRow.alloc Hm _) ⟨w3.heap.size,0,none⟩ 1 1 [.int .i64 _] rfl rfl (cell_one_new _ _ _) (by intro u hu;simp at hu;subst hu;rfl) (by rw[F0.out];unfold maxLen;omega) (by rw[F0.out];omega) (by simp;omega) ?_)
    intro v2 w2 GU gm Gs;have Gb:Below w.heap.size w w2:=(gq.alloc gq.size (.cells #[.int .i64 (d:Int)] 3)).grown gm (by simp;have:=gq.size;omega) (fun k hk=>by have:=(Hm.lt k hk).1;omega);have gM:Blk w2 w.heap.size 27 #[vn,.slice Al ls.length cl]:=(gm.block _ (by simp;omega) (fun e=>by have:=(Hm.lt _ e.symm).1;omega)).trans (GA.alloc _);have hK2:Blk w2 (w.heap.size+1) 3 #[.int .i64 k]:=(gm.block _ (by simp;omega) (fun e=>by have:=(Hm.lt _ e.symm).1;omega)).trans (Np.alloc _);have HO:=h_ (OwnI.snoc GU);go_wp2;go_roundw
    case rel=>exact⟨d+1,by omega,by go_num,by rw[HS.out];exact HO.out,gM,hK2,Gb⟩
    case measure=>simp[intOf];omega
   ·have e1:(zc ls d==(k:Int))=false:=by simp[Ct]
    have HS:Hid (frD ls k (d+1)=frD ls k d):=h_ (z0W Ct);go_wp2;go_roundw
    case rel=>exact⟨d+1,by omega,by go_num,by rw[HS.out];exact Hm,GA,Np,gq⟩
    case measure=>simp[intOf];omega
  ·have Cf:d=2*ls.length:=o_
   subst Cf;obtain⟨a_0,a_1⟩:=hW.c2;have YG:=Jc ns ls k (2*ls.length);have mJ:=z67 Hh k;have BE:=Vz ls k (2*ls.length);generalize frD ls k (2*ls.length)=G at*
   rcases FB:ho.2 with ⟨rfl,e1⟩|⟨gb,cap,cur,rfl,Ce,hh,fN⟩
   ·have YH:G=[]:=by rw[za] at e1;exact abx e1
    have HR:Hid (ardS ns ls k (2*ls.length)=[]):=h_ (by rw[<-YG,YH];rfl)
    go_wp2_with fail
    refine(z4M _ _ _).mono ?_
    rintro e w4 ⟨rfl,Hw⟩;go_wp2;go_ret
    exact⟨_,rfl,by rw[HR.out];exact OwnI.nil _ _,Hb.trans (Hw.mono Hb.size)⟩
   ·have CW:=(ho.lt gb rfl).2
    have hgl:=za G;rw[hgl] at ho⊢
    have hc:ZM 268 #[.pointer (some ⟨w.heap.size,0,none⟩),.pointer (some ⟨w.heap.size+1,0,none⟩)] G (cmpD ns ls k) (some gb) wr:=by
     intro v d e hd he U7;have hbv:Below w.heap.size w v:=Hb.grown U7 Hb.size (fun k hk=>by cases hk;omega);have hWv:=hW.grown U7 o_;have hKv:=hK.grown U7 o_;have kk:=hKv.cell 0;simp only[abd,aag] at kk
     exact z8v w.heap.size (w.heap.size+1) vn (.slice Al ls.length cl) ns ls k d e v hWv kk hKv.lt (hn.below hbv) (hl.below hbv) hk (BE d hd).1 (BE e he).1 Hh
    have HC:=h_ hc;have HO:=h_ ho;have U8:=h_ YG
    go_wp2_with fail
    refine(z5k (w.heap.size+1+1) _ gb cap _ G (cmpD ns ls k) (bfD ns ls k) _ HC.out (z81 ns ls k) HO.out mJ (enters_of Tryz.func268 k_ rfl)).mono ?_
    rintro e w4 ⟨rfl,gH,Gc⟩;rw[U8.out] at gH;go_wp2;go_ret
    exact⟨_,rfl,gH.mono o_,Hb.grown Gc Hb.size (fun k hk=>by cases hk;omega)⟩
def idxN (l:List Nat) (d:Nat):Int:=if d∈l then(l.idxOf d:Int) else -1
theorem z4c {l:List Nat} {d:Nat} (h:d∉l):idxN l d= -1:=by simp[idxN,h]
theorem z4p {l:List Nat} {d k:Nat} (hk:k<l.length) (h:d∉l.take k) (hp:l.getD k 0=d):idxN l d=k:=by
 have Uw:l[k]=d:=by simpa[List.getD,hk] using hp
 have e:l=l.take k++d::l.drop (k+1):=by
  rw[<-Uw,<-aas hk,abo]
 have hm:d∈l:=by rw[e];simp
 unfold idxN;rw[aao hm]
 have:l.idxOf d=k:=by
  rw[e,List.idxOf_append,aaq h,List.idxOf_cons_self];simp;omega
 rw[this]
theorem qs (l:List Nat) (k:Nat):(natI l).getD k 0=((l.getD k 0:Nat):Int):=by
 unfold natI;simp only[List.getD,aau]
 cases l[k]? <;>rfl
theorem Q7 {l:List Nat} {d k:Nat} (hk:k<l.length) (h:d∉l.take k) (gd:l.getD k 0≠d):d∉l.take (k+1):=by
 rw[aax hk,aaI,aa9];rintro(h2|h2)
 ·exact h h2
 ·apply gd
  rw[h2];simp[List.getD,hk]
theorem QD (v:Value) (l:List Nat) (d:Nat) (w:World) (h:RI w v (natI l)):
  Calls Tryz.prog 85 #[v,.int .i64 d] w fun e w'=>e= .returned (.int .i64 (idxN l d))/\w=w':=by
 obtain⟨A,c,rfl,hc,hm,hcell⟩:=h.form;rw[za] at hc hm hcell⊢;unfold maxLen at hm;clear h
 go_enter Tryz.func85,Tryz.ntmps85
 go_wp2
 go_loop [8] (fun i=>∃k:Nat,k<=l.length/\i= .int .i64 k/\Hid (d∉l.take k)) (fun i=>l.length -(intOf i).toNat)
 case atStart=>exact⟨0,aab _,rfl,h_ (by simp)⟩
 case round=>
  obtain⟨k,hk,rfl,HT⟩:=hrel
  by_cases Hf:k<l.length
  ·obtain⟨b,off,rfl,hb,Hy⟩:=hcell o_
   have G8:=Hy k Hf;rw[qs] at G8;clear Hy hcell;have HS:=h_ (fun gd=>Q7 Hf HT.out gd);have HY:=h_ (fun he=>z4p Hf HT.out he);generalize l.getD k 0=x at*
   by_cases he:x=d
   ·have e1:((d:Int)==(x:Int))=true:=by simp[he]
    have HX:=h_ (HY.out he);clear he;go_wp2;go_ret
    exact⟨zo HX.out.symm,rfl⟩
   ·have e1:((d:Int)==(x:Int))=false:=by simp;omega
    have HX:=h_ (HS.out he);clear he;go_wp2;go_round
    case rel=>exact⟨k+1,by omega,by go_num,HX⟩
    case measure=>simp[intOf];omega
  ·have gi:l.length<=k:=o_
   have h:=HT.out;rw[aaK gi] at h;have HX:Hid (idxN l d= -1):=h_ (z4c h);clear h hcell;go_wp2;go_ret
   exact⟨zo HX.out.symm,rfl⟩
theorem z8r {l:List Nat} {d:Nat} (h:d∈l):idxN l d=(l.idxOf d:Int):=by simp[idxN,h]
theorem JV {ns ls:List Pr} (Hh:zC ns ls) {d:Nat} (hd:d<2*ls.length):∃(t:Nat) (G:List Nat) (i q:Nat),zc ls d=(t:Int)/\t<ns.length/\ardS ns ls t (2*ls.length)=G/\idxN G d=(i:Int)/\i<G.length/\G.length<=12/\G.getD i 0=d/\d∉G.take i/\
  (i+G.length -1)%G.length=q/\q<G.length/\G.getD q 0=yU ns ls d:=by
 have Ho:∀j:Nat,j<ls.length->zv ns (ndI ls j)=true:=fun j hj=>(Hh.2.2.2.2.2 j hj).1
 obtain⟨t,ht,CV⟩:=qE Ho hd;have hr:qG ns ls d=ardS ns ls t (2*ls.length):=by unfold qG;rw[ht,aa5]
 have hm:=kj Ho hd;have cf:=abt hm;have fv:=abh hm;have mJ:=z67 Hh t;have YG:=Jc ns ls t (2*ls.length);have Hj:(qG ns ls d).length =(frD ls t (2*ls.length)).length :=by rw[hr,<-YG,jx _ _ _ (aaa _)]
 refine⟨t,qG ns ls d,(qG ns ls d).idxOf d,_,ht,CV,hr.symm,z8r hm,cf,by omega,?_,?_,rfl,Nat.mod_lt _ fv,rfl⟩
 ·rw[List.getD,aac cf,List.getElem_idxOf cf];rfl
 ·intro hc
  have hn:(qG ns ls d).Nodup :=vu _ _ _ _;obtain⟨j,hj,e⟩:=aba hc;rw[abm] at hj;rw[abp] at e;have e2:=List.getElem_idxOf cf;have:=(List.getElem_inj hn (h₀:=by omega) (h₁:=cf)).1 (e.trans e2.symm);omega
theorem z1c (vn vl:Value) (ns ls:List Pr) (d:Nat) (w:World) (hn:RP w vn ns) (hl:RP w vl ls) (hd:d<2*ls.length) (Hh:zC ns ls):
  CB_ 245 #[.agg #[vn,vl],.int .i64 d,.int .i64 (-1)] w (.int .i64 (yU ns ls d)):=by
 obtain⟨t,G,i,q,ht,CV,hG,Nq,cf,mJ,_,_,hq,Br,fj⟩:=JV Hh hd;have HW:=h_ Hh;have Hg:Below w.heap.size w (w.alloc (.cells #[vn,vl] 27)):=bel_
 have nP:=h_ (fun (v:World) (hv:Below w.heap.size w v)=>yF vn vl ls d v (hl.below hv) hd);have Ux:=h_ (fun (v:World) (hv:Below w.heap.size w v)=>z2m vn vl ns ls t v (hn.below hv) (hl.below hv) CV HW.out);rw[ht] at nP;rw[hG] at Ux;rw[<-fj];obtain⟨x,hx⟩:∃x,G.getD q 0=x:=⟨_,rfl⟩;rw[hx];have HX:=h_ hx;clear hx;have HID:=h_ Nq;clear Nq fj hG Hh ht;have HQ:=h_ hq;clear hq
 go_enter Tryz.func245,Tryz.ntmps245
 go_wp2_with fail
 go_region_held3 (fun w'=>w'.cell? ⟨w.heap.size,0,none⟩=some vn/\w'.cell? ⟨w.heap.size,1,none⟩=some vl)
  (go_keep)
  (first|(go_at_call 241;refine(nP.out _ bel_).mono ?_;rintro e w1 ⟨rfl,h9⟩;(have gc:=bdC h9);have Ht:=h9.size;(try simp at Ht);(try have gF:=p0_ w w1);have h8:Below w.heap.size w w1:=bel_)|(go_at_call 262;refine(Ux.out _ bel_).mono ?_;rintro e w2 ⟨v2,rfl,Hk,Hd⟩;(have gE:=bcC Hd)))
 have Ha:Below w.heap.size w w2:=bel_
 have mv:=Hk.reads;obtain⟨A,c,rfl,hc,hm,hcell⟩:=mv.form;rw[za] at hc hm hcell mv⊢;obtain⟨b,off,rfl,gj,Hy⟩:=hcell o_;have G8:=Hy q Br;rw[qs] at G8;clear Hy hcell gc gE;rw[HX.out] at G8;have e1:(i:Int)+ -1+(G.length:Int)=((i+G.length -1:Nat):Int):=o_
 have e2:((i+G.length -1:Nat):Int).tmod (G.length:Int)=(q:Int):=by
  rw[Int.tmod_eq_emod_of_nonneg (Int.natCast_nonneg _),<-Int.natCast_emod,HQ.out]
 have i1:(0:Int)<=(q:Int):=o_
 have i2:(q:Int)<(G.length:Int):=o_
 go_wp2_with fail
 refine(QD _ G d _ mv).mono ?_
 rintro e w3 ⟨rfl,rfl⟩;rw[HID.out];go_wp2;go_ret
 exact⟨rfl,by exact bel_⟩
theorem z3x (vn vl:Value) (ns ls:List Pr) (d:Nat) (w:World) (hn:RP w vn ns) (hl:RP w vl ls) (hd:d<2*ls.length) (Hh:zC ns ls):
  CB_ 261 #[.agg #[vn,vl],.int .i64 d,.int .i64 (-1)] w (.int .i64 (yU ns ls d)):=by
 obtain⟨t,G,i,q,ht,CV,hG,Nq,cf,mJ,nN,hni,hq,Br,fj⟩:=JV Hh hd;have Ho:∀j:Nat,j<ls.length->zv ns (ndI ls j)=true:=fun j hj=>(Hh.2.2.2.2.2 j hj).1
 have CU:=h_ Ho;have HNI:=h_ hni;have HGI:=h_ nN;have HM:=h_ (And.intro Hh.2.2.1 Hh.2.1);rw[<-fj];obtain⟨x,hx⟩:∃x,G.getD q 0=x:=⟨_,rfl⟩;rw[hx];have HX:=h_ hx;clear hx;have HG:=h_ hG;have HT:=h_ ht;clear Nq fj hG Hh ht hni nN Ho;have HQ:=h_ hq;clear hq
 go_enter Tryz.func261,Tryz.ntmps261
 go_wp2_with fail
 refine(kf _ _ ls d _ (hl.below bel_) hd).mono ?_
 rintro e w1 ⟨rfl,h9⟩;(have gc:=bcC h9)
 have h8:Below w.heap.size w w1:=bel_
 rw[HT.out]
 go_wp2_with fail
 refine(z2e _ _ ns ls t _ (hn.below h8) (hl.below h8) CV HM.out.1 HM.out.2 CU.out).mono ?_
 rw[HG.out];rintro e w2 ⟨v2,rfl,Hk,Hd⟩;have Ha:=h8.trans (Hd.mono h8.size);have mv:=Hk.reads;obtain⟨A,c,rfl,hc,hm,hcell⟩:=mv.form;rw[za] at hc hm hcell mv⊢;obtain⟨b,off,rfl,gj,Hy⟩:=hcell o_;have G8:=Hy q Br;rw[qs] at G8;have cZ:=h_ Hy;clear Hy hcell gc h9 Hd Hk;rw[HX.out] at G8;have e1:(i:Int)+ -1+(G.length:Int)=((i+G.length -1:Nat):Int):=o_
 have e2:((i+G.length -1:Nat):Int).tmod (G.length:Int)=(q:Int):=by
  rw[Int.tmod_eq_emod_of_nonneg (Int.natCast_nonneg _),<-Int.natCast_emod,HQ.out]
 have i1:(0:Int)<=(q:Int):=o_
 have i2:(q:Int)<(G.length:Int):=o_
 go_wp2
 go_loop [10] (fun y=>∃k:Nat,k<=i/\y= .int .i64 k) (fun y=>i+1 -(intOf y).toNat)
 case atStart=>exact⟨0,aab _,rfl⟩
 case round=>
  obtain⟨k,hk,rfl⟩:=hrel;have BN:k<G.length:=o_
  have hkc:=cZ.out k BN;rw[qs] at hkc
  by_cases rX:k=i
  ·subst rX
   rw[HGI.out] at hkc;go_wp2;go_ret
   exact⟨rfl,Ha⟩
  ·have gd:G.getD k 0≠d:=by
    intro h
    apply HNI.out
    rw[<-h,List.getD,aac BN];simp only[Option.getD_some]
    rw[List.mem_take_iff_getElem];exact⟨k,by omega,rfl⟩
   generalize G.getD k 0=y at*;have e4:((y:Int)==(d:Int))=false:=by simp;omega
   clear gd;go_wp2;go_round
   case rel=>exact⟨k+1,by omega,by go_num⟩
   case measure=>simp[intOf];omega
theorem kG (d:Nat) (h:d<1000000):bits .xor .i64 (d:Int) 1=((twin d:Nat):Int):=by
 have x:=kz (a:=d) (b:=1) o_ o_;rw[z1h] at x;exact x
theorem z4Z (vn vl:Value) (ns ls:List Pr) (d:Nat) (w:World) (hn:RP w vn ns) (hl:RP w vl ls) (hd:d<2*ls.length) (Hh:zC ns ls):
  CB_ 244 #[.agg #[vn,vl],.int .i64 d] w (.int .i64 (j5 ns ls d)):=by
 have GD:=Hh.2.2.1;have x1:=kG d o_;have Hg:Below w.heap.size w (w.alloc (.cells #[vn,vl] 27)):=bel_
 have HC:=h_ (fun (v:World) (hv:Below w.heap.size w v)=>z3x vn vl ns ls (twin d) v (hn.below hv) (hl.below hv) (js hd) Hh);have HR:Hid (j5 ns ls d=yU ns ls (twin d)):=h_ rfl;generalize twin d=e at*
 go_enter Tryz.func244,Tryz.ntmps244
 go_wp2_with fail
 refine(HC.out _ Hg).mono ?_
 rintro e w1 ⟨rfl,h9⟩;go_wp2;go_ret
 exact⟨zo (by rw[HR.out]),by exact bel_⟩
def lenV:Value->Nat
 | .slice _ n _=>n
 |_=>0
theorem OwnI.lenV {base:Nat} {w:World} {v:Value} {zs:List Int} (h:OwnI base w v zs):lenV v=zs.length:=by
 obtain⟨A,c,rfl⟩:=h.form;rfl
theorem OwnI.lit1 {base g:Nat} {w:World} {x:Int} (hg:g=w.heap.size) (hb:base<=w.heap.size):OwnI base (w.alloc (.cells #[.int .i64 x] 3)) (.slice (some ⟨g,0,none⟩) 1 1) [x]:=by
 subst hg;exact World.ownsRow_lit w #[.int .i64 x] 1 hb (by simp[maxLen]) rfl
theorem z5i (vn vl:Value) (ns ls:List Pr) (d:Nat) (w:World) (hn:RP w vn ns) (hl:RP w vl ls) (hd:d<2*ls.length) (Hh:zC ns ls):
  Calls Tryz.prog 208 #[.agg #[vn,vl],.int .i64 d] w (RetI (natI (qA ns ls d)) w):=by
 have GD:=Hh.2.2.1;have Ho:∀j:Nat,j<ls.length->zv ns (ndI ls j)=true:=fun j hj=>(Hh.2.2.2.2.2 j hj).1
 obtain⟨m9,hpm,U9,ve⟩:=kl Ho hd;obtain⟨i0,hi,iz0,iz1,iz2⟩:=info_parts qu;have nQ:=h_ (fun (v:World) (e:Nat) (hv:Below w.heap.size w v) (he:e<2*ls.length)=>z1c vn vl ns ls (twin e) v (hn.below hv) (hl.below hv) (js he) Hh);have Rn:=h_ (fun k=>xo Ho hd k);have HPJ:=h_ ve;have HPD:=h_ U9;have HWD:Hid (qA ns ls d=jo ns ls d (perD ns ls d)):=h_ rfl;have HWS:=h_ (fun k=>Jr ns ls d k);have Nr:=h_ (fun k=>kM ns ls d k);have Ro:Hid (∀k,j5 ns ls (orbD ns ls d k)=orbD ns ls d (k+1)):=h_ (fun _=>rfl);have H01:Hid (orbD ns ls d 1=j5 ns ls d):=h_ rfl;have Uy:Hid (jo ns ls d 1=[d]):=h_ rfl;generalize perD ns ls d=per at*;have HTX:=h_ (fun (e:Nat) (he:e<2*ls.length)=>kG e o_);have nQ:Hid (∀(v:World) (e:Nat),Below w.heap.size w v->e<2*ls.length->Calls Tryz.prog 245 #[.agg #[vn,vl],.int .i64 (bits .xor .i64 (e:Int) 1),.int .i64 (-1)] v fun e' w'=>e'= .returned (.int .i64 (j5 ns ls e))/\Below v.heap.size v w'):=h_ (fun v e hv he=>by rw[HTX.out e he];exact nQ.out v e hv he);clear Hh ve U9 Ho
 go_enter Tryz.func208,Tryz.ntmps208
 go_wp2_with fail
 have GZ:Below w.heap.size w ((w.alloc (.cells #[vn,vl] 27)).alloc (.cells #[.int .i64 d] 3)):=bel_
 have gy:Blk ((w.alloc (.cells #[vn,vl] 27)).alloc (.cells #[.int .i64 d] 3)) w.heap.size 27 #[vn,vl]:=(Blk.newAt rfl).alloc _;have Mb:OwnI (w.heap.size+1) ((w.alloc (.cells #[vn,vl] 27)).alloc (.cells #[.int .i64 d] 3)) (.slice (some ⟨w.heap.size+1,0,none⟩) 1 1) [(d:Int)]:=OwnI.lit1 (by simp) (by simp);refine(nQ.out _ d GZ hd).mono ?_
 rintro e w1 ⟨rfl,h9⟩;have h8:=GZ.trans (h9.mono GZ.size);have Hz:=gy.below h9 gy.lt;have Hi:=Mb.kept h9;clear h9 GZ gy Mb;go_wp2
 go_loopw [5,6] (fun v x wr=>∃k:Nat,1<=k/\k<=per/\x= .int .i64 (orbD ns ls d k)/\OwnI (w.heap.size+1) wr v (natI (jo ns ls d k))/\Blk wr w.heap.size 27 #[vn,vl]/\Below w.heap.size w wr) (fun v _ _=>per -lenV v)
 case atStart=>exact⟨1,aaa _,m9,by rw[H01.out],by rw[Uy.out];exact Hi,Hz,h8⟩
 case round=>
  clear Hi Hz h8;obtain⟨k,Ff,YI,rfl,ho,hW,Hb⟩:=hrel;have vf:=ho.lenV;have gx:=hW.lt;rw[za,Nr.out] at vf;obtain⟨a_0,a_1⟩:=hW.c2;have HK:Hid (k<per->orbD ns ls d k≠d):=h_ (fun h=>HPJ.out k o_ h);have vz:=Rn.out k;have HS:Hid (natI (jo ns ls d (k+1))=natI (jo ns ls d k)++[((orbD ns ls d k:Nat):Int)]):=h_ (by rw[HWS.out];simp[natI]);have mn:=h_ (Ro.out k);have F0:Hid ((natI (jo ns ls d k)).length =k):=h_ (by rw[za,Nr.out]);have HE:Hid (k=per->orbD ns ls d k=d):=h_ (fun h=>by rw[h];exact HPD.out);have HEW:Hid (k=per->qA ns ls d=jo ns ls d k):=h_ (fun h=>by rw[h];exact HWD.out);generalize hxe:orbD ns ls d k=x at*;clear hxe
  by_cases YJ:k<per
  ·have gd:=HK.out YJ
   have e1:((x:Int) != (d:Int))=true:=by simp;omega
   generalize jo ns ls d k=G at*
   go_wp2_with (at_builtin;refine wpList_append_own _ rfl _ _ 31 rfl (w.heap.size+1) 3 i0 (.int .i64 0) 1 8 Tryz.underlying31 hi iz0 iz1 iz2 rfl (by decide) _ _ _ rfl (World.ownsRow.alloc ho _) ⟨wr.heap.size,0,none⟩ 1 1 [.int .i64 _] rfl rfl (jn (by simp)) (by intro u hu;simp at hu;subst hu;rfl) (by rw[F0.out];unfold maxLen;omega) (by rw[F0.out];omega) (by simp;omega) ?_)
   intro v2 w2 GU gm Gs;have Gb:Below w.heap.size w w2:=(Hb.alloc (show w.heap.size<=wr.heap.size by omega) (.cells #[.int .i64 (x:Int)] 3)).grown gm (by simp;omega) (fun k hk=>by have:=(ho.lt k hk).1;omega);have gM:Blk w2 w.heap.size 27 #[vn,vl]:=(gm.block _ (by simp;omega) (fun e=>by have:=(ho.lt _ e.symm).1;omega)).trans (hW.alloc _);have Ca:=OwnI.snoc GU;have Gh:=gM.lt;have FD:=Ca.lenV;rw[aaW,F0.out] at FD;simp at FD
   clear GU gm ho hW Hb Gs a_0 a_1;obtain⟨a_0,a_1⟩:=gM.c2
   go_wp2_with fail
   refine(nQ.out _ x Gb vz).mono ?_
   rw[mn.out];rintro e w3 ⟨rfl,He⟩;have F1:=h_ (Ca.kept He);have HW3:=h_ (gM.below He Gh);have gq:=Gb.trans (He.mono Gb.size);clear He Ca gM Gb a_0 a_1;go_wp2;go_roundw
   case rel=>exact⟨k+1,by omega,by omega,rfl,by rw[HS.out];exact F1.out,HW3.out,gq⟩
   case measure=>simp[FD,vf];omega
  ·have gi:k=per:=o_
   have vC:=HE.out gi;have e1:((x:Int) != (d:Int))=false:=by simp[vC]
   have HR:=h_ (HEW.out gi);clear gi vC;go_wp2;go_ret
   exact⟨_,rfl,by rw[HR.out];exact ho.mono o_,Hb⟩
theorem z5t (vn vl:Value) (ns ls:List Pr) (d:Nat) (w:World) (hn:RP w vn ns) (hl:RP w vl ls) (hd:d<2*ls.length) (Hh:zC ns ls):
  Calls Tryz.prog 199 #[.agg #[vn,vl],.int .i64 d] w (RetI (natI (qA ns ls d)) w):=by
 have GD:=Hh.2.2.1;have Ho:∀j:Nat,j<ls.length->zv ns (ndI ls j)=true:=fun j hj=>(Hh.2.2.2.2.2 j hj).1
 obtain⟨m9,hpm,U9,ve⟩:=kl Ho hd;obtain⟨i0,hi,iz0,iz1,iz2⟩:=info_parts qu;have nQ:=h_ (fun (v:World) (e:Nat) (hv:Below w.heap.size w v) (he:e<2*ls.length)=>z4Z vn vl ns ls e v (hn.below hv) (hl.below hv) he Hh);have Rn:=h_ (fun k=>xo Ho hd k);have HPJ:=h_ ve;have HPD:=h_ U9;have HWD:Hid (qA ns ls d=jo ns ls d (perD ns ls d)):=h_ rfl;have HWS:=h_ (fun k=>Jr ns ls d k);have Nr:=h_ (fun k=>kM ns ls d k);have Ro:Hid (∀k,j5 ns ls (orbD ns ls d k)=orbD ns ls d (k+1)):=h_ (fun _=>rfl);have H01:Hid (orbD ns ls d 1=j5 ns ls d):=h_ rfl;have Uy:Hid (jo ns ls d 1=[d]):=h_ rfl;generalize perD ns ls d=per at*;clear Hh ve U9 Ho
 go_enter Tryz.func199,Tryz.ntmps199
 go_wp2_with fail
 have GZ:Below w.heap.size w ((w.alloc (.cells #[vn,vl] 27)).alloc (.cells #[.int .i64 d] 3)):=bel_
 have gy:Blk ((w.alloc (.cells #[vn,vl] 27)).alloc (.cells #[.int .i64 d] 3)) w.heap.size 27 #[vn,vl]:=(Blk.newAt rfl).alloc _;have Mb:OwnI (w.heap.size+1) ((w.alloc (.cells #[vn,vl] 27)).alloc (.cells #[.int .i64 d] 3)) (.slice (some ⟨w.heap.size+1,0,none⟩) 1 1) [(d:Int)]:=OwnI.lit1 (by simp) (by simp);refine(nQ.out _ d GZ hd).mono ?_
 rintro e w1 ⟨rfl,h9⟩;have h8:=GZ.trans (h9.mono GZ.size);have Hz:=gy.below h9 gy.lt;have Hi:=Mb.kept h9;clear h9 GZ gy Mb;go_wp2
 go_loopw [5,6] (fun v x wr=>∃k:Nat,1<=k/\k<=per/\x= .int .i64 (orbD ns ls d k)/\OwnI (w.heap.size+1) wr v (natI (jo ns ls d k))/\Blk wr w.heap.size 27 #[vn,vl]/\Below w.heap.size w wr) (fun v _ _=>per -lenV v)
 case atStart=>exact⟨1,aaa _,m9,by rw[H01.out],by rw[Uy.out];exact Hi,Hz,h8⟩
 case round=>
  clear Hi Hz h8;obtain⟨k,Ff,YI,rfl,ho,hW,Hb⟩:=hrel;have vf:=ho.lenV;have gx:=hW.lt;rw[za,Nr.out] at vf;obtain⟨a_0,a_1⟩:=hW.c2;have HK:Hid (k<per->orbD ns ls d k≠d):=h_ (fun h=>HPJ.out k o_ h);have vz:=Rn.out k;have HS:Hid (natI (jo ns ls d (k+1))=natI (jo ns ls d k)++[((orbD ns ls d k:Nat):Int)]):=h_ (by rw[HWS.out];simp[natI]);have mn:=h_ (Ro.out k);have F0:Hid ((natI (jo ns ls d k)).length =k):=h_ (by rw[za,Nr.out]);have HE:Hid (k=per->orbD ns ls d k=d):=h_ (fun h=>by rw[h];exact HPD.out);have HEW:Hid (k=per->qA ns ls d=jo ns ls d k):=h_ (fun h=>by rw[h];exact HWD.out);generalize hxe:orbD ns ls d k=x at*;clear hxe
  by_cases YJ:k<per
  ·have gd:=HK.out YJ
   have e1:((x:Int) != (d:Int))=true:=by simp;omega
   generalize jo ns ls d k=G at*
   go_wp2_with (at_builtin;refine wpList_append_own _ rfl _ _ 31 rfl (w.heap.size+1) 3 i0 (.int .i64 0) 1 8 Tryz.underlying31 hi iz0 iz1 iz2 rfl (by decide) _ _ _ rfl (World.ownsRow.alloc ho _) ⟨wr.heap.size,0,none⟩ 1 1 [.int .i64 _] rfl rfl (jn (by simp)) (by intro u hu;simp at hu;subst hu;rfl) (by rw[F0.out];unfold maxLen;omega) (by rw[F0.out];omega) (by simp;omega) ?_)
   intro v2 w2 GU gm Gs;have Gb:Below w.heap.size w w2:=(Hb.alloc (show w.heap.size<=wr.heap.size by omega) (.cells #[.int .i64 (x:Int)] 3)).grown gm (by simp;omega) (fun k hk=>by have:=(ho.lt k hk).1;omega);have gM:Blk w2 w.heap.size 27 #[vn,vl]:=(gm.block _ (by simp;omega) (fun e=>by have:=(ho.lt _ e.symm).1;omega)).trans (hW.alloc _);have Ca:=OwnI.snoc GU;have Gh:=gM.lt;have FD:=Ca.lenV;rw[aaW,F0.out] at FD;simp at FD
   clear GU gm ho hW Hb Gs a_0 a_1;obtain⟨a_0,a_1⟩:=gM.c2
   go_wp2_with fail
   refine(nQ.out _ x Gb vz).mono ?_
   rw[mn.out];rintro e w3 ⟨rfl,He⟩;have F1:=h_ (Ca.kept He);have HW3:=h_ (gM.below He Gh);have gq:=Gb.trans (He.mono Gb.size);clear He Ca gM Gb a_0 a_1;go_wp2;go_roundw
   case rel=>exact⟨k+1,by omega,by omega,rfl,by rw[HS.out];exact F1.out,HW3.out,gq⟩
   case measure=>simp[FD,vf];omega
  ·have gi:k=per:=o_
   have vC:=HE.out gi;have e1:((x:Int) != (d:Int))=false:=by simp[vC]
   have HR:=h_ (HEW.out gi);clear gi vC;go_wp2;go_ret
   exact⟨_,rfl,by rw[HR.out];exact ho.mono o_,Hb⟩
theorem z7l {s m i:Nat} (hm:i<=m) (h:s/2^i=0):memS s m=memS s i:=by
 have hp:0<2^i:=Nat.two_pow_pos i
 have Hf:s<2^i:=by
  rcases abj s (2^i) with h1|h1
  ·exact h1
  ·have:=Nat.div_pos h1 hp
   omega
 have:=Xa Hf (m -i);rw[show i+(m -i)=m by omega] at this;exact this
theorem shl64 {k:Nat} (hk:k<62):wrap64 ((2:Int)^k)=((2^k:Nat):Int):=by
 have h:=z83 hk;rw[Int.one_mul] at h;have e:wrap64 ((2:Int)^k)=IntKind.i64.wrap ((2:Int)^k):=(IntWalk.i64_left _).symm;rw[e];exact h
theorem z7P {s:Nat} {l:Pr} {p q:Nat} (h1:l.1=p) (h2:l.2=q) (hb:(s.testBit p||s.testBit q)=false):addS s l=s:=by
 unfold addS;rw[h1,h2,aa5,aa5,hb];rfl
theorem z5E {s:Nat} {l:Pr} {p q:Nat} (h1:l.1=p) (h2:l.2=q) (hb:(s.testBit p||s.testBit q)=true):addS s l=s ||| (2^p ||| 2^q):=by
 unfold addS;rw[h1,h2,aa5,aa5,hb];rfl
theorem z1I (t:Nat) {ls:List Pr} {i:Nat} (h:i<ls.length):qi t (ls.take (i+1))=addS (qi t (ls.take i)) (ndI ls i):=by
 rw[aax h,k8,qd ls i h];rfl
theorem z7h {s m:Nat} (h:s<2^m):s/2^m=0:=Nat.div_eq_of_lt h
theorem Qt (s m:Nat) (w:World) (hs:s<2^m) (hm:m<=40):
  Calls Tryz.prog 207 #[.int .i64 s] w (RetI (natI (memS s m)) w):=by
 obtain⟨i0,hi,iz0,iz1,iz2⟩:=info_parts qu;have hs62:s<2^62:=aaD hs (aaE o_ o_);have HB:=h_ (fun k=>QS (k:=k) hs62);have HD:=h_ (z7h hs);have HME:=h_ (fun i (h1:i<=m) h2=>z7l (s:=s) h1 h2);have HY:=h_ (fun i h=>qP (s:=s) (m:=i) h);have HN:=h_ (fun i h=>jv (s:=s) (m:=i) h);have HL:=h_ (fun i=>z0g s i);clear hs
 go_enter Tryz.func207,Tryz.ntmps207
 go_wp2
 go_loopw [3,4] (fun v x wr=>∃i:Nat,i<=m/\x= .int .i64 i/\OwnI w.heap.size wr v (natI (memS s i))/\Below w.heap.size w wr) (fun _ x _=>m -(intOf x).toNat)
 case atStart=>exact⟨0,aab _,rfl,OwnI.nil _ _,by exact bel_⟩
 case round=>
  obtain⟨i,him,rfl,ho,Hb⟩:=hrel;have gx:=Hb.size;have Rp:=HB.out i;have HLI:=HL.out i;have h0:i<64:=o_
  have HZ:Hid ((0:Int)<(s:Int)/2^i↔s/2^i≠0):=h_ (by
   have e:((s:Int)/2^i)=((s/2^i:Nat):Int):=by(rw[Int.natCast_ediv];rfl)
   rw[e];generalize s/2^i=q;omega)
  by_cases hz:(0:Int)<(s:Int)/2^i
  ·have gd:=HZ.out.1 hz
   have him2:i<m:=by
    rcases abj i m with h|h
    ·exact h
    ·have:i=m:=o_
     subst this;exact absurd HD.out gd
   clear gd
   cases hb:s.testBit i
   ·rw[hb] at Rp
    have hbt':bits .and .i64 ((s:Int)/2^i) 1=0:=Rp;have HS:=h_ (HN.out i hb);clear hb Rp;go_wp2;go_roundw
    case rel=>exact⟨i+1,by omega,by go_num,by rw[HS.out];exact ho,Hb⟩
    case measure=>simp[intOf];omega
   ·rw[hb] at Rp
    have hbt':bits .and .i64 ((s:Int)/2^i) 1=1:=Rp;have HS:Hid (natI (memS s (i+1))=natI (memS s i)++[(i:Int)]):=h_ (by rw[HY.out i hb];simp[natI]);have F0:=h_ (za (memS s i));clear hb Rp;generalize memS s i=G at*
    go_wp2_with (at_builtin;refine wpList_append_own _ rfl _ _ 31 rfl (w.heap.size) 3 i0 (.int .i64 0) 1 8 Tryz.underlying31 hi iz0 iz1 iz2 rfl (by decide) _ _ _ rfl (World.ownsRow.alloc ho _) ⟨wr.heap.size,0,none⟩ 1 1 [.int .i64 _] rfl rfl (jn (by simp)) (by intro u hu;simp at hu;subst hu;rfl) (by rw[F0.out];unfold maxLen;omega) (by rw[F0.out];omega) (by simp;omega) ?_)
    intro v2 w2 GU gm Gs;have Gb:Below w.heap.size w w2:=(Hb.alloc gx (.cells #[.int .i64 (i:Int)] 3)).grown gm (by simp;omega) (fun k hk=>(ho.lt k hk).1);have HO:=h_ (OwnI.snoc GU);clear GU gm ho Hb Gs;go_wp2;go_roundw
    case rel=>exact⟨i+1,by omega,by go_num,by rw[HS.out];exact HO.out,Gb⟩
    case measure=>simp[intOf];omega
  ·have h2:s/2^i=0:=by
    apply abk
    intro h;exact hz (HZ.out.2 h)
   have HR:=h_ (HME.out i him h2);clear h2 Rp;go_wp2;go_ret
   exact⟨_,rfl,by rw[HR.out];exact ho,Hb⟩
theorem ZN (vn vl:Value) (ns ls:List Pr) (k:Nat) (w:World) (hn:RP w vn ns) (hl:RP w vl ls) (hk:k<ns.length) (f8:ns.length<=12) (GD:ls.length<=20) (Ho:∀j:Nat,j<ls.length->zv ns (ndI ls j)=true):
  Calls Tryz.prog 144 #[.agg #[vn,vl],.int .i64 k] w (RetI (natI (memS (zH (2^k) ls ns.length) ns.length)) w):=by
 obtain⟨An,cn,rfl,Fk,GL,_⟩:=hn.formI;obtain⟨Al,cl,rfl,Hy,Gz,hcell⟩:=hl.formI;unfold maxLen at GL Gz
 have Cw:∀l∈ls,l.1.toNat <ns.length/\l.2.toNat <ns.length:=by
  intro l hm;obtain⟨j,hj,e⟩:=aba hm;obtain⟨h1,h2,h3,_⟩:=zZ.1 (Ho j hj);rw[qd ls j hj,e] at h1 h2 h3;omega
 have h2k:2^k<2^ns.length:=aa3 o_ hk;have FZ:=h_ (fun j=>kw (ls:=ls) h2k Cw j);have Nn:=h_ (fun (t:Nat) (i:Nat) (ht:t<2^ns.length)=>xG (ls.take i) t ht (fun l hm=>Cw l (List.mem_of_mem_take hm)));have mJ:(2:Nat)^ns.length<=2^12:=aaE o_ f8;have CU:=h_ Ho;have Cu:=h_ hcell;have x0:=shl64 (k:=k) o_;have hk64:k<64:=o_
 clear Ho hcell Cw;generalize hB:(2:Nat)^ns.length=B at*;have Mc:=h_ hB;clear hB
 go_enter Tryz.func144,Tryz.ntmps144
 go_wp2
 go_loopw [5,13] (fun t x wr=>∃j:Nat,j<=ns.length/\x= .int .i64 j/\t= .int .i64 (zH (2^k) ls j)/\Blk wr w.heap.size 27 #[.slice An ns.length cn,.slice Al ls.length cl]/\Below w.heap.size w wr) (fun _ x _=>ns.length -(intOf x).toNat)
 case atStart=>exact⟨0,aab _,rfl,by rw[x0];rfl,Blk.newAt rfl,by exact bel_⟩
 case round=>
  clear x0;obtain⟨j,hj,rfl,rfl,hW,Hb⟩:=hrel;have gx:=hW.lt;obtain⟨a_0,a_1⟩:=hW.c2
  by_cases Ur:j<ns.length
  ·have HTB:=h_ (FZ.out j)
   have rp:Hid (zH (2^k) ls (j+1)=qi (zH (2^k) ls j) ls):=h_ rfl;have HT0:Hid (qi (zH (2^k) ls j) (ls.take 0)=zH (2^k) ls j):=h_ rfl;generalize zH (2^k) ls j=T at*;go_wp2
   go_loopw [5,18] (fun t x wr=>∃i:Nat,i<=ls.length/\x= .int .i64 i/\t= .int .i64 (qi T (ls.take i))/\Blk wr w.heap.size 27 #[.slice An ns.length cn,.slice Al ls.length cl]/\Below w.heap.size w wr) (fun _ x _=>ls.length -(intOf x).toNat)
   case atStart=>exact⟨0,aab _,rfl,by rw[HT0.out],hW,Hb⟩
   case round=>
    clear hW Hb gx a_0 a_1;obtain⟨i,hi,rfl,rfl,hW,Hb⟩:=hrel;have gx:=hW.lt;obtain⟨a_0,a_1⟩:=hW.c2
    by_cases cf:i<ls.length
    ·obtain⟨b,off,rfl,hb,Hy⟩:=Cu.out o_
     obtain⟨k0,k1⟩:=Hy i cf;have q0:=(Hb.cell (p:=⟨b,off+i*2,none⟩) hb).trans k0;have q1:=(Hb.cell (p:=⟨b,off+i*2+1,none⟩) hb).trans k1;obtain⟨h1,h2,h3,_⟩:=zZ.1 (CU.out i cf);obtain⟨p,hp⟩:∃p:Nat,(ndI ls i).1=p:=⟨(ndI ls i).1.toNat,by omega⟩;obtain⟨q,hq⟩:∃q:Nat,(ndI ls i).2=q:=⟨(ndI ls i).2.toNat,by omega⟩;have HS:=h_ (z1I T cf);have bG:=h_ (Nn.out T i HTB.out);have HAN:=h_ (fun s hb=>z7P (s:=s) hp hq hb);have HAY:=h_ (fun s hb=>z5E (s:=s) hp hq hb);rw[hp] at q0;rw[hq] at q1;have hp12:p<12:=o_
     have hq12:q<12:=o_
     have ii1:(0:Int)<=(i:Int):=o_
     have ii2:(i:Int)<(ls.length:Int):=o_
     generalize qi T (ls.take i)=s at*;have hs12:s<2^12:=by have:=bG.out;omega
     have bp:=QS (s:=s) (k:=p) o_;have bq:=QS (s:=s) (k:=q) o_;have xp:=shl64 (k:=p) o_;have xq:=shl64 (k:=q) o_;have Pp:2^p<2^12:=aa3 o_ hp12;have Pq:2^q<2^12:=aa3 o_ hq12;have o1:=yP (a:=2^p) (b:=2^q) o_ o_;have Po:2^p ||| 2^q<2^12:=Nat.or_lt_two_pow Pp Pq
     have o2:=yP (a:=s) (b:=2^p ||| 2^q) o_ o_;clear Hy k0 k1 hp hq h1 h2 h3 Pp Pq Po;have Gb:Below w.heap.size w (wr.alloc (.cells #[.int .i64 p,.int .i64 q] 108)):=bel_
     have gM:=hW.alloc (.cells #[.int .i64 p,.int .i64 q] 108)
     cases Ci:s.testBit p||s.testBit q
     ·have HX:=h_ (HAN.out s Ci)
      rw[Bool.or_eq_false_iff] at Ci;rw[Ci.1] at bp;rw[Ci.2] at bq;have bp':bits .and .i64 ((s:Int)/2^p) 1=0:=bp;have bq':bits .and .i64 ((s:Int)/2^q) 1=0:=bq;clear bp bq Ci o1 o2 xp xq hW Hb;go_wp2;go_roundw
      case rel=>exact⟨i+1,by omega,by go_num,by rw[HS.out,HX.out],gM,Gb⟩
      case measure=>simp[intOf];omega
     ·have HX:=h_ (HAY.out s Ci)
      cases h9:s.testBit p
      ·rw[h9,Bool.false_or] at Ci
       rw[h9] at bp;rw[Ci] at bq;have bp':bits .and .i64 ((s:Int)/2^p) 1=0:=bp;have bq':bits .and .i64 ((s:Int)/2^q) 1=1:=bq;clear bp bq Ci h9 hW Hb;generalize hO:s ||| (2^p ||| 2^q)=O at*
       generalize (2^p ||| 2^q)=O1 at*;generalize hP:((2^p:Nat):Int)=P at*;generalize hQ:((2^q:Nat):Int)=QQ at*;clear hP hQ hO;go_wp2
       go_quiet (fail)
       go_wp2;go_roundw
       case rel=>exact⟨i+1,by omega,by go_num,by rw[HS.out,HX.out],gM,vV Gb _⟩
       case measure=>simp[intOf];omega
      ·rw[h9] at bp
       have bp':bits .and .i64 ((s:Int)/2^p) 1=1:=bp;clear bp bq Ci h9 hW Hb;generalize hO:s ||| (2^p ||| 2^q)=O at*
       generalize (2^p ||| 2^q)=O1 at*;generalize hP:((2^p:Nat):Int)=P at*;generalize hQ:((2^q:Nat):Int)=QQ at*;clear hP hQ hO;go_wp2
       go_quiet (fail)
       go_wp2;go_roundw
       case rel=>exact⟨i+1,by omega,by go_num,by rw[HS.out,HX.out],gM,vV Gb _⟩
       case measure=>simp[intOf];omega
    ·have Ns:i=ls.length:=o_
     subst Ns;have HX:Hid (qi T (ls.take ls.length)=qi T ls):=h_ (by rw[aaA]);rw[HX.out];go_wp2;go_roundw
     case rel=>exact⟨j+1,by omega,by go_num,by rw[rp.out],hW,Hb⟩
     case measure=>simp[intOf];omega
  ·have GP:j=ns.length:=o_
   subst GP;have Hf:=FZ.out ns.length;rw[<-Mc.out] at Hf;have HM:=h_ (fun (v:World)=>Qt (zH (2^k) ls ns.length) ns.length v Hf o_);clear Hf;generalize zH (2^k) ls ns.length=R at*
   go_wp2_with fail
   refine(HM.out _).mono ?_
   rintro e w1 ⟨v1,rfl,Hi,h9⟩;go_wp2;go_ret
   exact⟨_,rfl,Hi.mono o_,Hb.trans (h9.mono Hb.size)⟩
theorem z0I {ns ls:List Pr} (Ho:∀j:Nat,j<ls.length->zv ns (ndI ls j)=true):Qq ns.length ls:=by
 intro j hj;obtain⟨h1,h2,h3,_⟩:=zZ.1 (Ho j hj);exact⟨(ndI ls j).1.toNat,(ndI ls j).2.toNat,by omega,by omega,by omega,by omega⟩
theorem z3u (vn vl:Value) (ns ls:List Pr) (w:World) (hn:RP w vn ns) (hl:RP w vl ls):
  CB_ 79 #[.agg #[vn,vl]] w (.bool (ze ns ls)):=by
 obtain⟨An,cn,rfl,Fk,GL,_⟩:=hn.formI;obtain⟨Al,cl,rfl,Hy,Gz,_⟩:=hl.formI;unfold maxLen at GL Gz;have Hg:Below w.heap.size w (w.alloc (.cells #[.slice An ns.length cn,.slice Al ls.length cl] 27)):=bel_
 have Fn:=hn.below Hg;have Md:=hl.below Hg
 cases hw:winB ns ls
 ·have HR:Hid (ze ns ls=false):=h_ (by simp[ze,hw])
  have HC:=h_ (fun (v:World) (h1:RP v (.slice An ns.length cn) ns) (h2:RP v (.slice Al ls.length cl) ls)=>qa _ _ ns ls _ v h1 h2 hw);clear hw
  go_enter Tryz.func79,Tryz.ntmps79
  go_wp2_with fail
  (refine z7 k_ k_ (fun hG=>?_))
  repeat (go_big_quiet_step ((go_at_call 87;exact zI (HC.out _ (RS.grw _ Fn) (RS.grw _ Md)))))
  (refine wpQuiet_nil ?_);(clear hG);(rintro w3 ⟨⟨_,He⟩,rfl⟩);(try dsimp only)
  go_wp2;go_ret
  exact⟨z8 HR.out.symm,by exact bel_⟩
 ·have HC:=h_ (fun (v:World) (h1:RP v (.slice An ns.length cn) ns) (h2:RP v (.slice Al ls.length cl) ls)=>qa _ _ ns ls _ v h1 h2 hw)
  by_cases h0:ls.length=0
  ·have HR:Hid (ze ns ls=false):=h_ (by simp[ze,hw,h0])
   have e4:¬0<ls.length:=o_
   clear hw h0
   go_enter Tryz.func79,Tryz.ntmps79
   go_wp2_with fail
   (refine z7 k_ k_ (fun hG=>?_))
   repeat (go_big_quiet_step ((go_at_call 87;exact zI (HC.out _ (RS.grw _ Fn) (RS.grw _ Md)))))
   (refine wpQuiet_nil ?_);(clear hG);(rintro w3 ⟨⟨_,He⟩,rfl⟩);(try dsimp only)
   go_wp2;go_ret
   exact⟨z8 HR.out.symm,by exact bel_⟩
  ·have gV:=zq.1 hw
   have Ho:∀j:Nat,j<ls.length->zv ns (ndI ls j)=true:=fun j hj=>(gV.2.2.2.2.2 j hj).1
   have hws:=z4Q (z0I Ho) gV.1;have HP:=h_ (fun (v:World) (h1:RP v (.slice An ns.length cn) ns) (h2:RP v (.slice Al ls.length cl) ls)=>ZN _ _ ns ls 0 v h1 h2 gV.1 gV.2.1 gV.2.2.1 Ho);have e0:(2:Nat)^0=1:=rfl;rw[e0] at HP;have e2:(0:Int)<(ls.length:Int):=o_
   have e4:0<ls.length:=o_
   generalize memS (zH 1 ls ns.length) ns.length=G at*
   have HR:Hid (ze ns ls=((G.length:Int)==(ns.length:Int))):=h_ (by
    unfold ze;rw[hw];have h1:decide (0<ls.length)=true:=by simp;omega
    rw[h1,aaR,aaR]
    cases hq:(zm ns.length ls ls.length).all (· ==0)
    ·have:¬G.length=ns.length:=fun h=>by rw[hws.1 h] at hq;cases hq
     symm;simp;omega
    ·have:=hws.2 hq
     symm;simp;omega)
   clear hw h0 gV Ho hws Fn Md e0
   go_enter Tryz.func79,Tryz.ntmps79
   go_wp2_with fail
   go_region_held3 (fun w'=>w'.cell? ⟨w.heap.size,0,none⟩=some (.slice An ns.length cn)/\w'.cell? ⟨w.heap.size,1,none⟩=some (.slice Al ls.length cl))
    (go_keep)
    (first|(go_at_call 87;refine(HC.out _ (hn.below bel_) (hl.below bel_)).mono ?_;rintro e w1 ⟨rfl,h9⟩;(have gc:=bdC h9);have Ht:=h9.size;(try simp at Ht);(try have gF:=p0_ w w1);have h8:Below w.heap.size w w1:=bel_)|(go_at_call 144;refine(HP.out _ (hn.below bel_) (hl.below bel_)).mono ?_;rintro e w2 ⟨v2,rfl,Hk,Hd⟩;obtain⟨A2,c2,rfl⟩:=Hk.form;(have gE:=bcC Hd)))
   rw[za];go_wp2;go_ret
   exact⟨z8 HR.out.symm,by exact bel_⟩
def OwnE {α:Type} (t:TypeId) (enc:α->Value) (base:Nat) (w:World) (v:Value) (l:List α):Prop:=w.ownsRow base t 1 v l.length (l.map enc)
section
variable {α:Type} {t:TypeId} {enc:α->Value} {base:Nat} {w w':World} {v:Value} {l:List α} {g n cap:Nat}
theorem OwnE.kept (h:OwnE t enc base w v l) (hb:Below w.heap.size w w'):OwnE t enc base w' v l:=qj h hb
theorem OwnE.alloc (h:OwnE t enc base w v l) (o:Obj):OwnE t enc base (w.alloc o) v l:=World.ownsRow.alloc h o
theorem OwnE.lt (h:OwnE t enc base w v l):∀k,v.ownBlock=some k->base<=k/\k<w.heap.size:=World.ownsRow.lt h
theorem OwnE.form (h:OwnE t enc base w v l):∃A c,v= .slice A l.length c:=by
 rcases h.2 with ⟨rfl,hn⟩|⟨g,cap,cur,rfl,_⟩
 ·exact⟨none,0,by rw[hn]⟩
 ·exact⟨_,_,rfl⟩
theorem OwnE.len (h:OwnE t enc base w (.slice (some ⟨g,0,none⟩) n cap) l):n=l.length:=by
 obtain⟨A,c,e⟩:=h.form
 cases e;rfl
theorem OwnE.cell (h:OwnE t enc base w (.slice (some ⟨g,0,none⟩) n cap) l) (d:α) {q:Nat} (hq:q<l.length):w.cell? ⟨g,q,none⟩=some (enc (l.getD q d)):=by
 have e:=h.len;subst e;have ho:w.ownsRow base t 1 (.slice (some ⟨g,0,none⟩) l.length cap) l.length (l.map enc):=h;rw[ho.cellAt q o_,aau,aac hq];simp[List.getD,aac hq]
theorem OwnE.frz (h:OwnE t enc base w (.slice (some ⟨g,0,none⟩) n cap) l) (q:Nat):w.frozen? ⟨g,q,none⟩=false:=by
 have e:=h.len;subst e;have ho:w.ownsRow base t 1 (.slice (some ⟨g,0,none⟩) l.length cap) l.length (l.map enc):=h;exact ho.frozenAt q
theorem OwnE.set_ (h:OwnE t enc base w (.slice (some ⟨g,0,none⟩) n cap) l) (q:Nat) (x:α):OwnE t enc base (w.setCell ⟨g,q,none⟩ (enc x)) (.slice (some ⟨g,0,none⟩) n cap) (l.set q x):=by
 have e:=h.len;subst e;have ho:w.ownsRow base t 1 (.slice (some ⟨g,0,none⟩) l.length cap) l.length (l.map enc):=h;have:=(ho.stored q (enc x)).1;unfold OwnE;rw[aar,List.map_set];exact this
theorem OwnE.other (h:OwnE t enc base w v l) {b2 s2 n2:Nat} {t2:TypeId} {u:Value} {xs:List Value} (h2:w.ownsRow b2 t2 s2 u n2 xs) (gd:t≠t2) (hg:w.grownBy w' u.ownBlock):OwnE t enc base w' v l:=by
 refine World.ownsRow.kept h hg ?_
 rcases h.2 with ⟨rfl,hn⟩|⟨g,cap,cur,rfl,_,hh,_⟩
 ·exact .inl rfl
 ·right
  rcases h2.2 with ⟨rfl,_⟩|⟨g2,cap2,cur2,rfl,_,rt,_⟩
  ·exact fun e=>by cases e
  ·intro e
   have e':g=g2:=by injection e
   subst e';rw[hh] at rt
   injection rt with rt
   injection rt with _ rt _
   exact gd rt
end
theorem RS.get {w:World} {v:Value} {n:Nat} {xs:List Value} (h:RS w 1 v n xs):∃A c,v= .slice A n c/\n<=c/\n<=maxLen/\(0<n->∃b off,A=some ⟨b,off,none⟩/\b<w.heap.size/\∀k,k<n->w.cell? ⟨b,off+k,none⟩=some (xs.getD k undef)):=by
 obtain⟨h0,A,c,h1,h2,h3,h4⟩:=h;refine⟨A,c,h1,h2,h3,fun hn=>?_⟩
 obtain⟨b,off,e1,e2,e3⟩:=h4 hn;refine⟨b,off,e1,e2,fun k hk=>e3 k _ ?_⟩
 rw[List.getD,aac o_];rfl
def OwnF (base:Nat) (w:World) (v:Value) (F:List (List Nat)):Prop:=∃vs:List Value,vs.length=F.length/\w.ownsRow base 31 1 v F.length vs/\∀k,k<F.length->OwnI base w (vs.getD k undef) (natI (F.getD k []))
def RF (w:World) (v:Value) (F:List (List Nat)):Prop:=∃vs:List Value,RS w 1 v F.length vs/\∀k,k<F.length->RI w (vs.getD k undef) (natI (F.getD k []))
def RetF (F:List (List Nat)) (w:World) (e:Ending) (w':World):Prop:=∃v,e= .returned v/\OwnF w.heap.size w' v F/\Below w.heap.size w w'
section
variable {base:Nat} {w w':World} {v:Value} {F:List (List Nat)}
theorem OwnF.nil (base:Nat) (w:World):OwnF base w (.slice none 0 0) []:=⟨[],rfl,World.ownsRow_nil _ _ _ _,fun k hk=>absurd hk (by simp)⟩
theorem OwnF.kept (h:OwnF base w v F) (hb:Below w.heap.size w w'):OwnF base w' v F:=by
 obtain⟨vs,h1,h2,h3⟩:=h;exact⟨vs,h1,qj h2 hb,fun k hk=>(h3 k hk).kept hb⟩
theorem OwnF.alloc (h:OwnF base w v F) (o:Obj):OwnF base (w.alloc o) v F:=h.kept ((aaj _ _).alloc (aaa _) _)
theorem OwnF.far {row:Option Nat} (h:OwnF base w v F) (hg:w.grownBy w' row) (hr:∀k,row=some k->k<base):OwnF base w' v F:=by
 obtain⟨vs,h1,h2,h3⟩:=h;refine⟨vs,h1,?_,fun k hk=>(h3 k hk).far hg hr⟩
 refine World.ownsRow.kept h2 hg ?_
 cases hv:v.ownBlock with
 |none=>exact .inl rfl
 |some k=>
  right
  rintro rfl;have:=hr k rfl;have:=(World.ownsRow.lt h2 k hv).1;omega
theorem OwnF.mono {base':Nat} (h:OwnF base w v F) (hb:base'<=base):OwnF base' w v F:=by
 obtain⟨vs,h1,h2,h3⟩:=h;refine⟨vs,h1,?_,fun k hk=>(h3 k hk).mono hb⟩
 obtain⟨h4,h5⟩:=h2;refine⟨h4,?_⟩
 rcases h5 with h5|⟨g,cap,cur,e1,e2,e3⟩
 ·exact .inl h5
 ·exact .inr ⟨g,cap,cur,e1,aai hb e2,e3⟩
theorem OwnF.form (h:OwnF base w v F):∃A c,v= .slice A F.length c:=by
 obtain⟨vs,h1,h2,h3⟩:=h
 rcases h2.2 with ⟨rfl,hn⟩|⟨g,cap,cur,rfl,_⟩
 ·exact⟨none,0,by rw[hn]⟩
 ·exact⟨_,_,rfl⟩
theorem OwnF.reads (h:OwnF base w v F):RF w v F:=by
 obtain⟨vs,h1,h2,h3⟩:=h;exact⟨vs,ku h2,fun k hk=>(h3 k hk).reads⟩
theorem OwnF.lt (h:OwnF base w v F):∀k,v.ownBlock=some k->base<=k/\k<w.heap.size:=by
 obtain⟨vs,h1,h2,h3⟩:=h;exact World.ownsRow.lt h2
theorem RF.below (h:RF w v F) (hb:Below w.heap.size w w'):RF w' v F:=by
 obtain⟨vs,h1,h2⟩:=h;exact⟨vs,RS.below h1 hb,fun k hk=>(h2 k hk).below hb⟩
end
theorem z9h:3≠31:=by decide
theorem OwnF.snoc {base n:Nat} {w w':World} {v v' u:Value} {vs:List Value} {F:List (List Nat)} {f:List Nat} (hv:vs.length=F.length) (h2:w.ownsRow base 31 1 v n vs) (h3:∀k,k<F.length->OwnI base w (vs.getD k undef) (natI (F.getD k [])))
  (hu:OwnI base w u (natI f)) (hg:w.grownBy w' v.ownBlock) (hw:w'.ownsRow base 31 1 v' (n+1) (vs++[u])):OwnF base w' v' (F++[f]):=by
 have hn:n=F.length:=by have:=h2.1;omega
 subst hn;have kp:∀x zs,OwnI base w x zs->OwnI base w' x zs:=fun x zs hx=>OwnE.other (t:=3) (enc:=vI) hx h2 z9h hg
 refine⟨vs++[u],by simp[hv],by simpa using hw,fun k hk=>?_⟩
 rw[aaW,aa8] at hk
 by_cases he:k=F.length
 ·subst he
  rw[List.getD,abb o_,hv,aae,List.getD,abb (aaa _),aae];exact kp _ _ hu
 ·have Hf:k<F.length:=o_
  have e1:(vs++[u]).getD k undef=vs.getD k undef:=by rw[List.getD,List.getD,abc o_]
  have e2:(F++[f]).getD k []=F.getD k []:=by rw[List.getD,List.getD,abc Hf]
  rw[e1,e2];exact kp _ _ (h3 k Hf)
theorem z7A:(Tryz.prog.info? 31).map (fun i=>(i.zero,i.size,i.bytes))=some (some (.slice none 0 0),1,24):=by kernel_rfl
theorem vW {w:World} {ops:Array Oper} {rest:List Oper} {o:Oper} {a:Act} {Q:Exit->Act->World->Prop} (fY:o.guard=none) (s x:Operand)
  (ho:o.op= .call { callee:= .builtin .append,args:= #[s,x],argTypes:= #[135,135] })
  (base:Nat) (v u:Value) (F:List (List Nat)) (f:List Nat) (hs:a.eval s=v) (g:Nat) (hx:a.eval x= .slice (some ⟨g,0,none⟩) 1 1) (hg:w.cell? ⟨g,0,none⟩=some u)
  (hown:OwnF base w v F) (hu:OwnI base w u (natI f)) (Hj:F.length<=1048576) (Hu:base<=w.heap.size)
  (h:∀v' w',OwnF base w' v' (F++[f])->w.grownBy w' v.ownBlock->wpList Tryz.prog ops Q rest (a.put o.dst v') w'):wpList Tryz.prog ops Q (o::rest) a w:=by
 obtain⟨i,hi,hz,Hs,GN⟩:=info_parts z7A;obtain⟨vs,h1,h2,h3⟩:=hown
 exact wpList_append_own w fY s x 135 ho base 31 i (.slice none 0 0) 1 24 Tryz.underlying135 hi hz Hs GN rfl (by decide) v F.length _ hs h2 ⟨g,0,none⟩ 1 1 [u] hx rfl
  (fun j y hj=>by
   match j,hj with
   |0,hj=>cases hj;exact hg
   |j+1,hj=>simp at hj)
  (by
   intro y hy;simp at hy
   subst hy;obtain⟨A,c,rfl⟩:=hu.form;rfl) (by unfold maxLen;omega) o_ Hu fun v' w' e1 e2 _=>h v' w' (OwnF.snoc h1 h2 h3 hu e2 e1) e2
def mkS (n:Nat) (F:List (List Nat)) (f:List Nat) (j:Nat):List Bool:=(List.range n).map fun e=>jk F e||(f.take j).contains e
theorem z0V (n:Nat) (F:List (List Nat)) (f:List Nat) (j:Nat):(mkS n F f j).length =n:=by simp[mkS]
theorem z25 (n:Nat) (F:List (List Nat)) (f:List Nat):mkS n F f 0=(List.range n).map (jk F):=by simp[mkS]
theorem XK (n:Nat):(List.range n).map (jk [])=List.replicate n false:=by
 apply aat
 intro j
 by_cases hj:j<n
 ·simp[aau,hj,jk,abl]
 ·simp[hj,abl]
theorem z3Z (n:Nat) (F:List (List Nat)) (f:List Nat):mkS n F f f.length=(List.range n).map (jk (F++[f])):=by
 unfold mkS jk;rw[aaA];simp
theorem z1b (n:Nat) (F:List (List Nat)) (f:List Nat) (j:Nat) (hj:j<f.length):mkS n F f (j+1)=(mkS n F f j).set (f.getD j 0) true:=by
 have e:f.getD j 0=f[j]:=by simp[List.getD,hj]
 rw[e]
 apply aat
 intro i;rw[aa0,z0V];unfold mkS
 by_cases hi:i<n
 ·rw[aau,aau,aav hi,aaw,aaw,aax hj,List.contains_append]
  by_cases he:f[j]=i
  ·rw[aao he,aao o_,he];simp
  ·rw[aaq he]
   have:([f[j]]:List Nat).contains i=false:=by simp;omega
   rw[this,Bool.or_false]
 ·have h1:(List.range n)[i]? =none:=by simp;omega
  rw[aau,aau,h1]
  by_cases he:f[j]=i
  ·rw[aao he,aaq o_];rfl
  ·rw[aaq he];rfl
theorem z4a {n:Nat} {F:List (List Nat)} {d:Nat} (h:d<n):((List.range n).map (jk F)).getD d false=jk F d:=by simp[List.getD,h]
theorem z6k (n:Nat):(madeCells #[.bool false] n).toList =(List.replicate n false).map Value.bool:=by
 apply aat
 intro j
 by_cases hj:j<n
 ·simp only[madeCells,Array.toList_map,aau,Array.toList_range,aav hj,abl,aao hj,aaw]
  congr 1
  show #[Value.bool false][j%1]! =_
  rw[Nat.mod_one];rfl
 ·simp[madeCells,hj]
theorem Jj:(Tryz.prog.info? 4).map (fun i=>(i.zero,i.size,i.bytes))=some (some (.bool false),1,1):=by kernel_rfl
noncomputable def z9 (ns ls:List Pr):List (List Nat):=if ze ns ls then zg ns ls else []
end Go.Proofs.YtnjcpljhmhdhkaaGreat
