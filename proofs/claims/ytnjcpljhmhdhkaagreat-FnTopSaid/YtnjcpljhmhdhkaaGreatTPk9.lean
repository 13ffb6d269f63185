/- part 9 -/
import Derived.Test.YtnjcpljhmhdhkaaGreatTPk7
set_option linter.unusedSimpArgs false
set_option linter.unusedVariables false
set_option maxRecDepth 100000
set_option maxHeartbeats 4000000
namespace Go.Proofs.YtnjcpljhmhdhkaaGreat
open Go.RowKit
attribute [local go_sem ↓] zr zq zU zT
theorem OwnP.lit {w:World} {l:List (Int×Int)} {cs:Array Value} {t:TypeId} {g n c base:Nat} (hg:g=w.heap.size) (Fm:cs.toList=l.flatMap prc) (hn:n=l.length) (hc:c=l.length) (hm:l.length<=maxLen) (hb:base<=w.heap.size):
  OwnP t base (w.alloc (.cells cs t)) (.slice (some ⟨g,0,none⟩) n c) l:=by
 subst hg hn hc
 have gI:cs.size=l.length*2:=by
  have:=congrArg List.length Fm;rw[qo prc 2 (fun _=>rfl)] at this
  simpa using this
 refine⟨qo prc 2 (fun _=>rfl) l,.inr ⟨w.heap.size,l.length,cs,rfl,hb,heap_alloc_new w _,aaa _,hm,gI,?_⟩⟩
 rw[Fm,<-qo prc 2 (fun _=>rfl) l,aaA]
def jl:List Pr:=[(0,0),(8,0),(8,8),(0,8),(4,4)]
def jj:List Pr:=[(0,1),(1,2),(2,3),(0,3),(0,4),(1,4),(2,4),(3,4)]
theorem RetW.lit {w:World} {ns ls:List Pr} {cR cN cL:Array Value} {tR:TypeId} {g1 g2 n m:Nat} (h1:g1=w.heap.size+1) (h2:g2=w.heap.size+1+1) (hn:n=ns.length) (hm:m=ls.length) (FQ:cN.toList=ns.flatMap prc) (Hz:cL.toList=ls.flatMap prc) (hx:ns.length<=maxLen) (hy:ls.length<=maxLen):
  RetW ns ls w (.returned (.agg #[.slice (some ⟨g1,0,none⟩) n n,.slice (some ⟨g2,0,none⟩) m m])) (((w.alloc (.cells cR tR)).alloc (.cells cN 106)).alloc (.cells cL 108)):=by
 subst h1 h2 hn hm;refine⟨_,_,_,_,rfl,⟨OwnP.alloc (OwnP.lit (by simp) FQ rfl rfl hx (by simp)) _,OwnP.lit (by simp) Hz rfl rfl hy sz_,?_⟩,by exact bel_⟩
 intro k e1 e2;have e1':some (w.heap.size+1)=some k:=e1;have e2':some (w.heap.size+1+1)=some k:=e2;have f1:=Option.some.inj e1';have f2:=Option.some.inj e2';omega
theorem J4 (w:World):Calls Tryz.prog 203 #[] w (RetW jl jj w):=by
 go_enter Tryz.func203,Tryz.ntmps203
 go_wp2;exact bodyPost_ret (v:= .agg #[.slice (some ⟨w.heap.size+1,0,none⟩) 5 5,.slice (some ⟨w.heap.size+1+1,0,none⟩) 8 8]) (by simp[results,Tryz.results203,go_sem]) rfl (RetW.lit rfl rfl rfl rfl rfl rfl (by simp[jl,maxLen]) (by simp[jj,maxLen]))
def shN1:List Pr:=[(0,0),(12,0),(4,12),(4,3),(7,3),(5,6)]
def shL1:List Pr:=[(0,1),(1,2),(0,2),(3,4),(4,5),(3,5),(0,3)]
def shN2:List Pr:=[(0,0),(4,0),(8,0),(12,0),(0,5),(4,5),(8,5),(12,5),(0,9),(4,9),(8,9),(12,9)]
def shL2:List Pr:=[(0,1),(1,2),(2,3),(4,5),(5,6),(6,7),(8,9),(9,10),(10,11),(0,4),(1,5),(2,6),(3,7),(4,8),(5,9),(6,10),(7,11)]
def shN3:List Pr:=[(6,6),(6,0),(12,4),(10,11),(2,11),(0,4)]
def shL3:List Pr:=[(0,1),(0,2),(0,3),(0,4),(0,5),(1,2),(2,3),(3,4),(4,5),(1,5)]
def shN4:List Pr:=[(0,0),(3,0),(3,3),(0,3),(6,1),(9,1),(9,5),(6,5)]
def shL4:List Pr:=[(0,1),(1,2),(2,3),(0,3),(4,5),(5,6),(6,7),(4,7)]
def QN (k:Int):List Pr:=if k=0 then jl else if k=1 then shN1 else if k=2 then shN2 else if k=3 then shN3 else shN4
def Qy (k:Int):List Pr:=if k=0 then jj else if k=1 then shL1 else if k=2 then shL2 else if k=3 then shL3 else shL4
theorem z7o (w:World):Calls Tryz.prog 265 #[.int .i64 1] w (RetW shN1 shL1 w):=by
 go_enter Tryz.func265,Tryz.ntmps265
 go_wp2;exact bodyPost_ret (v:= .agg #[.slice (some ⟨w.heap.size+1,0,none⟩) 6 6,.slice (some ⟨w.heap.size+1+1,0,none⟩) 7 7]) (by simp[results,Tryz.results265,go_sem]) rfl (RetW.lit rfl rfl rfl rfl rfl rfl (by simp[shN1,maxLen]) (by simp[shL1,maxLen]))
theorem z7z (w:World):Calls Tryz.prog 265 #[.int .i64 2] w (RetW shN2 shL2 w):=by
 go_enter Tryz.func265,Tryz.ntmps265
 go_wp2;exact bodyPost_ret (v:= .agg #[.slice (some ⟨w.heap.size+1,0,none⟩) 12 12,.slice (some ⟨w.heap.size+1+1,0,none⟩) 17 17]) (by simp[results,Tryz.results265,go_sem]) rfl (RetW.lit rfl rfl rfl rfl rfl rfl (by simp[shN2,maxLen]) (by simp[shL2,maxLen]))
theorem z7y (w:World):Calls Tryz.prog 265 #[.int .i64 3] w (RetW shN3 shL3 w):=by
 go_enter Tryz.func265,Tryz.ntmps265
 go_wp2;exact bodyPost_ret (v:= .agg #[.slice (some ⟨w.heap.size+1,0,none⟩) 6 6,.slice (some ⟨w.heap.size+1+1,0,none⟩) 10 10]) (by simp[results,Tryz.results265,go_sem]) rfl (RetW.lit rfl rfl rfl rfl rfl rfl (by simp[shN3,maxLen]) (by simp[shL3,maxLen]))
theorem z7G (k:Int) (w:World) (h0:¬k=0) (h1:¬k=1) (h2:¬k=2) (h3:¬k=3):Calls Tryz.prog 265 #[.int .i64 k] w (RetW shN4 shL4 w):=by
 have e0:(k==0)=false:=beq_eq_false_iff_ne.2 h0;have e1:(k==1)=false:=beq_eq_false_iff_ne.2 h1;have e2:(k==2)=false:=beq_eq_false_iff_ne.2 h2;have e3:(k==3)=false:=beq_eq_false_iff_ne.2 h3
 go_enter Tryz.func265,Tryz.ntmps265
 go_wp2;exact bodyPost_ret (v:= .agg #[.slice (some ⟨w.heap.size+1,0,none⟩) 8 8,.slice (some ⟨w.heap.size+1+1,0,none⟩) 8 8]) (by simp[results,Tryz.results265,go_sem]) rfl (RetW.lit rfl rfl rfl rfl rfl rfl (by simp[shN4,maxLen]) (by simp[shL4,maxLen]))
theorem z7s (w:World):Calls Tryz.prog 265 #[.int .i64 0] w (RetW jl jj w):=by
 go_enter Tryz.func265,Tryz.ntmps265
 go_wp2_with fail
 refine(J4 _).mono ?_
 rintro e w1 ⟨An,cn,Al,cl,rfl,ho,hb⟩;have FF:OwnW (w.heap.size+1) w1 (.slice An jl.length cn) (.slice Al jj.length cl) jl jj:=by simpa using ho
 have hR:Blk w1 w.heap.size 27 #[.slice none 0 0,.slice none 0 0]:=Blk.below (Blk.newAt rfl) hb sz_;have gi:Below w.heap.size w w1:=bel_
 obtain⟨r_0,r_1,r_f0,r_f1⟩:=hR.b2;have hO:=h_ (((FF.setLow (p:=⟨w.heap.size,0,none⟩) (show w.heap.size<w.heap.size+1 by omega) (.slice An jl.length cn)).setLow (p:=⟨w.heap.size,1,none⟩) (show w.heap.size<w.heap.size+1 by omega) (.slice Al jj.length cl)));have HB:=h_ ((gi.setCell (p:=⟨w.heap.size,0,none⟩) (aaa _) (.slice An jl.length cn)).setCell (p:=⟨w.heap.size,1,none⟩) (aaa _) (.slice Al jj.length cl));clear hb ho FF gi;generalize rE:jl=NN at*;generalize hLL:jj=LL at*;go_wp2;exact bodyPost_ret (v:= .agg #[.slice An NN.length cn,.slice Al LL.length cl]) (by simp[results,Tryz.results265,go_sem,r_0,r_1]) rfl ⟨_,_,_,_,rfl,⟨hO.out.1.mono o_,hO.out.2.1.mono o_,hO.out.2.2⟩,HB.out⟩
theorem Vi (k:Int) (w:World):Calls Tryz.prog 265 #[.int .i64 k] w (RetW (QN k) (Qy k) w):=by
 unfold QN Qy
 by_cases h0:k=0
 ·subst h0;exact z7s w
 by_cases h1:k=1
 ·subst h1;exact z7o w
 by_cases h2:k=2
 ·subst h2;exact z7z w
 by_cases h3:k=3
 ·subst h3;exact z7y w
 ·rw[aaq h0,aaq h1,aaq h2,aaq h3,aaq h0,aaq h1,aaq h2,aaq h3]
  exact z7G k w h0 h1 h2 h3
def winC (ns ls:List Pr):Bool:=
 decide (1<=ns.length)&&decide (ns.length<=12)&&decide (ls.length<=20)&&q9 ns&&
 (List.range ns.length).all (fun b=>(List.range b).all fun a=> !(qz (ndI ns (a:Nat)) (ndI ns (b:Nat))))&&
 (List.range ls.length).all (fun k=>zt ns (ndI ls (k:Nat))&&(List.range k).all (fun j=> !(qO ns (ndI ls (k:Nat)) (ndI ls (j:Nat))))&&
  (List.range ns.length).all (fun (i:Nat)=>decide ((i:Int)=(ndI ls (k:Nat)).1)||decide ((i:Int)=(ndI ls (k:Nat)).2)|| !(onB ns (ndI ls (k:Nat)) (ndI ns (i:Nat)))))
theorem Zf {ns ls:List Pr} (h:winC ns ls=true):zC ns ls:=by
 unfold winC at h;simp only[aaG,aa4,aaL,aaM,Bool.not_eq_true',aaH] at h
 obtain⟨⟨⟨⟨⟨h1,h2⟩,h3⟩,h4⟩,h5⟩,h6⟩:=h;refine⟨h1,h2,h3,h4,fun a b ml hb=>h5 b hb a ml,fun k hk=>?_⟩
 obtain⟨⟨a1,a2⟩,a3⟩:=h6 k hk;refine⟨a1,fun j hj=>a2 j hj,fun j hj e1 e2=>?_⟩
 rcases a3 j hj with (h|h)|h
 ·exact absurd h e1
 ·exact absurd h e2
 ·exact h
theorem z0u:winB jl jj=true:=zu.2 (Zf (by decide+kernel))
theorem z9u:winB shN1 shL1=true:=zu.2 (Zf (by decide+kernel))
theorem z9w:winB shN2 shL2=true:=zu.2 (Zf (by decide+kernel))
theorem z9F:winB shN3 shL3=true:=zu.2 (Zf (by decide+kernel))
theorem z9K:winB shN4 shL4=true:=zu.2 (Zf (by decide+kernel))
theorem z2e (k:Int):winB (QN k) (Qy k)=true:=by
 unfold QN Qy
 split
 ·exact z0u
 ·split
  ·exact z9u
  ·split
   ·exact z9w
   ·split
    ·exact z9F
    ·exact z9K
theorem z1E {a b:List Pr} {i:Nat} (h:i<a.length):ndI (a++b) (i:Int)=ndI a (i:Int):=by
 rw[qd _ _ (by simp;omega),qd _ _ h,aad h]
theorem z0G {ns ls:List Pr} (h:zC ns ls) {i k:Nat} (hi:i<ls.length) (hk:k<ls.length) (Hv:i≠k):qO ns (ndI ls k) (ndI ls i)=false:=by
 rcases Nat.lt_or_gt_of_ne Hv with h1|h1
 ·exact(h.2.2.2.2.2 k hk).2.1 i h1
 ·rw[xX];exact(h.2.2.2.2.2 i hi).2.1 k h1
theorem z74 {ns ls ms:List Pr} (h:zC ns ls) (hl:ms.length<=20) (f:Nat->Nat) (hf:∀i,i<ms.length->f i<ls.length/\ndI ms (i:Nat)=ndI ls (f i:Nat)) (hinj:∀i j,i<ms.length->j<ms.length->f i=f j->i=j):zC ns ms:=by
 refine⟨h.1,h.2.1,hl,h.2.2.2.1,h.2.2.2.2.1,fun k hk=>?_⟩
 obtain⟨h1,h2⟩:=hf k hk;rw[LdOk,h2];refine⟨(h.2.2.2.2.2 _ h1).1,fun j hj=>?_,(h.2.2.2.2.2 _ h1).2.2⟩
 obtain⟨h3,h4⟩:=hf j o_;rw[h4];exact z0G h h3 h1 (fun e=>by have:=hinj j k o_ hk e;omega)
theorem Xb {ls:List Pr} {k:Nat} (hk:k<ls.length) (i:Nat) (hi:i<(ls.take k++ls.drop (k+1)).length):
  ndI (ls.take k++ls.drop (k+1)) (i:Nat)=ndI ls ((if i<k then i else i+1:Nat):Int):=by
 have hl:(ls.take k).length =k:=by simp;omega
 have fP:i<ls.length -1:=by simp at hi;omega
 by_cases h:i<k
 ·rw[aao h,z1E o_,qd _ _ o_,qd _ _ o_,abp]
 ·rw[aaq h,qd _ _ hi,qd _ _ o_,List.getElem_append_right o_,List.getElem_drop]
  congr 1
  omega
theorem z6J {ns ls:List Pr} (h:zC ns ls) {k:Nat} (hk:k<ls.length):zC ns (ls.take k++ls.drop (k+1)):=by
 have hm:=h.2.2.1;have Hm:(ls.take k++ls.drop (k+1)).length =ls.length -1:=by simp;omega
 refine z74 h o_ (fun i=>if i<k then i else i+1) (fun i hi=>⟨?_,Xb hk i hi⟩) (fun i j hi hj e=>?_)
 ·rw[Hm] at hi
  show(if i<k then i else i+1)<_
  split<;>omega
 ·have e':(if i<k then i else i+1)=(if j<k then j else j+1):=e
  split at e'<;>split at e'<;>omega
theorem z3M {ns:List Pr} {l:Pr} (h:zt ns l=true):qO ns l l=true:=by
 have e:∀p:Pr,qz p p=true:=fun p=>yt.2 rfl
 simp[qO,h,jL,e]
theorem z3u {ns ls:List Pr} (h:zC ns ls) {i k:Nat} (hi:i<ls.length) (hk:k<ls.length) (Hv:i≠k):ndI ls (i:Nat)≠ndI ls (k:Nat):=by
 intro e;have h1:=z0G h hi hk Hv;rw[e,z3M ((h.2.2.2.2.2 k hk).1)] at h1
 cases h1
end Go.Proofs.YtnjcpljhmhdhkaaGreat
