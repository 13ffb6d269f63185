/- part 9 -/
import Derived.Test.YtnjcpljhmhdhkaaGreatEPk6
import Derived.Test.YtnjcpljhmhdhkaaGreatEPk7
set_option linter.unusedSimpArgs false
set_option linter.unusedVariables false
set_option maxRecDepth 100000
set_option maxHeartbeats 4000000
namespace Go.Proofs.YtnjcpljhmhdhkaaGreat
theorem Z0 (ls:List Pr) (k:Nat):∀m,(frD ls k m).Nodup
 |0=>by simp[frD]
 |m+1=>by
  by_cases h:zc ls m=k
  ·rw[J6 h,List.nodup_append]
   refine⟨Z0 ls k m,by simp,fun a ha b hb=>?_⟩
   have:=(Vz ls k m a ha).1;simp at hb
   omega
  ·rw[z0W h];exact Z0 ls k m
theorem z6P {ns ls:List Pr} (h:zC ns ls) {d e:Nat} (hd:d<2*ls.length) (he:e<2*ls.length) (h1:zc ls d=zc ls e) (h2:dTo ls d=dTo ls e):d=e:=by
 have h6:=h.2.2.2.2.2;have l1:=zZ.1 (h6 (d/2) o_).1;have l2:=zZ.1 (h6 (e/2) o_).1
 by_cases hq:d/2=e/2
 ·unfold zc at h1
  rw[hq] at h1 l1
  by_cases p1:d%2=1<;>by_cases p2:e%2=1
  ·omega
  ·rw[aao p1,aaq p2] at h1;omega
  ·rw[aaq p1,aao p2] at h1;omega
  ·omega
 ·exfalso
  refine z2O h o_ o_ hq ?_
  unfold zc at h1;unfold dTo at h2;refine Prod.ext_iff.2 ?_
  by_cases p1:d%2=1<;>by_cases p2:e%2=1
  ·rw[aao p1,aao p2] at h1 h2;exact⟨h2,h1⟩
  ·rw[aao p1,aaq p2] at h1 h2;exfalso;omega
  ·rw[aaq p1,aao p2] at h1 h2;exfalso;omega
  ·rw[aaq p1,aaq p2] at h1 h2;exact⟨h1,h2⟩
theorem z67 {ns ls:List Pr} (h:zC ns ls) (k:Nat):(frD ls k (2*ls.length)).length <=12:=by
 apply abk
 intro hc;have Ho:∀j:Nat,j<ls.length->zv ns (ndI ls j)=true:=fun j hj=>(h.2.2.2.2.2 j hj).1
 have hn:=h.2.1;generalize hG:frD ls k (2*ls.length)=G at*
 have hm:∀i,i<G.length->G.getD i 0<2*ls.length/\zc ls (G.getD i 0)=k:=by
  intro i hi;have:=Vz ls k (2*ls.length) (G.getD i 0) (by rw[hG,List.getD,aac hi];exact abg hi);exact this
 obtain⟨i,j,h1,h2,h3⟩:=pigeon 12 (fun i=>(dTo ls (G.getD i 0)).toNat) (fun i hi=>by
  obtain⟨t,ht,CV⟩:=jG Ho (hm i o_).1
  show(dTo ls (G.getD i 0)).toNat <12
  rw[ht];omega)
 have mi:=hm i o_;have mj:=hm j o_;obtain⟨t,ht,_⟩:=jG Ho mi.1;obtain⟨u,hu,_⟩:=jG Ho mj.1;have Yw:(dTo ls (G.getD i 0)).toNat =(dTo ls (G.getD j 0)).toNat :=h3;have hto:dTo ls (G.getD i 0)=dTo ls (G.getD j 0):=by rw[ht,hu] at Yw⊢;omega
 have he:=z6P h mi.1 mj.1 (by rw[mi.2,mj.2]) hto;have hnd:=Z0 ls k (2*ls.length);rw[hG] at hnd;have li:i<G.length:=o_
 have lj:j<G.length:=o_
 rw[List.getD,List.getD,aac li,aac lj] at he;have:=(List.getElem_inj hnd).1 (by simpa using he);omega
open Go.RowKit
attribute [local go_sem ↓] zr zt zR zQ
theorem z1h (d:Nat):d^^^1=twin d:=by
 apply Nat.eq_of_testBit_eq
 intro i;rw[Nat.testBit_xor]
 cases i with
 |zero=>
  rw[Nat.testBit_zero,Nat.testBit_zero,Nat.testBit_zero];unfold twin;have h:d%2=0∨d%2=1:=o_
  rcases h with h|h
  ·rw[aao h,h,show(d+1)%2=1 by omega];rfl
  ·rw[aaq o_,h,show(d -1)%2=0 by omega];rfl
 |succ i=>
  rw[Nat.testBit_succ,Nat.testBit_succ,Nat.testBit_succ,show twin d/2=d/2 by unfold twin;split<;>omega];simp
theorem yF (vn vl:Value) (ls:List Pr) (d:Nat) (w:World) (hl:RP w vl ls) (hd:d<2*ls.length):
  CB_ 241 #[.agg #[vn,vl],.int .i64 d] w (.int .i64 (zc ls d)):=by
 obtain⟨A,c,rfl,hc,hm,hcell⟩:=hl.formI;unfold maxLen at hm;clear hl;obtain⟨b,off,rfl,hb,Hy⟩:=hcell o_;obtain⟨k0,k1⟩:=Hy (d/2) o_;have t1:=tdiv2 d;have t2:=tmod2 d;have HF:Hid (zc ls d=if d%2=1 then(ndI ls (d/2:Nat)).2 else(ndI ls (d/2:Nat)).1):=h_ rfl;have hq:d/2<ls.length:=o_
 have nE:((d/2:Nat):Int)<(ls.length:Int):=o_
 have rj:(0:Int)<=((d/2:Nat):Int):=o_
 have hr:d%2=0∨d%2=1:=o_
 generalize d/2=q at*;generalize ndI ls (q:Int)=L at*;obtain⟨l1,l2⟩:=L;simp only at k0 k1 HF
 clear Hy hcell
 rcases hr with hr|hr
 ·rw[hr] at HF t2
  have e1:((0:Nat):Int)=0:=rfl
  go_enter Tryz.func241,Tryz.ntmps241
  go_wp2;go_ret
  exact⟨zo (by rw[HF.out];rfl),by exact bel_⟩
 ·rw[hr] at HF t2
  have e1:((1:Nat):Int)=1:=rfl
  go_enter Tryz.func241,Tryz.ntmps241
  go_wp2;go_ret
  exact⟨zo (by rw[HF.out];rfl),by exact bel_⟩
theorem z57 (ax ay bx by':Int) (w:World):
  CB_ 275 #[.agg #[.int .i64 ax,.int .i64 ay],.agg #[.int .i64 bx,.int .i64 by']] w (.int .i64 (j9 ax ay bx by')):=by
 go_enter Tryz.func275,Tryz.ntmps275
 go_wp2
 all_goals go_ret
 all_goals refine⟨zo ?_,by exact bel_⟩
 all_goals unfold j9
 all_goals first|(rw[aao o_];done)|(rw[aaq o_];done)|(simp_all;done)|(simp_all;omega)
theorem z1X (ax ay bx by' cx cy:Int) (w:World):
  Calls Tryz.prog 269 #[.agg #[.int .i64 ax,.int .i64 ay],.agg #[.int .i64 bx,.int .i64 by'],.agg #[.int .i64 cx,.int .i64 cy]] w
   fun e w'=>e= .returned (.bool (befB ax ay bx by' cx cy))/\Below w.heap.size w w':=by
 by_cases hv:zh ax ay=true/\zh bx by'=true/\zh cx cy=true
 ·obtain⟨h1,h2,h3⟩:=hv
  have HN:Hid ((zh ax ay&&zh bx by'&&zh cx cy)=true):=h_ (by rw[h1,h2,h3];rfl);have HR:Hid (befB ax ay bx by' cx cy=(if j9 ax ay bx by'=j9 ax ay cx cy then decide (0<q7 ax ay bx by' cx cy) else decide (j9 ax ay bx by'<j9 ax ay cx cy))):=h_ (by unfold befB;rw[h1,h2,h3];rfl)
  go_enter Tryz.func269,Tryz.ntmps269
  go_wp2_with fail
  refine(vx _ ax ay bx by' cx cy _ (j6 (by simp) rfl rfl rfl (by simp[maxLen]))).mono ?_
  rintro e w1 ⟨rfl,h9⟩;(have gc:=bcC h9);have Ht:=h9.size;(try simp at Ht);(try have gF:=p0_ w w1);(try have Ge:=p1_ w w1);(try have fi:=p2_ w w1)
  rw[HN.out]
  go_wp2_with fail
  (refine z7 k_ k_ (fun hG=>?_))
  repeat (go_big_quiet_step ((go_at_call 275;exact zI (z57 _ _ _ _ _))))
  (refine wpQuiet_nil ?_);(clear hG);(rintro w4 ⟨⟨_,Hw⟩,rfl⟩);(try dsimp only);(have FG:=bcC Hw);have bv:=Hw.size;(try simp at bv);(try have rg:=p0_ w w4);(try have rh:=p1_ w w4);(try have ri:=p2_ w w4);(try have hp4_3:=p3_ w w4)
  generalize hU:j9 ax ay bx by'=u at*
  generalize hV:j9 ax ay cx cy=v at*
  go_wp2_with (go_at_call 214;refine(xI _ _ _ _ _ _ _ h1 h2 h3).mono ?_;rintro e w5 ⟨rfl,H0⟩)
  all_goals go_ret
  all_goals refine⟨z8 ?_,by exact bel_⟩
  all_goals rw[HR.out]
  all_goals by_cases Nf:u=v
  all_goals first|rw[aao Nf]|rw[aaq Nf]
  all_goals first|(simp_all;done)|(simp_all;omega)|(simp;omega)
 ·have HN:Hid ((zh ax ay&&zh bx by'&&zh cx cy)=false):=h_ (by
   cases h1:zh ax ay<;>cases h2:zh bx by'<;>cases h3:zh cx cy<;>simp_all)
  have HR:=h_ (Jh hv)
  go_enter Tryz.func269,Tryz.ntmps269
  go_wp2_with fail
  refine(vx _ ax ay bx by' cx cy _ (j6 (by simp) rfl rfl rfl (by simp[maxLen]))).mono ?_
  rintro e w1 ⟨rfl,h9⟩;rw[HN.out];go_wp2;go_ret
  exact⟨z8 HR.out.symm,by exact bel_⟩
theorem z2W (a b c:Pr) (x:Bool) (w:World) (h:befB a.1 a.2 b.1 b.2 c.1 c.2=x):
  Calls Tryz.prog 269 #[.agg #[.int .i64 a.1,.int .i64 a.2],.agg #[.int .i64 b.1,.int .i64 b.2],.agg #[.int .i64 c.1,.int .i64 c.2]] w
   fun e w'=>e= .returned (.bool x)/\Below w.heap.size w w':=by
 subst h;exact z1X _ _ _ _ _ _ w
def cmpD (ns ls:List Pr) (k d e:Nat):Int:=if d=e then 0 else if bfD ns ls k d e then -1 else 1
theorem z7m (ax ay bx by':Int):befB ax ay bx by' bx by'=false:=by
 unfold befB;rw[aao rfl];have:q7 ax ay bx by' bx by'=0:=JW (ax,ay) (bx,by')
 rw[this];simp
theorem z81 (ns ls:List Pr) (k d e:Nat):decide (cmpD ns ls k d e<0)=bfD ns ls k d e:=by
 unfold cmpD
 by_cases h:d=e
 ·subst h
  rw[aao rfl];unfold bfD;rw[z7m];rfl
 ·rw[aaq h]
  cases bfD ns ls k d e<;>rfl
theorem z8v (gW gK:Nat) (vn vl:Value) (ns ls:List Pr) (k d e:Nat) (w:World) (hW:Blk w gW 27 #[vn,vl]) (hKc:w.cell? ⟨gK,0,none⟩=some (.int .i64 k)) (hKl:gK<w.heap.size) (hn:RP w vn ns) (hl:RP w vl ls)
  (hk:k<ns.length) (hd:d<2*ls.length) (he:e<2*ls.length) (Hh:zC ns ls):
  Calls Tryz.prog 268 #[.int .i64 d,.int .i64 e,.pointer (some ⟨gW,0,none⟩),.pointer (some ⟨gK,0,none⟩)] w fun en w'=>en= .returned (.int .i64 (cmpD ns ls k d e))/\Below w.heap.size w w':=by
 have Ho:∀j:Nat,j<ls.length->zv ns (ndI ls j)=true:=fun j hj=>(Hh.2.2.2.2.2 j hj).1
 have GD:=Hh.2.2.1;obtain⟨An,cn,rfl,Fk,GL,Hl⟩:=hn.formI;obtain⟨bn,offn,rfl,Gd,Gj⟩:=Hl o_;obtain⟨t,ht,CV⟩:=jG Ho hd;obtain⟨u,hu,GK⟩:=jG Ho he;obtain⟨k0,k1⟩:=Gj k hk;obtain⟨t0,t1⟩:=Gj t CV;obtain⟨u0,u1⟩:=Gj u GK;unfold maxLen at GL;have hgW:=hW.lt;have x1:=kz (a:=d) (b:=1) o_ o_;have x2:=kz (a:=e) (b:=1) o_ o_;rw[z1h] at x1 x2;have x1':bits .xor .i64 (d:Int) 1=((twin d:Nat):Int):=x1;have x2':bits .xor .i64 (e:Int) 1=((twin e:Nat):Int):=x2;clear x1 x2;have X1:=h_ x1';have X2:=h_ x2';clear x1' x2';have ik1:(0:Int)<=(k:Int):=o_
 have ik2:(k:Int)<(ns.length:Int):=o_
 have it1:(0:Int)<=(t:Int):=o_
 have it2:(t:Int)<(ns.length:Int):=o_
 have iu1:(0:Int)<=(u:Int):=o_
 have iu2:(u:Int)<(ns.length:Int):=o_
 obtain⟨a_0,a_1⟩:=hW.c2;clear Hl Gj
 go_enter Tryz.func268,Tryz.ntmps268
 go_wp2_with fail
 have HS:Hid (∀v:World,Below w.heap.size w v->v.cell? ⟨gW,0,none⟩=some (.slice (some ⟨bn,offn,none⟩) ns.length cn)/\v.cell? ⟨gW,1,none⟩=some vl/\v.cell? ⟨gK,0,none⟩=some (.int .i64 k)/\v.cell? ⟨bn,offn+k*2,none⟩=some (.int .i64 (ndI ns k).1)/\v.cell? ⟨bn,offn+k*2+1,none⟩=some (.int .i64 (ndI ns k).2)):=h_ (fun v hv=>⟨(hv.cell (p:=⟨gW,0,none⟩) hgW).trans a_0,(hv.cell (p:=⟨gW,1,none⟩) hgW).trans a_1,(hv.cell (p:=⟨gK,0,none⟩) hKl).trans hKc,(hv.cell (p:=⟨bn,offn+k*2,none⟩) Gd).trans k0,(hv.cell (p:=⟨bn,offn+k*2+1,none⟩) Gd).trans k1⟩);refine jm (n:=26) (S:=fun v=>v.cell? ⟨gW,0,none⟩=some (.slice (some ⟨bn,offn,none⟩) ns.length cn)/\v.cell? ⟨gW,1,none⟩=some vl/\v.cell? ⟨gK,0,none⟩=some (.int .i64 k)/\v.cell? ⟨bn,offn+k*2,none⟩=some (.int .i64 (ndI ns k).1)/\v.cell? ⟨bn,offn+k*2+1,none⟩=some (.int .i64 (ndI ns k).2)) k_ (HS.out _ (aaj _ _).drew) (fun hS=>?_)
 refine tE_ 0 rfl rfl ?_;(try simp only[Act.put,abi,aal,aap])
 refine tE_ 1 rfl rfl ?_;(try simp only[Act.put,abi,aal,aap])
 refine tE_ 2 rfl rfl ?_;(try simp only[Act.put,abi,aal,aap])
 refine tE_ 3 rfl rfl ?_;(try simp only[Act.put,abi,aal,aap])
 refine tE_ 4 rfl rfl ?_;(try simp only[Act.put,abi,aal,aap])
 refine tE_ 5 rfl rfl ?_;(try simp only[Act.put,abi,aal,aap])
 refine tE_ 6 rfl rfl ?_;(try simp only[Act.put,abi,aal,aap])
 refine tE_ 7 rfl rfl ?_;(try simp only[Act.put,abi,aal,aap])
 refine tE_ 8 rfl rfl ?_;(try simp only[Act.put,abi,aal,aap])
 refine tE_ 9 rfl rfl ?_;(try simp only[Act.put,abi,aal,aap])
 refine tE_ 13 rfl rfl ?_;(try simp only[Act.put,abi,aal,aap])
 refine tE_ 14 rfl rfl ?_;(try simp only[Act.put,abi,aal,aap])
 refine tE_ 15 rfl rfl ?_;(try simp only[Act.put,abi,aal,aap])
 refine tE_ 16 rfl rfl ?_;(try simp only[Act.put,abi,aal,aap])
 refine tE_ 17 rfl rfl ?_;(try simp only[Act.put,abi,aal,aap])
 rw[X1.out,X2.out];have hpt:=js hd;have hqt:=js he;have T0:=jt ls d;have U0:=jt ls e;rw[ht] at T0;rw[hu] at U0;have HC:=h_ (fun (v:World) (hb:Below w.heap.size w v)=>yF (.slice (some ⟨bn,offn,none⟩) ns.length cn) vl ls (twin d) v (hl.below hb) hpt);have HD:=h_ (fun (v:World) (hb:Below w.heap.size w v)=>yF (.slice (some ⟨bn,offn,none⟩) ns.length cn) vl ls (twin e) v (hl.below hb) hqt);rw[T0] at HC;rw[U0] at HD;generalize twin d=pd at*;generalize twin e=pe at*;have HT:Hid (∀v:World,Below w.heap.size w v->v.cell? ⟨bn,offn+t*2,none⟩=some (.int .i64 (ndI ns t).1)/\v.cell? ⟨bn,offn+t*2+1,none⟩=some (.int .i64 (ndI ns t).2)):=h_ (fun v hv=>⟨(hv.cell (p:=⟨bn,offn+t*2,none⟩) Gd).trans t0,(hv.cell (p:=⟨bn,offn+t*2+1,none⟩) Gd).trans t1⟩);have HU:Hid (∀v:World,Below w.heap.size w v->v.cell? ⟨bn,offn+u*2,none⟩=some (.int .i64 (ndI ns u).1)/\v.cell? ⟨bn,offn+u*2+1,none⟩=some (.int .i64 (ndI ns u).2)):=h_ (fun v hv=>⟨(hv.cell (p:=⟨bn,offn+u*2,none⟩) Gd).trans u0,(hv.cell (p:=⟨bn,offn+u*2+1,none⟩) Gd).trans u1⟩)
 refine z3J (n:=26) (Inv:=fun L a v=>∃v7 v8 v9 v20 v21 v22 v28 v29 v30,a= {
   tmps:= #[.int .i64 d,.int .i64 e,.pointer (some ⟨gW,0,none⟩),.pointer (some ⟨gK,0,none⟩),undef,undef,.int .i64 0,v7,v8,v9,
    .pointer (some ⟨gW,0,none⟩),.slice (some ⟨bn,offn,none⟩) ns.length cn,.int .i64 k,.pointer (some ⟨bn,offn+k*2,none⟩),.agg #[.int .i64 (ndI ns k).1,.int .i64 (ndI ns k).2],
    .pointer (some ⟨gW,0,none⟩),.slice (some ⟨bn,offn,none⟩) ns.length cn,.agg #[.slice (some ⟨bn,offn,none⟩) ns.length cn,vl],.int .i64 d,.int .i64 pd,v20,v21,v22,
    .pointer (some ⟨gW,0,none⟩),.slice (some ⟨bn,offn,none⟩) ns.length cn,.agg #[.slice (some ⟨bn,offn,none⟩) ns.length cn,vl],.int .i64 e,.int .i64 pe,v28,v29,v30,
    undef,undef,undef,undef,undef,undef,undef,undef,undef],defers:=[] }/\
   Below w.heap.size w v/\(∀j∈ [0,1,2,3,4,5,6,7,8,9,13,14,15,16,17],tk L j=true)/\
   Aft L 10 (v20= .int .i64 t)/\Aft L 11 (v21= .pointer (some ⟨bn,offn+t*2,none⟩))/\Aft L 12 (v22= .agg #[.int .i64 (ndI ns t).1,.int .i64 (ndI ns t).2])/\
   Aft L 18 (v28= .int .i64 u)/\Aft L 19 (v29= .pointer (some ⟨bn,offn+u*2,none⟩))/\Aft L 20 (v30= .agg #[.int .i64 (ndI ns u).1,.int .i64 (ndI ns u).2])/\
   One L 21 24 w.heap.size 106 #[.int .i64 0,.int .i64 0] #[.int .i64 (ndI ns k).1,.int .i64 (ndI ns k).2] v7 v/\
   One L 22 25 w.heap.size 106 #[.int .i64 0,.int .i64 0] #[.int .i64 (ndI ns t).1,.int .i64 (ndI ns t).2] v8 v/\
   One L 23 26 w.heap.size 106 #[.int .i64 0,.int .i64 0] #[.int .i64 (ndI ns u).1,.int .i64 (ndI ns u).2] v9 v/\
   Apart2 L 21 22 v7 v8/\Apart2 L 21 23 v7 v9/\Apart2 L 22 23 v8 v9) (by decide) k_ k_ ?_ ?_ 12 _ _ _ rfl ?_ k_ ?_
 ·intro L a v hI i hi hr
  obtain⟨v7,v8,v9,v20,v21,v22,v28,v29,v30,rfl,hb,GF,f10,f11,f12,f18,f19,f20,o7,o8,o9,p78,p79,p89⟩:=hI;have GK:=V0 hr;have No:=HS.out v hb
  rcases(show i=10∨i=11∨i=12∨i=18∨i=19∨i=20∨i=21∨i=22∨i=23∨i=24∨i=25∨i∈ [0,1,2,3,4,5,6,7,8,9,13,14,15,16,17] by simp only[List.mem_cons,List.mem_nil_iff,or_false];omega) with rfl|rfl|rfl|rfl|rfl|rfl|rfl|rfl|rfl|rfl|rfl|hm
  ·--10
   refine qF rfl (fun K hK=>?_)
   rw[aao (by rfl)];go_simp
   go_at_call 241
   refine(HC.out _ hb).mono ?_
   rintro en w1 ⟨rfl,h9⟩
   go_wp2_with fail
   have H8:=hb.trans (h9.mono hb.size);exact⟨HS.out _ H8,_,_,_,_,_,_,_,_,_,rfl,H8,preS GF,Aft.new rfl,f11.keep (by decide),f12.keep (by decide),f18.keep (by decide),f19.keep (by decide),f20.keep (by decide),o7.step (by decide) (by decide) h9,o8.step (by decide) (by decide) h9,o9.step (by decide) (by decide) h9,p78.step (by decide) (by decide),p79.step (by decide) (by decide),p89.step (by decide) (by decide)⟩
  ·--11
   obtain rfl:=f10 (qX hr rfl k_);refine qF rfl (fun K hK=>?_)
   rw[aao (by rfl)];go_simp;exact hK _ _ ⟨No,_,_,_,_,_,_,_,_,_,rfl,hb,preS GF,f10.keep (by decide),Aft.new rfl,f12.keep (by decide),f18.keep (by decide),f19.keep (by decide),f20.keep (by decide),o7.step (by decide) (by decide) (aaj _ _),o8.step (by decide) (by decide) (aaj _ _),o9.step (by decide) (by decide) (aaj _ _),p78.step (by decide) (by decide),p79.step (by decide) (by decide),p89.step (by decide) (by decide)⟩
  ·--12
   obtain rfl:=f11 (qX hr rfl k_);obtain⟨c0,c1⟩:=HT.out v hb;refine qF rfl (fun K hK=>?_)
   rw[aao (by rfl)];go_simp;exact hK _ _ ⟨No,_,_,_,_,_,_,_,_,_,rfl,hb,preS GF,f10.keep (by decide),f11.keep (by decide),Aft.new rfl,f18.keep (by decide),f19.keep (by decide),f20.keep (by decide),o7.step (by decide) (by decide) (aaj _ _),o8.step (by decide) (by decide) (aaj _ _),o9.step (by decide) (by decide) (aaj _ _),p78.step (by decide) (by decide),p79.step (by decide) (by decide),p89.step (by decide) (by decide)⟩
  ·--18
   refine qF rfl (fun K hK=>?_)
   rw[aao (by rfl)];go_simp
   go_at_call 241
   refine(HD.out _ hb).mono ?_
   rintro en w1 ⟨rfl,h9⟩
   go_wp2_with fail
   have H8:=hb.trans (h9.mono hb.size);exact⟨HS.out _ H8,_,_,_,_,_,_,_,_,_,rfl,H8,preS GF,f10.keep (by decide),f11.keep (by decide),f12.keep (by decide),Aft.new rfl,f19.keep (by decide),f20.keep (by decide),o7.step (by decide) (by decide) h9,o8.step (by decide) (by decide) h9,o9.step (by decide) (by decide) h9,p78.step (by decide) (by decide),p79.step (by decide) (by decide),p89.step (by decide) (by decide)⟩
  ·--19
   obtain rfl:=f18 (qX hr rfl k_);refine qF rfl (fun K hK=>?_)
   rw[aao (by rfl)];go_simp;exact hK _ _ ⟨No,_,_,_,_,_,_,_,_,_,rfl,hb,preS GF,f10.keep (by decide),f11.keep (by decide),f12.keep (by decide),f18.keep (by decide),Aft.new rfl,f20.keep (by decide),o7.step (by decide) (by decide) (aaj _ _),o8.step (by decide) (by decide) (aaj _ _),o9.step (by decide) (by decide) (aaj _ _),p78.step (by decide) (by decide),p79.step (by decide) (by decide),p89.step (by decide) (by decide)⟩
  ·--20
   obtain rfl:=f19 (qX hr rfl k_);obtain⟨c0,c1⟩:=HU.out v hb;refine qF rfl (fun K hK=>?_)
   rw[aao (by rfl)];go_simp;exact hK _ _ ⟨No,_,_,_,_,_,_,_,_,_,rfl,hb,preS GF,f10.keep (by decide),f11.keep (by decide),f12.keep (by decide),f18.keep (by decide),f19.keep (by decide),Aft.new rfl,o7.step (by decide) (by decide) (aaj _ _),o8.step (by decide) (by decide) (aaj _ _),o9.step (by decide) (by decide) (aaj _ _),p78.step (by decide) (by decide),p79.step (by decide) (by decide),p89.step (by decide) (by decide)⟩
  ·--21
   refine qF rfl (fun K hK=>?_)
   rw[aao (by rfl)];go_simp;have h9:Below v.heap.size v (v.alloc (.cells #[.int .i64 0,.int .i64 0] 106)):=(aaj _ _).alloc (aaa _) _;have H8:=hb.trans (h9.mono hb.size);exact hK _ _ ⟨HS.out _ H8,_,_,_,_,_,_,_,_,_,rfl,H8,preS GF,f10.keep (by decide),f11.keep (by decide),f12.keep (by decide),f18.keep (by decide),f19.keep (by decide),f20.keep (by decide),o7.lay GK (by decide) hb.size,o8.step (by decide) (by decide) h9,o9.step (by decide) (by decide) h9,Apart2.newL o8 (by decide),Apart2.newL o9 (by decide),p89.step (by decide) (by decide)⟩
  ·--22
   refine qF rfl (fun K hK=>?_)
   rw[aao (by rfl)];go_simp;have h9:Below v.heap.size v (v.alloc (.cells #[.int .i64 0,.int .i64 0] 106)):=(aaj _ _).alloc (aaa _) _;have H8:=hb.trans (h9.mono hb.size);exact hK _ _ ⟨HS.out _ H8,_,_,_,_,_,_,_,_,_,rfl,H8,preS GF,f10.keep (by decide),f11.keep (by decide),f12.keep (by decide),f18.keep (by decide),f19.keep (by decide),f20.keep (by decide),o7.step (by decide) (by decide) h9,o8.lay GK (by decide) hb.size,o9.step (by decide) (by decide) h9,Apart2.newR o7 (by decide),p79.step (by decide) (by decide),Apart2.newL o9 (by decide)⟩
  ·--23
   refine qF rfl (fun K hK=>?_)
   rw[aao (by rfl)];go_simp;have h9:Below v.heap.size v (v.alloc (.cells #[.int .i64 0,.int .i64 0] 106)):=(aaj _ _).alloc (aaa _) _;have H8:=hb.trans (h9.mono hb.size);exact hK _ _ ⟨HS.out _ H8,_,_,_,_,_,_,_,_,_,rfl,H8,preS GF,f10.keep (by decide),f11.keep (by decide),f12.keep (by decide),f18.keep (by decide),f19.keep (by decide),f20.keep (by decide),o7.step (by decide) (by decide) h9,o8.step (by decide) (by decide) h9,o9.lay GK (by decide) hb.size,p78.step (by decide) (by decide),Apart2.newR o7 (by decide),Apart2.newR o8 (by decide)⟩
  ·--24
   have YD:=qX (j:=21) hr rfl k_;obtain⟨g,rfl,hg,hB⟩:=o7.zero YD GK;obtain⟨b_0,b_1,b_f0,b_f1⟩:=hB.b2;refine qF rfl (fun K hK=>?_)
   rw[aao (by rfl)];go_simp;have H8:=(hb.setCell (p:=⟨g,0,none⟩) hg (.int .i64 (ndI ns k).1)).setCell (p:=⟨g,1,none⟩) hg (.int .i64 (ndI ns k).2);exact hK _ _ ⟨HS.out _ H8,_,_,_,_,_,_,_,_,_,rfl,H8,preS GF,f10.keep (by decide),f11.keep (by decide),f12.keep (by decide),f18.keep (by decide),f19.keep (by decide),f20.keep (by decide),o7.fill YD GK rfl (by decide),o8.far (by decide) (by decide) (fun h=>(p78 YD h).symm) 0 1 _ _,o9.far (by decide) (by decide) (fun h=>(p79 YD h).symm) 0 1 _ _,p78.step (by decide) (by decide),p79.step (by decide) (by decide),p89.step (by decide) (by decide)⟩
  ·--25
   have YE:=qX (j:=22) hr rfl k_;obtain⟨g,rfl,hg,hB⟩:=o8.zero YE GK;obtain rfl:=f12 (qX hr rfl k_);obtain⟨b_0,b_1,b_f0,b_f1⟩:=hB.b2;refine qF rfl (fun K hK=>?_)
   rw[aao (by rfl)];go_simp;have H8:=(hb.setCell (p:=⟨g,0,none⟩) hg (.int .i64 (ndI ns t).1)).setCell (p:=⟨g,1,none⟩) hg (.int .i64 (ndI ns t).2);exact hK _ _ ⟨HS.out _ H8,_,_,_,_,_,_,_,_,_,rfl,H8,preS GF,f10.keep (by decide),f11.keep (by decide),f12.keep (by decide),f18.keep (by decide),f19.keep (by decide),f20.keep (by decide),o7.far (by decide) (by decide) (fun h=>p78 h YE) 0 1 _ _,o8.fill YE GK rfl (by decide),o9.far (by decide) (by decide) (fun h=>(p89 YE h).symm) 0 1 _ _,p78.step (by decide) (by decide),p79.step (by decide) (by decide),p89.step (by decide) (by decide)⟩
  ·rw[GF i hm] at GK;cases GK
 ·intro a v hI
  obtain⟨v7,v8,v9,v20,v21,v22,v28,v29,v30,rfl,hb,GF,f10,f11,f12,f18,f19,f20,o7,o8,o9,p78,p79,p89⟩:=hI;obtain rfl:=f20 k_;obtain⟨g9,rfl,U4,hB⟩:=o9.zero k_ k_;obtain⟨g7,rfl,ck,hB7⟩:=o7.full k_;obtain⟨g8,rfl,hg8,U5⟩:=o8.full k_;have n7:g7≠g9:=fun h=>p79 k_ k_ (by rw[h])
  have n8:g8≠g9:=fun h=>p89 k_ k_ (by rw[h])
  obtain⟨b_0,b_1,b_f0,b_f1⟩:=hB.b2;refine zL (fuel:=0) (n:=26) (i:=26) rfl k_ (fun K hK=>?_)
  rw[aao (by rfl)];go_simp;refine hK _ _ (fun h=>absurd h (by decide)) (fun _=>?_)
  clear hK K;refine yv k_ ?_ _
  have H8:=(hb.setCell (p:=⟨g9,0,none⟩) U4 (.int .i64 (ndI ns u).1)).setCell (p:=⟨g9,1,none⟩) U4 (.int .i64 (ndI ns u).2)
  have Ri:Blk ((v.setCell ⟨g9,0,none⟩ (.int .i64 (ndI ns u).1)).setCell ⟨g9,1,none⟩ (.int .i64 (ndI ns u).2)) g9 106 #[.int .i64 (ndI ns u).1,.int .i64 (ndI ns u).2]:=by
   have:=(hB.set_ 0 (.int .i64 (ndI ns u).1)).set_ 1 (.int .i64 (ndI ns u).2)
   simpa using this
  have hB7':=(hB7.far (p:=⟨g9,0,none⟩) n7 (.int .i64 (ndI ns u).1)).far (p:=⟨g9,1,none⟩) n7 (.int .i64 (ndI ns u).2);have Rj:=(U5.far (p:=⟨g9,0,none⟩) n8 (.int .i64 (ndI ns u).1)).far (p:=⟨g9,1,none⟩) n8 (.int .i64 (ndI ns u).2);generalize ((v.setCell ⟨g9,0,none⟩ (.int .i64 (ndI ns u).1)).setCell ⟨g9,1,none⟩ (.int .i64 (ndI ns u).2))=w3 at*;clear hB hB7 U5 b_0 b_1 b_f0 b_f1 hb o7 o8 o9 p78 p79 p89 f10 f11 f12 f18 f19 f20 GF;obtain⟨b_0,b_1,b_f0,b_f1⟩:=hB7'.b2;obtain⟨c_0,c_1,c_f0,c_f1⟩:=Rj.b2;obtain⟨f_0,f_1,f_f0,f_f1⟩:=Ri.b2
  by_cases hde:d=e
  ·have e1:((d:Int)==(e:Int))=true:=by simp[hde]
   have HR:Hid (cmpD ns ls k d e=0):=h_ (by simp[cmpD,hde]);go_wp2;go_ret
   exact⟨zo HR.out.symm,H8⟩
  ·have e1:((d:Int)==(e:Int))=false:=by simp;omega
   obtain⟨x,hx⟩:∃x,befB (ndI ns k).1 (ndI ns k).2 (ndI ns t).1 (ndI ns t).2 (ndI ns u).1 (ndI ns u).2=x:=⟨_,rfl⟩
   have HR:Hid (cmpD ns ls k d e=if x then -1 else 1):=h_ (by
    unfold cmpD bfD;rw[aaq hde,ht,hu,hx])
   go_wp2_with fail
   refine(z2W (ndI ns k) (ndI ns t) (ndI ns u) x _ hx).mono ?_
   rintro en w4 ⟨rfl,Hw⟩;have Hn:=H8.trans (Hw.mono H8.size)
   cases x
   ·go_wp2
    go_ret
    exact⟨zo HR.out.symm,Hn⟩
   ·go_wp2
    go_ret
    exact⟨zo HR.out.symm,Hn⟩
 ·intro j h1 h2
  have:j=26:=by
   have h3:j<27:=h2;omega
  subst this;rfl
 ·refine⟨_,_,_,_,_,_,_,_,_,rfl,(aaj _ _).drew,by decide,Aft.no rfl,Aft.no rfl,Aft.no rfl,Aft.no rfl,Aft.no rfl,Aft.no rfl,One.start rfl rfl,One.start rfl rfl,One.start rfl rfl,Apart2.start rfl,Apart2.start rfl,Apart2.start rfl⟩
def jk (F:List (List Nat)) (d:Nat):Bool:=F.any (·.contains d)
def zE (ns ls:List Pr):Nat->List (List Nat)
 |0=> []
 |m+1=>if jk (zE ns ls m) m then zE ns ls m else zE ns ls m++[qA ns ls m]
theorem vv {ns ls:List Pr} {m:Nat} (h:jk (zE ns ls m) m=true):zE ns ls (m+1)=zE ns ls m:=by simp[zE,h]
theorem k9 {ns ls:List Pr} {m:Nat} (h:jk (zE ns ls m) m=false):zE ns ls (m+1)=zE ns ls m++[qA ns ls m]:=by simp[zE,h]
def zg (ns ls:List Pr):List (List Nat):=zE ns ls (2*ls.length)
theorem kP (ns ls:List Pr):∀m,(zE ns ls m).length <=m
 |0=>by simp[zE]
 |m+1=>by
  have:=kP ns ls m
  cases h:jk (zE ns ls m) m
  ·rw[k9 h];simp;omega
  ·rw[vv h];omega
theorem xH {ns ls:List Pr} (Ho:∀j:Nat,j<ls.length->zv ns (ndI ls j)=true) {d:Nat} (hd:d<2*ls.length):∀e∈qA ns ls d,e<2*ls.length:=by
 intro e he;unfold qA jo at he;rw[List.mem_map] at he;obtain⟨i,_,rfl⟩:=he;exact xo Ho hd i
theorem JT {ns ls:List Pr} (Ho:∀j:Nat,j<ls.length->zv ns (ndI ls j)=true) {d:Nat} (hd:d<2*ls.length):0<(qA ns ls d).length /\(qA ns ls d).length <=2*ls.length:=by
 unfold qA;rw[kM];have:=kl Ho hd;exact⟨this.1,this.2.1⟩
theorem Zk {ns ls:List Pr} (Ho:∀j:Nat,j<ls.length->zv ns (ndI ls j)=true):∀m,m<=2*ls.length->∀f∈zE ns ls m,(∀e∈f,e<2*ls.length)/\0<f.length/\f.length<=2*ls.length
 |0,_,f,hf=>by simp[zE] at hf
 |m+1,hm,f,hf=>by
  cases h:jk (zE ns ls m) m
  ·rw[k9 h,aaI,aa9] at hf
   rcases hf with hf|rfl
   ·exact Zk Ho m o_ f hf
   ·exact⟨xH Ho o_,JT Ho o_⟩
  ·rw[vv h] at hf;exact Zk Ho m o_ f hf
def yk (ns ls:List Pr) (d:Nat):Int:=(ndI ns (zc ls d)).1*(ndI ns (dTo ls d)).2 -(ndI ns (zc ls d)).2*(ndI ns (dTo ls d)).1
def yj (ns ls:List Pr) (f:List Nat):Nat->Int
 |0=>0
 |k+1=>yj ns ls f k+yk ns ls (f.getD k 0)
def z9X (ns ls:List Pr) (f:List Nat):Int:=yj ns ls f f.length
theorem z7k {ns ls:List Pr} (h:zC ns ls) {d:Nat} (hd:d<2*ls.length): -400<=yk ns ls d/\yk ns ls d<=400:=by
 have Ho:∀j:Nat,j<ls.length->zv ns (ndI ls j)=true:=fun j hj=>(h.2.2.2.2.2 j hj).1
 obtain⟨t,ht,CV⟩:=jG Ho hd;obtain⟨u,hu,GK⟩:=qE Ho hd;unfold yk;rw[ht,hu];obtain⟨a0,a1,a2,a3⟩:=zD (jV h.2.2.2.1 t CV);obtain⟨b0,b1,b2,b3⟩:=zD (jV h.2.2.2.1 u GK);generalize (ndI ns (t:Int)).1=x at*;generalize (ndI ns (t:Int)).2=y at*;generalize (ndI ns (u:Int)).1=p at*;generalize (ndI ns (u:Int)).2=q at*;have m1:p*y<=20*20:=Int.mul_le_mul b1 a3 a2 o_;have m2:q*x<=20*20:=Int.mul_le_mul b3 a1 a0 o_;have m3:0<=p*y:=Int.mul_nonneg b0 a2;have m4:0<=q*x:=Int.mul_nonneg b2 a0;omega
theorem Vg {ns ls:List Pr} (h:zC ns ls) {f:List Nat} (hf:∀e∈f,e<2*ls.length):∀k,k<=f.length-> -(400*k:Int)<=yj ns ls f k/\yj ns ls f k<=400*k
 |0,_=>by simp[yj]
 |k+1,hk=>by
  have ih:=Vg h hf k o_;have hm:f.getD k 0∈f:=by rw[List.getD,aac o_];exact abg _
  have hc:=z7k h (hf _ hm);have e:yj ns ls f (k+1)=yj ns ls f k+yk ns ls (f.getD k 0):=rfl;omega
def ju (ns ls:List Pr) (F:List (List Nat)):Nat->Nat->Int
 |0,_=> -1
 |m+1,k=>if z9X ns ls (F.getD k [])<=0 then(k:Int) else ju ns ls F m (k+1)
def z6h (ns ls:List Pr) (F:List (List Nat)):Int:=ju ns ls F F.length 0
theorem QP (ns ls:List Pr) (d i:Nat):∀j,orbD ns ls d (i+j)=orbD ns ls (orbD ns ls d i) j
 |0=>rfl
 |j+1=>by show j5 ns ls (orbD ns ls d (i+j))=_;rw[QP ns ls d i j];rfl
theorem z3T {ns ls:List Pr} {d p:Nat} (h:orbD ns ls d p=d):∀q,orbD ns ls d (p*q)=d
 |0=>rfl
 |q+1=>by rw[Nat.mul_succ,QP,z3T h q,h]
section
variable {ns ls:List Pr} (Ho:∀j:Nat,j<ls.length->zv ns (ndI ls j)=true)
include Ho
theorem yq {d:Nat} (hd:d<2*ls.length) (e:Nat):e∈qA ns ls d↔∃i,orbD ns ls d i=e:=by
 obtain⟨h1,_,h3,_⟩:=kl Ho hd;unfold qA jo;rw[List.mem_map]
 constructor
 ·rintro⟨i,_,h⟩;exact⟨i,h⟩
 ·rintro⟨i,rfl⟩
  refine⟨i%perD ns ls d,List.mem_range.2 (Nat.mod_lt _ h1),?_⟩
  have e:orbD ns ls d (perD ns ls d*(i/perD ns ls d)+i%perD ns ls d)=orbD ns ls d (i%perD ns ls d):=by rw[QP,z3T h3]
  rw[<-e,Nat.div_add_mod]
theorem Xx {d:Nat} (hd:d<2*ls.length):d∈qA ns ls d:=(yq Ho hd d).2 ⟨0,rfl⟩
theorem z3H {d:Nat} (hd:d<2*ls.length):(qA ns ls d).Nodup :=by
 obtain⟨_,_,_,h4⟩:=kl Ho hd;unfold qA jo;rw[List.nodup_iff_pairwise_ne,List.pairwise_map];refine List.Pairwise.imp_of_mem (R:=fun a b=>a<b) (fun {a b} ha hb Hf he=>?_) (List.pairwise_lt_range)
 have gS:=List.mem_range.1 hb;have:=JJ Ho hd a (b -a) (by rw[he,show a+(b -a)=b by omega]);exact h4 (b -a) o_ o_ this
theorem z4s {d e:Nat} (hd:d<2*ls.length) (h:e∈qA ns ls d):d∈qA ns ls e:=by
 have he:=xH Ho hd e h;obtain⟨_,_,h3,_⟩:=kl Ho hd;unfold qA jo at h;rw[List.mem_map] at h;obtain⟨i,hi,rfl⟩:=h;have Fs:=List.mem_range.1 hi;refine(yq Ho he d).2 ⟨perD ns ls d -i,?_⟩
 rw[<-QP,show i+(perD ns ls d -i)=perD ns ls d by omega,h3]
theorem z3f {d e x:Nat} (hd:d<2*ls.length) (h:e∈qA ns ls d) (h2:x∈qA ns ls e):x∈qA ns ls d:=by
 obtain⟨i,hi⟩:=(yq Ho hd e).1 h;obtain⟨j,hj⟩:=(yq Ho (xH Ho hd e h) x).1 h2;exact(yq Ho hd x).2 ⟨i+j,by rw[QP,hi,hj]⟩
theorem qV:∀m,m<=2*ls.length->(∀d,d<m->d∈(zE ns ls m).flatten)/\(zE ns ls m).flatten.Nodup /\(∀f∈zE ns ls m,∃d,d<2*ls.length/\f=qA ns ls d)
 |0,_=>⟨fun d h=>absurd h o_,by simp[zE],by simp[zE]⟩
 |m+1,hm=>by
  obtain⟨h1,h2,h3⟩:=qV m o_
  cases h:jk (zE ns ls m) m
  ·rw[k9 h]
   have Rk:m∉(zE ns ls m).flatten :=by
    intro hc;rw[List.mem_flatten] at hc;obtain⟨f,hf,hmf⟩:=hc
    have:jk (zE ns ls m) m=true:=by
     unfold jk;rw[List.any_eq_true];exact⟨f,hf,by simpa using hmf⟩
    rw[h] at this;cases this
   refine⟨fun d hd=>?_,?_,fun f hf=>?_⟩
   ·rw[List.flatten_append,aaI]
    by_cases he:d=m
    ·subst he;right;simpa using Xx Ho (show d<2*ls.length by omega)
    ·exact .inl (h1 d o_)
   ·rw[List.flatten_append,List.nodup_append]
    refine⟨h2,by simpa using z3H Ho (show m<2*ls.length by omega),fun x hx y hy=>?_⟩
    rintro rfl;have hy':x∈qA ns ls m:=by simpa using hy
    rw[List.mem_flatten] at hx;obtain⟨f,hf,Rl⟩:=hx;obtain⟨d,hd,rfl⟩:=h3 f hf
    apply Rk
    rw[List.mem_flatten];exact⟨_,hf,z3f Ho hd Rl (z4s Ho o_ hy')⟩
   ·rw[aaI,aa9] at hf
    rcases hf with hf|rfl
    ·exact h3 f hf
    ·exact⟨m,by omega,rfl⟩
  ·rw[vv h]
   refine⟨fun d hd=>?_,h2,h3⟩
   by_cases he:d=m
   ·subst he
    unfold jk at h;rw[List.any_eq_true] at h;obtain⟨f,hf,rY⟩:=h;rw[List.mem_flatten];exact⟨f,hf,by simpa using rY⟩
   ·exact h1 d o_
theorem z3G:(zg ns ls).flatten.Perm (List.range (2*ls.length)):=by
 obtain⟨h1,h2,h3⟩:=qV Ho (2*ls.length) (aaa _);refine(List.perm_ext_iff_of_nodup h2 List.nodup_range).2 (fun d=>?_)
 rw[aaM]
 constructor
 ·intro h
  rw[List.mem_flatten] at h;obtain⟨f,hf,hd⟩:=h;obtain⟨e,he,rfl⟩:=h3 f hf;exact xH Ho he d hd
 ·exact h1 d
end
def sumC (ns ls:List Pr) (f:List Nat):Int:=(f.map (yk ns ls)).sum
theorem vL (ns ls:List Pr) (a b:List Nat):sumC ns ls (a++b)=sumC ns ls a+sumC ns ls b:=by simp[sumC]
theorem X9 (ns ls:List Pr) (f:List Nat):∀k,k<=f.length->yj ns ls f k=sumC ns ls (f.take k)
 |0,_=>rfl
 |k+1,h=>by
  unfold yj;have hk:k<f.length:=o_
  rw[X9 ns ls f k o_,aax hk,vL,show f.getD k 0=f[k] by simp[List.getD,hk]];simp[sumC]
theorem z5l (ns ls:List Pr) (f:List Nat):z9X ns ls f=sumC ns ls f:=by
 unfold z9X;rw[X9 ns ls f f.length (aaa _),aaA]
theorem z5q (ns ls:List Pr) {a b:List Nat} (h:a.Perm b):sumC ns ls a=sumC ns ls b:=by
 induction h with
 |nil=>rfl
 |cons x _ ih=>simp only[sumC,aaS,List.sum_cons] at ih⊢;omega
 |swap x y l=>simp only[sumC,aaS,List.sum_cons];omega
 |trans _ _ h1 h2=>omega
theorem z36 (ns ls:List Pr) (j:Nat):yk ns ls (2*j)+yk ns ls (2*j+1)=0:=by
 have e1:zc ls (2*j+1)=dTo ls (2*j):=by unfold zc dTo;rw[aao o_,aaq o_,show(2*j+1)/2=j by omega,show 2*j/2=j by omega]
 have e2:dTo ls (2*j+1)=zc ls (2*j):=by unfold zc dTo;rw[aao o_,aaq o_,show(2*j+1)/2=j by omega,show 2*j/2=j by omega]
 unfold yk;rw[e1,e2];rw[Int.mul_comm (ndI ns (dTo ls (2*j))).1,Int.mul_comm (ndI ns (dTo ls (2*j))).2];omega
theorem XJ (ns ls:List Pr):∀m,sumC ns ls (List.range (2*m))=0
 |0=>rfl
 |m+1=>by
  rw[show 2*(m+1)=2*m+1+1 by omega,abe,abe,vL,vL,XJ ns ls m];have:=z36 ns ls m;simp[sumC]
  omega
theorem XZ (ns ls:List Pr):∀F:List (List Nat),sumC ns ls F.flatten=(F.map (z9X ns ls)).sum
 | []=>rfl
 |f::F=>by rw[List.flatten_cons,vL,XZ ns ls F,aaS,List.sum_cons,z5l]
theorem z44:∀l:List Int,l≠ []->(∀x∈l,0<x)->0<l.sum
 | [],h,_=>absurd rfl h
 | [x],_,h=>by have:=h x (by simp);simpa using this
 |x::y::l,_,h=>by
  have h1:=z44 (y::l) (by simp) (fun z hz=>h z (by simp at hz⊢;right;exact hz));have h2:=h x (by simp);rw[List.sum_cons];omega
theorem z5X {ns ls:List Pr} (Ho:∀j:Nat,j<ls.length->zv ns (ndI ls j)=true) (hl:0<ls.length):∃k,k<(zg ns ls).length /\z9X ns ls ((zg ns ls).getD k [])<=0:=by
 apply abk
 intro hc;have hs:=XZ ns ls (zg ns ls);rw[z5q ns ls (z3G Ho),XJ] at hs
 have gd:(zg ns ls).map (z9X ns ls)≠ []:=by
  intro he;have h0:=(qV Ho (2*ls.length) (aaa _)).1 0 o_;have:zg ns ls=[]:=by simpa using he
  unfold zg at this;rw[this] at h0;simp at h0
 have hp:=z44 _ gd (fun x hx=>by
  rw[List.mem_map] at hx;obtain⟨f,hf,rfl⟩:=hx;obtain⟨k,hk,rfl⟩:=aba hf
  apply abk
  intro hle;refine hc ⟨k,hk,?_⟩
  rw[List.getD,aac hk];simp only[Option.getD_some]
  omega)
 omega
theorem ZI (ns ls:List Pr) (F:List (List Nat)):∀(m k:Nat),(∃q,k<=q/\q<k+m/\z9X ns ls (F.getD q [])<=0)->∃q:Nat,ju ns ls F m k=q/\k<=q/\q<k+m/\z9X ns ls (F.getD q [])<=0
 |0,k,⟨q,h1,h2,_⟩=>absurd h2 o_
 |m+1,k,⟨q,h1,h2,h3⟩=>by
  unfold ju
  split
  ·rename_i h;exact⟨k,rfl,aaa _,by omega,h⟩
  ·rename_i h
   have hq:q≠k:=fun e=>h (e▸h3)
   obtain⟨r,g1,g2,g3,g4⟩:=ZI ns ls F m (k+1) ⟨q,by omega,by omega,h3⟩;exact⟨r,g1,by omega,by omega,g4⟩
def z0m (adj:Nat->Nat->Bool) (ok:Nat->Bool) (F:Nat) (C:Nat->Prop):Prop:=∀g i,g<F->i<F->C g->adj g i=true->ok i=true->C i
def k6 (adj:Nat->Nat->Bool) (ok:Nat->Bool) (F f i:Nat):Prop:=∀C:Nat->Prop,C f->z0m adj ok F C->C i
noncomputable def Zo (adj:Nat->Nat->Bool) (ok:Nat->Bool) (F f:Nat):List Nat:=(List.range F).filter (fun i=> @decide (k6 adj ok F f i) (Classical.propDecidable _))
theorem JZ (adj:Nat->Nat->Bool) (ok:Nat->Bool) (F f:Nat):k6 adj ok F f f:=fun C h _=>h
theorem kL (adj:Nat->Nat->Bool) (ok:Nat->Bool) (F f:Nat):z0m adj ok F (k6 adj ok F f):=fun g i hg hi hr ha ho C h0 hC=>hC g i hg hi (hr C h0 hC) ha ho
theorem z3o {adj:Nat->Nat->Bool} {ok:Nat->Bool} {F f i:Nat}:i∈Zo adj ok F f↔i<F/\k6 adj ok F f i:=by
 unfold Zo;rw[List.mem_filter,aaM];simp
def stpC (near:Nat->Nat) (ok:Nat->Bool) (s g:Nat):Nat:=if ok g&&(near g &&& s != 0) then s ||| 2^g else s
def rndC (near:Nat->Nat) (ok:Nat->Bool) (s:Nat):Nat->Nat
 |0=>s
 |k+1=>stpC near ok (rndC near ok s k) k
def qC (near:Nat->Nat) (ok:Nat->Bool) (F s:Nat):Nat->Nat
 |0=>s
 |k+1=>rndC near ok (qC near ok F s k) F
theorem z1Y {near:Nat->Nat} {ok:Nat->Bool} {s g i:Nat} (h:s.testBit i=true):(stpC near ok s g).testBit i=true:=by
 unfold stpC
 split
 ·rw[aa1,h];rfl
 ·exact h
theorem Qu {near:Nat->Nat} {ok:Nat->Bool} {s i:Nat} (h:s.testBit i=true):∀k,(rndC near ok s k).testBit i=true
 |0=>h
 |k+1=>z1Y (Qu h k)
theorem Xz {near:Nat->Nat} {ok:Nat->Bool} {s i k:Nat}:∀j,(rndC near ok s k).testBit i=true->(rndC near ok s (k+j)).testBit i=true
 |0,h=>h
 |j+1,h=>z1Y (Xz j h)
theorem z7M {near:Nat->Nat} {ok:Nat->Bool} {s g m:Nat} (hs:s<2^m) (hg:g<m):stpC near ok s g<2^m:=by
 unfold stpC
 split
 ·exact Nat.or_lt_two_pow hs (aa3 o_ hg)
 ·exact hs
theorem Je {near:Nat->Nat} {ok:Nat->Bool} {s m:Nat} (hs:s<2^m):∀k,k<=m->rndC near ok s k<2^m
 |0,_=>hs
 |k+1,h=>z7M (Je hs k o_) o_
theorem xn {near:Nat->Nat} {ok:Nat->Bool} {F s:Nat} (hs:s<2^F):∀k,qC near ok F s k<2^F
 |0=>hs
 |k+1=>Je (xn hs k) F (aaa _)
theorem ZV {a b:Nat}:(a &&& b != 0)=true↔∃i,a.testBit i=true/\b.testBit i=true:=by
 rw[bne_iff_ne]
 constructor
 ·intro h
  apply abk
  intro hc
  apply h
  apply Nat.eq_of_testBit_eq
  intro i;rw[Nat.testBit_and,Nat.zero_testBit]
  cases h1:a.testBit i
  ·rfl
  ·cases h2:b.testBit i
   ·rfl
   ·exact absurd ⟨i,h1,h2⟩ hc
 ·rintro⟨i,h1,h2⟩ h
  have:(a &&& b).testBit i=true:=by rw[Nat.testBit_and,h1,h2];rfl
  rw[h,Nat.zero_testBit] at this
  cases this
theorem z4L {near:Nat->Nat} {ok:Nat->Bool} {s m:Nat} (hs:s<2^m) (h0:0<(memS s m).length):rndC near ok (qC near ok m s m) m=qC near ok m s m:=by
 apply abk
 intro hc
 have stay:∀k j,rndC near ok (qC near ok m s k) m=qC near ok m s k->qC near ok m s (k+j)=qC near ok m s k:=by
  intro k j hk
  induction j with
  |zero=>rfl
  |succ j ih=>show rndC near ok (qC near ok m s (k+j)) m=_;rw[ih,hk]
 have gd:∀k,k<=m->rndC near ok (qC near ok m s k) m≠qC near ok m s k:=by
  intro k hk he;have:=stay k (m -k) he;rw[show k+(m -k)=m by omega] at this;rw[this] at hc;exact hc he
 have grow:∀k,k<=m->k<(memS (qC near ok m s k) m).length :=by
  intro k
  induction k with
  |zero=>intro _;exact h0
  |succ k ih=>
   intro hk;have h1:=ih o_;have h2:=ZB (s:=qC near ok m s k) (t:=rndC near ok (qC near ok m s k) m) (m:=m) (fun i hi=>Qu hi m) (xn hs k) (Je (xn hs k) m (aaa _)) (fun e=>gd k o_ e.symm)
   show k+1<(memS (rndC near ok (qC near ok m s k) m) m).length
   omega
 have h1:=grow m (aaa _);have h2:=z0g (qC near ok m s m) m;omega
theorem z0e {near:Nat->Nat} {adj:Nat->Nat->Bool} {ok:Nat->Bool} {F f:Nat} (hn:∀g i,g<F->i<F->(near g).testBit i=adj g i) (fb:∀g,g<F->near g<2^F) (U6:∀g i,adj g i=adj i g) (hf:f<F):
  memS (qC near ok F (2^f) F) F=Zo adj ok F f:=by
 have hs:2^f<2^F:=aa3 o_ hf;have Rm:0<(memS (2^f) F).length :=abh (a:=f) (by simp[memS,hf,aby]);have hfix:=z4L (near:=near) (ok:=ok) hs Rm
 have sub:∀k i,(qC near ok F (2^f) k).testBit i=true->k6 adj ok F f i:=by
  intro k
  induction k with
  |zero=>
   intro i hi;have Fs:(2^f).testBit i=true:=hi;rw[aa2] at Fs;have:f=i:=by simpa using Fs
   subst this;exact JZ adj ok F f
  |succ k ih=>
   have inner:∀j,j<=F->∀i,(rndC near ok (qC near ok F (2^f) k) j).testBit i=true->k6 adj ok F f i:=by
    intro j
    induction j with
    |zero=>intro _ i hi;exact ih i hi
    |succ j ihj=>
     intro hj i hi;have ihj':=ihj o_;have Fs:(stpC near ok (rndC near ok (qC near ok F (2^f) k) j) j).testBit i=true:=hi;unfold stpC at Fs
     split at Fs
     ·rename_i hc
      rw[aaG,ZV] at hc;obtain⟨ho,x,CY,hx2⟩:=hc;rw[aa1,aaH] at Fs
      rcases Fs with h|h
      ·exact ihj' i h
      ·rw[aa2] at h
       have:j=i:=by simpa using h
       subst this
       have hxF:x<F:=by
        apply abk
        intro hxF;rw[Nat.testBit_lt_two_pow (aaD (fb j o_) (aaE o_ o_))] at CY
        cases CY
       have ha:adj x j=true:=by rw[U6,<-hn j x o_ hxF];exact CY
       exact kL adj ok F f x j hxF o_ (ihj' x hx2) ha ho
     ·exact ihj' i Fs
   exact inner F (aaa _)
 have keep:∀k,(qC near ok F (2^f) k).testBit f=true:=by
  intro k
  induction k with
  |zero=>exact aby
  |succ k ih=>exact Qu ih F
 have closed:z0m adj ok F (fun i=>(qC near ok F (2^f) F).testBit i=true):=by
  intro g i hg hi U3 ha ho
  have e:(rndC near ok (qC near ok F (2^f) F) (i+1)).testBit i=true:=by
   show(stpC near ok (rndC near ok (qC near ok F (2^f) F) i) i).testBit i=true
   unfold stpC
   have hc:(ok i&&(near i &&& rndC near ok (qC near ok F (2^f) F) i != 0))=true:=by
    rw[aaG,ZV];exact⟨ho,g,by rw[hn i g hi hg,U6];exact ha,Qu U3 i⟩
   rw[aao hc,aa1,aby,Bool.or_true]
  have:=Xz (F -(i+1)) e;rw[show i+1+(F -(i+1))=F by omega,hfix] at this;exact this
 unfold memS Zo
 apply List.filter_congr
 intro i hi;rw[aaZ]
 constructor
 ·intro h;simpa using sub F i h
 ·intro h
  have h':k6 adj ok F f i:=by simpa using h
  exact h' _ (keep F) closed
structure Grow (adj:Nat->Nat->Bool) (ok:Nat->Bool) (F f:Nat) (todo:List Nat) (k j:Nat):Prop where
 nd:todo.Nodup
 lt:∀x∈todo,x<F
 f_:f∈todo
 re:∀x∈todo,k6 adj ok F f x
 done:∀x∈todo.take k,∀i,i<F->adj x i=true->ok i=true->i∈todo
 part:∀x,todo[k]? =some x->∀i,i<j->i<F->adj x i=true->ok i=true->i∈todo
namespace Swp
variable {m n:Nat} (S:Swp m n)
noncomputable def lab (x:Nat):Nat:=labE (S.eAll (n -1)) x
noncomputable def gap (fw:Bool) (s j:Nat):Nat:=if fw then S.off s+S.pos s j+1 else S.off s+S.pos s j
inductive Turn (s:Nat):Bool->Nat->Bool->Nat->Prop
 |upL {j j':Nat} (h:S.b j=s) (h':S.b j'=s) (hb:S.Bel j j') (hn:∀k,k<m->S.b k=s->¬(S.Bel j k/\S.Bel k j')):Turn s true j false j'
 |backL {j j':Nat} (h:S.b j=s) (h':S.b j'=s) (hj:∀i,i<m->S.b i=s->¬S.Bel j i) (Bj:∀i,i<m->S.b i=s->¬S.Bel i j') (hn:∀i,i<m->S.a i≠s):Turn s true j false j'
 |over {j j':Nat} (h:S.b j=s) (h':S.a j'=s) (hj:∀i,i<m->S.b i=s->¬S.Bel j i) (Bj:∀i,i<m->S.a i=s->¬S.Bel j' i):Turn s true j true j'
 |downR {j j':Nat} (h:S.a j=s) (h':S.a j'=s) (hb:S.Bel j' j) (hn:∀k,k<m->S.a k=s->¬(S.Bel j' k/\S.Bel k j)):Turn s false j true j'
 |backR {j j':Nat} (h:S.a j=s) (h':S.a j'=s) (hj:∀i,i<m->S.a i=s->¬S.Bel i j) (Bj:∀i,i<m->S.a i=s->¬S.Bel j' i) (hn:∀i,i<m->S.b i≠s):Turn s false j true j'
 |under {j j':Nat} (h:S.a j=s) (h':S.b j'=s) (hj:∀i,i<m->S.a i=s->¬S.Bel i j) (Bj:∀i,i<m->S.b i=s->¬S.Bel i j'):Turn s false j false j'
end Swp
namespace Swp
variable {m n:Nat} (S:Swp m n)
structure Ring (s:Nat) (U:Nat->Prop) (R up:Nat->Bool) (ld:Nat->Nat) (bf:Nat->Nat->Prop):Prop where
 lt:∀e,U e->ld e<m
 ra:∀e,U e->R e=true->S.a (ld e)=s
 lb:∀e,U e->R e=false->S.b (ld e)=s
 allR:∀k,k<m->S.a k=s->∃e,U e/\R e=true/\ld e=k
 allL:∀k,k<m->S.b k=s->∃e,U e/\R e=false/\ld e=k
 one:∀d e,U d->U e->R d=R e->ld d=ld e->d=e
 du:∀d e,U d->U e->R d=R e->up d=false->up e=true->S.Bel (ld d) (ld e)
 bfRR:∀d e,U d->U e->R d=true->R e=true->(bf d e↔(up d=true/\up e=false)∨(up d=up e/\S.Bel (ld d) (ld e)))
 bfLL:∀d e,U d->U e->R d=false->R e=false->(bf d e↔(up d=true/\up e=false)∨(up d=up e/\S.Bel (ld e) (ld d)))
 bfRL:∀d e,U d->U e->R d=true->R e=false->(bf d e↔up d=true)
 bfLR:∀d e,U d->U e->R d=false->R e=true->(bf d e↔up e=false)
variable {s:Nat} {U:Nat->Prop} {R up:Nat->Bool} {ld:Nat->Nat} {bf:Nat->Nat->Prop}
end Swp
end Go.Proofs.YtnjcpljhmhdhkaaGreat
