/- part 2 -/
import Derived.Test.YtnjcpljhmhdhkaaGreatTPk0
import Derived.Test.YtnjcpljhmhdhkaaGreatProg
import Derived.BigQuiet
set_option linter.unusedSimpArgs false
set_option linter.unusedVariables false
set_option maxHeartbeats 400000
namespace Go.Proofs.YtnjcpljhmhdhkaaGreat
open Go.RowKit
def mn2 (x y:Int):Int:=if y<x then y else x
def mx2 (x y:Int):Int:=if x<y then y else x
theorem Qw (x y:Int):mn2 x y=min x y:=by unfold mn2;split<;>omega
theorem vW (x y:Int):mx2 x y=max x y:=by unfold mx2;split<;>omega
section
variable {P:Program} (w:World)
theorem zU (ts:Array TypeId) (t:TypeId) (k k':IntKind) (x y:Int):(Builtin.min_ ts t #[.int k x,.int k' y]).run P w= .ok (.int k (mn2 x y)) w:=by
 rw[run_min_int2];rfl
theorem zT (ts:Array TypeId) (t:TypeId) (k k':IntKind) (x y:Int):(Builtin.max_ ts t #[.int k x,.int k' y]).run P w= .ok (.int k (mx2 x y)) w:=by
 rw[vW];simp[Builtin.max_,Builtin.max2]
 split<;>omega
end
theorem yK (n lo hi:Int) (w:World):
  Calls Tryz.prog 78 #[.int .i64 n,.int .i64 lo,.int .i64 hi] w fun e w'=>e= .returned (.bool (inB n lo hi))/\w=w':=by
 go_enter Tryz.func78,Tryz.ntmps78
 go_wp2
 all_goals go_ret
 all_goals refine⟨z8 ?_,rfl⟩
 all_goals first|(simp[inB, *];done)|(simp[inB, *];omega)
theorem qf (n lo hi:Int) (w:World):
  Calls Tryz.prog 138 #[.int .i64 n,.int .i64 lo,.int .i64 hi] w fun e w'=>e= .returned (.bool (inB n lo hi))/\w=w':=by
 go_enter Tryz.func138,Tryz.ntmps138
 go_wp2
 all_goals go_ret
 all_goals refine⟨z8 ?_,rfl⟩
 all_goals first|(simp[inB, *];done)|(simp[inB, *];omega)
structure Grw (w:World) where
 wt:World
 below:Below w.heap.size w wt
instance (w:World):Nonempty (Grw w):=⟨⟨w,aaj _ _⟩⟩
theorem Grw.cells {w:World} (n:Grw w) (b o:Nat) (h:b<w.heap.size):n.wt.cell? ⟨b,o,none⟩=w.cell? ⟨b,o,none⟩:=n.below.cell (p:=⟨b,o,none⟩) h
theorem z7 {P:Program} {id:Nat} {Q:Exit->Act->World->Prop} {a:Act} {w:World} {l:List Oper} (hm:P.follows .mixedOrders =true) (hB:Region.lexB .any l.toArray=true)
  (h:(∀(n:Grw w) (b o:Nat),b<w.heap.size->n.wt.cell? ⟨b,o,none⟩=w.cell? ⟨b,o,none⟩)->wpQuiet P l.toArray (fun w'=>∃n:Grw w,w'=n.wt) (fun a'=>∀w',(∃n:Grw w,w'=n.wt)->Q .normal a' w') l a):
  (Code.region id l.toArray true).wp P Q a w:=
 wp_region_quiet (C:=fun w'=>∃n:Grw w,w'=n.wt) hm hB ⟨⟨w.drew,(aaj _ _).drew⟩,rfl⟩ (by simpa using h (fun n=>n.cells))
theorem zE {P:Program} {W:World} {n:Grw W} {f:Nat} {args:Array Value} {v:Value} (h:Calls P f args n.wt fun e w'=>e= .returned v/\Below n.wt.heap.size n.wt w'):
  Calls P f args n.wt fun e w''=>e= .returned v/\∃m:Grw W,w''=m.wt:=
 h.mono fun e w' ⟨he,hb⟩=>⟨he,⟨w',n.below.trans (hb.mono n.below.size)⟩,rfl⟩
theorem RS.grw {W:World} (n:Grw W) {size k:Nat} {v:Value} {xs:List Value} (h:RS W size v k xs):RS n.wt size v k xs:=RS.below h n.below
theorem zY {P:Program} {W:World} {n:Grw W} {f:Nat} {args:Array Value} {v:Value} (h:Calls P f args n.wt fun e w'=>e= .returned v/\n.wt=w'):
  Calls P f args n.wt fun e w''=>e= .returned v/\∃m:Grw W,w''=m.wt:=
 h.mono fun e w' ⟨he,hb⟩=>⟨he,n,hb.symm⟩
theorem vk {a b:Nat} (ha:a<2^63) (hb:b<2^63):bits .or .i64 (a:Int) (b:Int)=((a ||| b:Nat):Int):=by
 have e:bits .or .i64 (a:Int) (b:Int)=IntKind.i64.wrap ((BitVec.ofInt 64 (a:Int) ||| BitVec.ofInt 64 (b:Int)).toNat :Int):=rfl;have h:a ||| b<2^63:=Nat.or_lt_two_pow ha hb
 rw[e,BitVec.ofInt_natCast,BitVec.ofInt_natCast,BitVec.toNat_or,BitVec.toNat_ofNat,BitVec.toNat_ofNat,abu o_,abu o_];exact aaP _ o_
theorem QR {a b:Nat} (ha:a<2^63) (hb:b<2^63):bits .and .i64 (a:Int) (b:Int)=((a &&& b:Nat):Int):=by
 have e:bits .and .i64 (a:Int) (b:Int)=IntKind.i64.wrap ((BitVec.ofInt 64 (a:Int) &&& BitVec.ofInt 64 (b:Int)).toNat :Int):=rfl;have h:a &&& b<=a:=Nat.and_le_left;rw[e,BitVec.ofInt_natCast,BitVec.ofInt_natCast,BitVec.toNat_and,BitVec.toNat_ofNat,BitVec.toNat_ofNat,abu o_,abu o_];exact aaP _ o_
theorem x5 {a b:Nat} (ha:a<2^63) (hb:b<2^63):bits .xor .i64 (a:Int) (b:Int)=((a^^^b:Nat):Int):=by
 have e:bits .xor .i64 (a:Int) (b:Int)=IntKind.i64.wrap ((BitVec.ofInt 64 (a:Int)^^^BitVec.ofInt 64 (b:Int)).toNat :Int):=rfl;have h:a^^^b<2^63:=Nat.xor_lt_two_pow ha hb;rw[e,BitVec.ofInt_natCast,BitVec.ofInt_natCast,BitVec.toNat_xor,BitVec.toNat_ofNat,BitVec.toNat_ofNat,abu o_,abu o_];exact aaP _ o_
theorem Zj {s k:Nat} (hs:s<2^62):bits .and .i64 ((s:Int)/2^k) 1=if s.testBit k then 1 else 0:=by
 have e:((s:Int)/2^k)=((s/2^k:Nat):Int):=by rw[Int.natCast_ediv];rfl
 have hle:s/2^k<=s:=Nat.div_le_self _ _;have h:=QR (a:=s/2^k) (b:=1) o_ o_;rw[e,show(1:Int)=((1:Nat):Int) from rfl,h,Nat.and_one_is_mod,Nat.testBit_eq_decide_div_mod_eq];have h2:s/2^k%2=0∨s/2^k%2=1:=o_
 rcases h2 with h2|h2<;>simp[h2]
theorem z93 {k:Nat} (hk:k<62):IntKind.i64.wrap (1*2^k)=((2^k:Nat):Int):=by
 have h:(2:Nat)^k<2^62:=aa3 o_ hk;have e:(1*2^k:Int)=((2^k:Nat):Int):=by rw[Int.one_mul,Int.natCast_pow];rfl
 rw[e];clear e;generalize (2:Nat)^k=z at*;exact aaP _ o_
def memS (s m:Nat):List Nat:=(List.range m).filter (s.testBit ·)
theorem qS {s m:Nat} (h:s.testBit m=true):memS s (m+1)=memS s m++[m]:=by simp[memS,abe,abf,h]
theorem jx {s m:Nat} (h:s.testBit m=false):memS s (m+1)=memS s m:=by simp[memS,abe,abf,h]
theorem z1C (s m:Nat):(memS s m).length <=m:=by
 have:=List.length_filter_le (s.testBit ·) (List.range m)
 simpa[memS] using this
theorem z7J {s m:Nat}:(memS s m).length =m↔∀i,i<m->s.testBit i=true:=by
 constructor
 ·intro h i hi
  have h2:(List.range m).filter (s.testBit ·)=List.range m:=List.length_filter_eq_length_iff.1 (by simpa[memS] using h) |> fun h3=>List.filter_eq_self.2 h3
  have:=List.filter_eq_self.1 h2 i (List.mem_range.2 hi);exact this
 ·intro h
  have h2:(List.range m).filter (s.testBit ·)=List.range m:=List.filter_eq_self.2 (fun i hi=>h i (List.mem_range.1 hi));simp[memS,h2]
theorem z0F {s m:Nat} (h:s<2^m):∀j,memS s (m+j)=memS s m
 |0=>rfl
 |j+1=>by
  rw[show m+(j+1)=(m+j)+1 by omega,jx (Nat.testBit_lt_two_pow (aaD h (aaE o_ o_)))];exact z0F h j
end Go.Proofs.YtnjcpljhmhdhkaaGreat
