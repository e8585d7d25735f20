/- What functions compute at any arguments, and plain facts: Members: shape, Fits; share: Whole, parts (an iterator), Split (which ranges over it); share: Split (which ranges over parts); prize: each, Prizes; Members: Stakes. Conditions: those that each theorem names. -/
import Derived.Test.YtffbipddbnkdjaaGreatZ07
import Derived.Test.YtffbipddbnkdjaaGreatZ11
import Derived.LoopIn
import Derived.LoopNIn
import Derived.OwnWalkIn
import Derived.RangeFuncBound
import Derived.RangeFuncBox
import Derived.RangeFuncCalls
import Derived.RangeFuncFrom
import Derived.RangeFuncLeaves
import Derived.RangeFuncNested
import Derived.Scope
import Derived.Shelf.Abstract
import Derived.Shelf.RegionOpen
import Derived.TacticsInMore
import Derived.WalkMore
set_option maxRecDepth 100000
set_option maxHeartbeats 40000000
set_option linter.all false
open Go Go.Proofs.Tryz
open Go.Value(int)
open Go.IntKind(i64 u64)
variable{A T:Option Addr}{n g b L k B i x a m j q c p s r d h u N y:Nat}{E z:Int}{P:Program}{w W X Z:World}{e t:TypeId}{f:Nat→Value}{l:List Bool}{V U:Value}{Y:List Nat}{S:List Value}{R:List Int}{Q:Array Value}{O:List (List Nat)}{M:Bool}{K:Ending}{J:Addr}{I:Nat→Nat}{H:Option Nat}
namespace Go.Proofs.YtffbipddbnkdjaaGreat
namespace hB
open RowKit
open hG hf hC
def rH(p:hx)(m:Mem):Bool:=
 if m.h3=2∨m.h3=3 then decide (p.floor<m.hD)&&decide (m.hD≤p.cap)&&rv p m.hP m.hD
 else if m.h3=1 then decide (1≤m.hD)&&decide (m.hD≤p.cap)&&decide (m.hP=0)
 else if m.h3=4∨m.h3=5 then decide (m.hD=0)&&decide (m.hP=0)else false
theorem BW(p:hx)(A:iG p=true)(m:Mem)(aa:my m)(w:World)(b:Bool)(o:b=rH p m):
 Calls prog 218 #[.agg (hW m),.agg p.cs] w fun e w'=>e= .returned (.bool b)∧Below w.heap.size w w':=by
 have D:=aa.hD;have E:=aa.hP;unfold rH at o;have K:Below w.heap.size w ((w.alloc (.cells (hW m) 285)).alloc (.cells p.cs 24)):=((hz.alloc hj _).alloc (by simp) _);have ab:ha ((w.alloc (.cells (hW m) 285)).alloc (.cells p.cs 24)) w.heap.size 285 (hW m):=((ha.new w _ _ _ rfl).alloc _);have ac:ha ((w.alloc (.cells (hW m) 285)).alloc (.cells p.cs 24)) (w.heap.size+1) 24 p.cs:=(ha.new _ _ _ _ (by simp));obtain⟨an,ad⟩:=ho ((w.alloc (.cells (hW m) 285)).alloc (.cells p.cs 24));rw[ad]at K ab ac;obtain⟨O,Q,S⟩:=hs ab ac ad;clear ad ab ac aa;by_cases I:m.h3=2∨m.h3=3
 ·rw[if_pos I]at o
  by_cases z:p.floor<m.hD;focus
   have r:decide (p.floor<m.hD)=true:=by simpa using z
   by_cases T:m.hD≤p.cap
   ·have G:=hZ T
    rw[r,G,Bool.true_and,Bool.true_and]at o;have ai:=g' (fun W=>wD p A m.hP m.hD E D b o W);clear o E D z T A;rcases I with h|h;focus
     have U:(m.h3==2)=true:=by simpa using h
    rotate_left;focus
     have U:(m.h3==2)=false:=by rw[h];rfl
     have ag:(m.h3==3)=true:=by rw[h];rfl
    all_goals
     clear h;go_enter func218,ntmps218;go_upto_region 1 with(fail)
     rw[S.out];have ae:=O.all;have aj:=Q.all;go_wp2_with (first|(refine iv Q hQ (jb _) rfl rfl rfl rfl ?_));refine hI (ai _) fun ao V=>?_;have ak:=hJ K V;obtain⟨ap,aq⟩:=hg (O.to V) (Q.to V);clear V;go_wp2;go_ret;exact⟨rfl,ak⟩
   have G:=h1 T;rw[r,G,Bool.and_false,Bool.false_and]at o;subst o;clear E D z T A
  rotate_left;focus
   have r:decide (p.floor<m.hD)=false:=by simpa using z
   rw[r,Bool.false_and,Bool.false_and]at o;subst o;clear E D z A
  rotate_left;all_goals
   rcases I with h|h;focus
    have U:(m.h3==2)=true:=by simpa using h
   rotate_left;focus
    have U:(m.h3==2)=false:=by rw[h];rfl
    have ag:(m.h3==3)=true:=by rw[h];rfl
   all_goals
    clear h;go_enter func218,ntmps218;go_upto_region 1 with(fail)
    rw[S.out];have ae:=O.all;have aj:=Q.all;go_wp2;go_ret;exact⟨rfl,K⟩
 rw[if_neg I]at o;have U:(m.h3==2)=false:=by rw[beq_eq_false_iff_ne];exact fun h=>I (.inl h)
 have ag:(m.h3==3)=false:=by rw[beq_eq_false_iff_ne];exact fun h=>I (.inr h)
 clear I;by_cases z:m.h3=1
 ·rw[if_pos z]at o
  have al:(m.h3==1)=true:=by simpa using z
  clear z;by_cases F:1≤m.hD;focus
   have r:decide (1≤m.hD)=true:=by simpa using F
   have af:decide ((1:Int)≤(m.hD:Int))=true:=by simp;omega
   by_cases X:m.hD≤p.cap;focus
    have G:=hZ X;by_cases R:m.hP=0;focus
     have Y:=hZ R;have am:((m.hP:Int)==0)=true:=by rw[beq_iff_eq];omega
     rw[r,G,Y]at o;obtain rfl:b=true:=o
    rotate_left;focus
     have Y:=h1 R;have am:((m.hP:Int)==0)=false:=by rw[beq_eq_false_iff_ne];omega
     rw[r,G,Y]at o;obtain rfl:b=false:=o
    all_goals
     clear E D F X R A
   rotate_left 2;focus
    have G:=h1 X;rw[r,G,Bool.and_false,Bool.false_and]at o;subst o;clear E D F X A
  rotate_left 3;focus
   have r:decide (1≤m.hD)=false:=by simpa using F
   have af:decide ((1:Int)≤(m.hD:Int))=false:=by simp;omega
   rw[r,Bool.false_and,Bool.false_and]at o;subst o;clear E D F A
  all_goals
   go_enter func218,ntmps218;go_upto_region 1 with(fail)
   rw[S.out];have ae:=O.all;have ar:=Q.all;go_wp2;go_ret;exact⟨rfl,K⟩
 rw[if_neg z]at o;have al:(m.h3==1)=false:=by rw[beq_eq_false_iff_ne];exact z
 clear z;by_cases J:m.h3=4∨m.h3=5;focus
  rw[if_pos J]at o;by_cases F:m.hD=0;focus
   have r:decide (m.hD=0)=true:=by simpa using F
   have af:((m.hD:Int)==0)=true:=by rw[beq_iff_eq];omega
   rw[r,Bool.true_and]at o;have Y:((m.hP:Int)==0)=b:=by rw[o];by_cases R:m.hP=0<;>simp[R]<;>omega
   clear E D F A o;rcases J with h|h;focus
    have Z:(m.h3==4)=true:=by rw[h];rfl
   rotate_left;focus
    have Z:(m.h3==4)=false:=by rw[h];rfl
    have ah:(m.h3==5)=true:=by rw[h];rfl
  rotate_left 2;focus
   have r:decide (m.hD=0)=false:=by simpa using F
   have af:((m.hD:Int)==0)=false:=by rw[beq_eq_false_iff_ne];omega
   rw[r,Bool.false_and]at o;subst o;clear E D F A;rcases J with h|h;focus
    have Z:(m.h3==4)=true:=by rw[h];rfl
   rotate_left;focus
    have Z:(m.h3==4)=false:=by rw[h];rfl
    have ah:(m.h3==5)=true:=by rw[h];rfl
  all_goals
   clear h
 rotate_left 4;focus
  rw[if_neg J]at o;subst o;have Z:(m.h3==4)=false:=by rw[beq_eq_false_iff_ne];exact fun h=>J (.inl h)
  have ah:(m.h3==5)=false:=by rw[beq_eq_false_iff_ne];exact fun h=>J (.inr h)
  clear J E D A
 all_goals
  go_enter func218,ntmps218;go_upto_region 1 with(fail)
  rw[S.out];have ae:=O.all;go_wp2;go_ret;exact⟨rfl,K⟩
def ll(m:Mem):Std:=⟨m.hD,m.hP,m.h9,m.str⟩
instance:DecidableEq Std:=fun a b=>by
 obtain⟨o,r,z,A⟩:=a;obtain⟨D,E,F,G⟩:=b;rw[Std.mk.injEq];exact inferInstance
def lX(p:hx)(m:Mem):Bool:=decide (0≤m.own∧m.own<64)&&decide (j1 p (ll m)=ll m)&&rH p m
theorem BX(p:hx)(X:iG p=true)(m:Mem)(aj:my m)(w:World)(b:Bool)(A:b=lX p m):
 Calls prog 160 #[.agg p.cs,.agg (hW m)] w fun e w'=>e= .returned (.bool b)∧Below w.heap.size w w':=by
 obtain⟨ab,ak⟩:=hg (fun W=>k4 p W 0 (lV X).symm) (fun W=>wM p X (ll m) W);obtain⟨z,ac⟩:=hk (rH p m);have ap:=g' (fun W=>BW p X m aj W z ac);obtain⟨t,ad⟩:=hk (j1 p (ll m));have E:=fun b A W=>BV t (ll m) b A W;have G:=BT;unfold lX at A;rw[←ac,←ad]at A;rw[←ad]at ak;have Y:Below w.heap.size w ((w.alloc (.cells p.cs 24)).alloc (.cells (hW m) 98)):=((hz.alloc hj _).alloc (by simp) _);have ae:ha ((w.alloc (.cells p.cs 24)).alloc (.cells (hW m) 98)) w.heap.size 24 p.cs:=((ha.new w _ _ _ rfl).alloc _);have af:ha ((w.alloc (.cells p.cs 24)).alloc (.cells (hW m) 98)) (w.heap.size+1) 98 (hW m):=(ha.new _ _ _ _ (by simp));obtain⟨az,ag⟩:=ho ((w.alloc (.cells p.cs 24)).alloc (.cells (hW m) 98));rw[ag]at Y ae af;obtain⟨R,S,ah⟩:=hs ae af ag;clear ag ae af aj ac ad X;by_cases U:m.own<0
 ·have aq:=hZ U
  obtain rfl:b=false:=by rw[A,show decide (0≤m.own∧m.own<64)=false from by simp;omega];rfl
  clear E G A U;go_enter func160,ntmps160;go_upto_region 1 with(fail)
  rw[ah.out];have al:=S.all;go_wp2_with (first|(refine hR R hQ (jb _) rfl rfl rfl rfl ?_));refine hI (ab _) fun I r=>?_;have T:=hJ Y r;obtain⟨J,D⟩:=hg (R.to r) (S.to r);clear r;have am:=D.all;go_wp2;go_ret;exact⟨rfl,T⟩
 have aq:=h1 U;by_cases Z:64≤m.own
 ·have ar:=hZ Z
  obtain rfl:b=false:=by rw[A,show decide (0≤m.own∧m.own<64)=false from by simp;omega];rfl
  clear E G A U Z;go_enter func160,ntmps160;go_upto_region 1 with(fail)
  rw[ah.out];have al:=S.all;go_wp2_with (first|(refine hR R hQ (jb _) rfl rfl rfl rfl ?_));refine hI (ab _) fun I r=>?_;have T:=hJ Y r;obtain⟨J,D⟩:=hg (R.to r) (S.to r);clear r;have am:=D.all;go_wp2;go_ret;exact⟨rfl,T⟩
 have ar:=h1 Z;rw[show decide (0≤m.own∧m.own<64)=true from by simp;omega,Bool.true_and]at A;clear U Z;by_cases V:t=ll m;focus
  have au:=E true (by simp[V]);rw[show decide (t=ll m)=true from by simpa using V,Bool.true_and]at A
 rotate_left;focus
  have au:=E false (by simp[V]);rw[show decide (t=ll m)=false from by simpa using V,Bool.false_and]at A
 rotate_left;all_goals
  subst A;clear E V;go_enter func160,ntmps160;go_upto_region 1 with(fail)
  rw[ah.out];have al:=S.all;go_wp2_with (first|(refine hR R hQ (jb _) rfl rfl rfl rfl ?_));refine hI (ab _) fun I r=>?_;have T:=hJ Y r;obtain⟨J,D⟩:=hg (R.to r) (S.to r);clear r;have am:=D.all;go_wp2;refine j8 (fun w'=>ha w' w.heap.size 24 p.cs∧ha w' (w.heap.size+1) 98 ((hW m))∧Below I.heap.size I w') (by kernel_rfl) (by rintro _ _ (_|_) _ _ h<;>exact h) (⟨J.drew,D.drew,hM⟩) fun aa F=>?_;refine jn aa 5 [0,1,2,4,5] F (by kernel_rfl) ?_;refine k3 0 (p.cs).toList (fun w' o=>(o.1)) (by kernel_rfl) hQ (by kernel_rfl) rfl rfl rfl rfl rfl ?_;(try simp only[S4,S3])
  iterate 1(refine iu rfl rfl (fun w' o=>by try simp only[S3];go_simp;try rfl) ?_;try simp only[S4,S3])
  refine k3 0 ((ll m).cs).toList (fun w' o=>(o.2.1)) (by kernel_rfl) km (by kernel_rfl) rfl rfl rfl rfl rfl ?_;(try simp only[S4,S3])
  iterate 1(refine iu rfl rfl (fun w' o=>by try simp only[S3];go_simp;try rfl) ?_;try simp only[S4,S3])
  refine k3 0 ((ll m).cs).toList (fun w' o=>(o.2.1)) (by kernel_rfl) km (by kernel_rfl) rfl rfl rfl rfl rfl ?_;(try simp only[S4,S3])
  refine il ?_;refine iD 3 rfl (by kernel_rfl) fun K ai=>?_;(try simp only[S3])
  go_simp;refine hI (ak _) fun av an=>?_;have O:Below I.heap.size I av:=hJ (F.2.2) an;clear an;refine ai.out _ _ ⟨J.to O,D.to O,O⟩ (fun F=>?_);(try simp only[S4,S3])
 ·refine jn aa 5 (i' 6 5 []) F (by kernel_rfl) ?_
  iterate 2(refine iu rfl rfl (fun w' o=>by try simp only[S3];go_simp;try rfl) ?_;try simp only[S4,S3])
  refine k3 0 ((hW m)).toList (fun w' o=>(o.2.1)) (by kernel_rfl) jY (by kernel_rfl) rfl rfl rfl rfl rfl ?_;(try simp only[S4,S3])
  refine q9 (.agg (hW m)) rfl (Or.inl ⟨by rfl,fun w' _=>by kernel_rfl⟩) ?_;(try simp only[S4,S3])
  refine k3 0 (p.cs).toList (fun w' o=>(o.1)) (by kernel_rfl) hQ (by kernel_rfl) rfl rfl rfl rfl rfl ?_;(try simp only[S4,S3])
  refine il ?_;refine iD 11 rfl (by kernel_rfl) fun K ai=>?_;(try simp only[S3])
  go_simp;refine hI (ap _) fun aw ao=>?_;have Q:Below I.heap.size I aw:=hJ (F.2.2) ao;clear ao;refine ai.out _ _ ⟨J.to Q,D.to Q,Q⟩ (fun F=>?_);(try simp only[S4,S3])
  refine jn aa 2 [12,13] F (by kernel_rfl) ?_;iterate 2(refine iu rfl rfl (fun w' o=>by try simp only[S3];go_simp;try rfl) ?_;try simp only[S4,S3])
  refine il ?_;clear F;refine wpAnyH_done (by kernel_rfl) ?_ _;have ax:=hJ T Q;obtain⟨aA,aB⟩:=hg (J.to Q) (D.to Q);clear Q;go_wp2;go_ret;exact⟨rfl,ax⟩
 refine jn aa 8 (i' 6 8 []) F (by kernel_rfl) ?_;iterate 2(refine iu rfl rfl (fun w' o=>by try simp only[S3];go_simp;try rfl) ?_;try simp only[S4,S3])
 iterate 4(refine oe rfl rfl ?_;try simp only[S4,S3])
 iterate 2(refine iu rfl rfl (fun w' o=>by try simp only[S3];go_simp;try rfl) ?_;try simp only[S4,S3])
 refine il ?_;clear F;refine wpAnyH_done (by kernel_rfl) ?_ _;have ay:=hJ T O;obtain⟨aC,aD⟩:=hg (J.to O) (D.to O);clear O;go_wp2;go_ret;exact⟨rfl,ay⟩
open Shelf
open h0 hU
attribute [local go_sem] Oper.semAt_some
theorem BY(A:Option Addr)(n c L:Nat)(us:List Nat)(w:World)(h:jk w L A n us)(D:n≤256)(o:sm us n<18446744073709551616)(x:Nat)(r:x=sm us n):
 Calls prog 228 #[.slice A n c] w fun e w'=>e= .returned (.tuple #[.int .u64 x,.int .i64 0])∧w=w':=by
 have z:=g' (qw A n c L us w h (by omega) o);rw[←r]at z;have E:decide ((256:Int)<(n:Int))=false:=by simp;omega
 clear h D o r;go_enter func228,ntmps228;go_wp2_with fail;refine z.mono ?_;rintro e w' ⟨rfl,rfl⟩;go_wp2;go_ret2;exact⟨rfl,rfl⟩
structure KX (m b1 b2:Nat) (W W':World):Prop where
 os:W'.os=W.os
 tape:W'.tape=W.tape
 output:W'.output=W.output
 size:W.heap.size≤W'.heap.size
 block:∀k,k<m→k≠b1→k≠b2→W'.heap[k]?=W.heap[k]?
theorem KX.refl(m o r:Nat)(W:World):KX m o r W W:=⟨rfl,rfl,rfl,hj,fun _ _ _ _=>rfl⟩
theorem KX.trans{A B C:World}(h:KX m n g A B)(k:KX m n g B C):KX m n g A C:=
 ⟨k.os.trans h.os,k.tape.trans h.tape,k.output.trans h.output,Nat.le_trans h.size k.size,fun j o r z=>(k.block j o r z).trans (h.block j o r z)⟩
theorem KX.of{A B:World}(h:Below m A B):KX m n g A B:=⟨h.os,h.tape,h.output,h.size,fun j o _ _=>h.block j o⟩
theorem KX.setCell{A B:World}(h:KX m n g A B)(b:Nat)(z:b=n∨b=g)(v:Value):KX m n g A (B.setCell ⟨b,0,none⟩ v):=
 h.trans ⟨rfl,rfl,rfl,by simp,fun j _ o r=>Below.heap_setCell _ _ _ j (fun e=>by rw[e]at o r;rcases z with rfl|rfl;exact o rfl;exact r rfl)⟩
theorem KX.put(W:World)(l:Nat)(o':Obj)(o:m≤l):KX m n g W (W.putObj l o'):=
 ⟨rfl,rfl,rfl,by simp,fun j r _ _=>World.putObj_heap_other (by omega)⟩
theorem KX.box{A B:World}(h:KX m n g A B){v:Value}(o:Boxed A k t v)(r:k<m)(z:k≠n)(D:k≠g):Boxed B k t v:=(h.block k r z D).trans o
theorem KX.rd{Y:World}(h:KX m g b X Y)(o:Rd X L A n f)(F:L≤m)(G:L≤g)(I:L≤b):Rd Y L A n f:=fun j r=>by
 obtain⟨z,e,D,E⟩:=o j r;refine⟨z,e,D,(World.cell?_of_block ?_).trans E⟩;rw[block_add];exact h.block _ (by omega) (by omega) (by omega)
def upto{α:Type}(f:Nat→α)(k:Nat):List α:=(List.range k).map f
theorem uf{α:Type}(f:Nat→α)(k:Nat):upto f (k+1)=upto f k++[f k]:=by simp[upto,List.range_succ]
theorem sO{α:Type}(f:Nat→α)(k:Nat):(upto f k).length=k:=by simp[upto]
def kq(t o:Nat)(us:List Nat)(j:Nat):Nat:=if 0<o then(mO t (un us j) o).1 else 0
abbrev sQ(x:Nat×Nat):Array Value:= #[.int .i64 x.1,.int .u64 x.2]
instance{x:Nat×Nat}:hf.jP (sQ x) fun o r=>(∀j,o.frozen? ⟨r,j,none⟩=false)∧hf.hh o r 0 (.int .i64 x.1)∧hf.hh o r 1 (.int .u64 x.2):=⟨fun h=>⟨h.frozen,hf.jX h⟩⟩
theorem BZ(l O Q R m E F L:Nat)(A:Option Addr)(n c:Nat)(us:List Nat)(t o:Nat)(ar:t<18446744073709551616)(au:o<18446744073709551616)(av:Wd us)(aM:us.length=n)(aN:n≤1000000)
 (D aj:List (Nat×Nat)→World→Prop) (W:World) (aw:∀r Z ak,D r Z→Below Z.heap.size Z ak→D r ak)
 (Y:∀r x W,D r W→r.length<n→YieldAt Fence.wide 1 prog l (sQ x) W fun e z=>
   (e= .returned (.bool true)∧D (r++[x]) z∧KX m E F W z)∨(e= .returned (.bool false)∧aj (r++[x]) z))
 (aa:Boxed W O 25 (.slice A n c)) (ab:Boxed W Q 22 (.int .u64 o)) (ac:Boxed W R 22 (.int .u64 t)) (G:(O<m∧O≠E∧O≠F)∧(Q<m∧Q≠E∧Q≠F)∧(R<m∧R≠E∧R≠F)) (ad:L≤m∧L≤E∧L≤F) (ax:m≤W.heap.size)
 (I:Rd W L A n (fun j=> .int .u64 (un us j:Nat))) (ay:D [] W):
 CallsIn Fence.wide 2 prog 260 #[.func (.yield l) #[] #[],.pointer (some ⟨O,0,none⟩),.pointer (some ⟨Q,0,none⟩),.pointer (some ⟨R,0,none⟩)] W fun e z=>(∃v,e= .returned v)∧
  ((∃al,al=upto (fun j=>(j,kq t o us j)) n∧D al z)∨(∃r,(∃k,k≤n∧r=upto (fun j=>(j,kq t o us j)) k)∧aj r z)):=by
 refine callsIn_of_wp func260 rfl trivial ?_ rfl;have az:=aa.cell;simp only[ntmps260,List.size_toArray,List.length_cons,List.length_nil,Nat.reduceAdd,Nat.reduceSub,Array.replicate_succ,Array.replicate_zero,List.push_toArray,List.append_toArray,List.nil_append,List.cons_append];gi_wp2
 gi_loopw [10] (fun i wr=>∃k:Nat,k≤n∧i= .int .i64 k∧D (upto (fun j=>(j,kq t o us j)) k) wr∧KX m E F W wr)
  (fun i _=>n-(intOf i).toNat)
 case atStart=>exact⟨0,h6,rfl,ay,KX.refl _ _ _ _⟩
 case round=>
  obtain⟨k,aO,rfl,S,J⟩:=hrel;clear az;by_cases T:k<n
  ·have aA:=hZ T
   obtain⟨aB,rfl,aP,am⟩:=(J.rd I ad.1 ad.2.1 ad.2.2) k T;have an:wr.cell? (aB.add k)=some (.int .u64 (un us k:Nat)):=am;clear am;have aQ:=(J.box ab G.2.1.1 G.2.1.2.1 G.2.1.2.2).cell;have aR:=(J.box ac G.2.2.1 G.2.2.2.1 G.2.2.2.2).cell;have K:=g' (uf (fun j=>(j,kq t o us j)) k);have aC:=Nat.le_trans ax J.size;have ae:un us k<18446744073709551616:=by rw[pP (by omega)];exact av _ (List.getElem_mem _)
   by_cases ao:0<o
   ·have aD:decide (0<(o:Int))=true:=by simp;omega
    obtain⟨x,af⟩:=hk (mO t (un us k) o);have ap:=g' (fun W=>sD t (un us k) o ar ae au W x af);have U:kq t o us k=x.1:=by unfold kq;rw[if_pos ao,←af]
    rw[U]at K;obtain⟨aE,aS⟩:=x;have aF:=g' (fun z V=>Y _ (k,aE) z (aw _ _ z S V) (by rw[sO];exact T));clear Y S I af U aa ab ac;generalize un us k=aG at an ap ae;gi_wp2_with (refine⟨trivial,?_⟩;gi_at_call 24;refine(callsIn_wide.2 (ap _)).mono ?_;rintro e w' ⟨rfl,V⟩;obtain⟨aH,aI,aJ,aK,aq,I⟩:=aF w' V)
    refine I.mono ?_;rintro e aL (⟨rfl,ag,X⟩|⟨rfl,ah⟩)
    ·have ai:=g' (J.trans ((KX.of (V.mono aC)).trans X))
     clear V X;gi_wp2
     go_roundw
     case rel=>exact⟨k+1,by omega,by simp,by rw[K.out];exact ag,ai.out⟩
     case measure=>simp[intOf];omega
    gi_wp2
    refine bodyPost_ret (results_none rfl _ _ _) rfl ?_;exact⟨⟨_,rfl⟩,.inr ⟨_,⟨k+1,by omega,K.out.symm⟩,ah⟩⟩
   have aD:decide (0<(o:Int))=false:=by simp;omega
   have U:kq t o us k=0:=by unfold kq;rw[if_neg ao]
   rw[U]at K;obtain⟨aH,aI,aJ,aK,aq,I⟩:=Y _ (k,0) wr S (by rw[sO];exact T);rw[show sQ (k,0)= #[.int .i64 k,.int .u64 0]from rfl]at aq;clear Y S U aa ab ac;generalize un us k=aG at an ae;gi_wp2
   refine I.mono ?_;rintro e aL (⟨rfl,ag,X⟩|⟨rfl,ah⟩)
   ·have ai:=g' (J.trans X)
    clear X;gi_wp2
    go_roundw
    case rel=>exact⟨k+1,by omega,by simp,by rw[K.out];exact ag,ai.out⟩
    case measure=>simp[intOf];omega
   gi_wp2
   refine bodyPost_ret (results_none rfl _ _ _) rfl ?_;exact⟨⟨_,rfl⟩,.inr ⟨_,⟨k+1,by omega,K.out.symm⟩,ah⟩⟩
  have aA:=h1 T;obtain rfl:k=n:=by omega
  gi_wp2
  go_end0;exact⟨⟨_,rfl⟩,.inl ⟨_,rfl,S⟩⟩
theorem B0(A:Option Addr)(n c:Nat)(t o:Nat)(w:World):
 CallsIn Fence.wide 2 prog 229 #[.int .u64 t,.int .u64 o,.slice A n c] w fun e w'=>e= .returned (.func (.func 260) #[] #[.pointer (some ⟨w.heap.size+2,0,none⟩),.pointer (some ⟨w.heap.size+1,0,none⟩),.pointer (some ⟨w.heap.size,0,none⟩)])∧
  w'=((w.alloc (.cells #[.int .u64 t] 22)).alloc (.cells #[.int .u64 o] 22)).alloc (.cells #[.slice A n c] 25):=by
 refine callsIn_of_wp func229 rfl trivial ?_ rfl;simp only[ntmps229,List.size_toArray,List.length_cons,List.length_nil,Nat.reduceAdd,Nat.reduceSub,Array.replicate_succ,Array.replicate_zero,List.push_toArray,List.append_toArray,List.nil_append,List.cons_append];gi_wp2
 go_ret;exact⟨rfl,rfl⟩
theorem B1(o z D m E F L:Nat)(A:Option Addr)(n c:Nat)(us:List Nat)(t G:Nat)(U:t<18446744073709551616)(V:G<18446744073709551616)(X:Wd us)(Y:us.length=n)(Z:n≤1000000)(w:World)
 (O:Boxed w o 25 (.slice A n c)) (Q:Boxed w z 22 (.int .u64 G)) (R:Boxed w D 22 (.int .u64 t)) (aa:(o<m∧o≠E∧o≠F)∧(z<m∧z≠E∧z≠F)∧(D<m∧D≠E∧D≠F)) (S:L≤m∧L≤E∧L≤F) (T:m≤w.heap.size)
 (ab:Rd w L A n (fun j=> .int .u64 (un us j:Nat))):
 SeqStopsK Fence.wide 2 prog 260 #[.pointer (some ⟨o,0,none⟩),.pointer (some ⟨z,0,none⟩),.pointer (some ⟨D,0,none⟩)] sQ (KX m E F)
  (fun ac=>ac=upto (fun j=>(j,kq t G us j)) n) (fun K=>∃k,k≤n∧K=upto (fun j=>(j,kq t G us j)) k) n w:=fun l ad ae W I af _ ag ah=>
 BZ l o z D m E F L A n c us t G U V X Y Z ad ae W
  (fun K ai aj h J=>af K ai aj none h ⟨J.os,J.tape,J.output,J.size,fun k ak _=>J.block k ak⟩ (fun r e=>by cases e)) ag
  ((I.block _ O.lt).trans O) ((I.block _ Q.lt).trans Q) ((I.block _ R.lt).trans R) aa S (Nat.le_trans T I.size)
  (ab.below (I.mono (Nat.le_trans S.1 T))) ah
end hB
namespace hB
open RowKit Shelf
open hG hf h0 hU hC
attribute [local go_sem] Oper.semAt_some
def nA(t:Nat)(o:List (Nat×Nat)):Int:=u64.wrap ((t:Int) -((o.map Prod.snd).sum:Nat))
theorem B2(t:Nat)(o:t<18446744073709551616):nA t []=(t:Int):=by
 unfold nA;simp only[List.map_nil,List.sum_nil];rw[show(t:Int) -((0:Nat):Int)=t from by omega];exact IntWalk.u64_in _ (by omega)
theorem B3(t:Nat)(o:List (Nat×Nat))(x:Nat×Nat):nA t (o++[x])=u64.wrap (nA t o-(x.2:Int)):=by
 unfold nA;rw[List.map_append,List.sum_append];simp only[List.map_cons,List.map_nil,List.sum_cons,List.sum_nil,Nat.add_zero];obtain⟨a,r⟩:=hk ((o.map Prod.snd).sum);rw[←r];show((t:Int) -((a+x.2:Nat):Int))%18446744073709551616=(((t:Int) -(a:Int))%18446744073709551616-(x.2:Int))%18446744073709551616;omega
def oC(o:List (Nat×Nat)):List Value:=o.map (fun x=>wv x.2)
theorem B4{z:Func}{p q r:Tmp}(h:z.results= #[.cell p e,.cell q t,.tmp r])(o:Array Value)(w:World)(a b:Addr)(v u x:Value)
 (A:o.getD p undef= .pointer (some a)) (D:o.getD q undef= .pointer (some b)) (E:o.getD r undef=x) (F:(loadVar e a).run P w= .ok v w) (G:(loadVar t b).run P w= .ok u w):
 (results z o).run P w= .ok (.tuple #[v,u,x]) w:=by
 have I:o[p]?.getD undef= .pointer (some a):=by simpa using A
 have J:o[q]?.getD undef= .pointer (some b):=by simpa using D
 have K:o[r]?.getD undef=x:=by simpa using E
 simp[results,h,I,J,K,asAddr,F,G]
theorem xq{v:Value}{xs:List Value}(h:w.ownsRow b e k v n xs)(o:L≤b):w.ownsRow L e k v n xs:=
 ⟨h.1,h.2.imp id fun⟨g,r,z,A,D,E⟩=>⟨g,r,z,A,Nat.le_trans o D,E⟩⟩
theorem sR{v:Value}{xs:List Value}(h:w.ownsRow L e k v n xs)(o:b<L)(u:Value):(w.setCell ⟨b,0,none⟩ u).ownsRow L e k v n xs:=
 h.kept (grownBy_setCell' w b u) (by
   rcases h.2 with⟨rfl,_⟩|⟨g,cap,cur,rfl,r,_⟩
   ·left;rfl
   right;simp[Value.ownBlock];omega)
theorem B5(A:Option Addr)(n c:Nat)(us:List Nat)(t:Nat)(au:t<18446744073709551616)(aK:n≤256)(w:World)(h:jk w w.heap.size A n us)(r:Nat)(af:r=sm us n)(av:r<18446744073709551616):
 Calls prog 175 #[int u64 t,.slice A n c] w fun e w'=>∃v,e= .returned (.tuple #[v,int u64 (nA t (upto (fun j=>(j,kq t r us j)) n)),int i64 0])∧
  w'.ownsRow w.heap.size 22 1 v n (oC (upto (fun j=>(j,kq t r us j)) n))∧Below w.heap.size w w':=by
 obtain⟨aL,aM,aN,aO,aP⟩:=info_parts hU.nu;refine(callsIn_wide (n:=3)).1 ?_;refine callsIn_of_wp_marks func175 rfl trivial ?_ rfl;have aQ:=h.1;have aR:=h.2.1;have aS:=h.2.2;have aT:=g' (fun W aU=>BY A n c w.heap.size us W (⟨h.1,h.2.1,h.2.2.below aU⟩) aK (by rw[←af];exact av) r af);simp only[ntmps175,List.size_toArray,List.length_cons,List.length_nil,Nat.reduceAdd,Nat.reduceSub,Array.replicate_succ,Array.replicate_zero,List.push_toArray,List.append_toArray,List.nil_append,List.cons_append];have aw:=Boxed.new w 25 (.slice none 0 0);have U:=Boxed.new (w.alloc (.cells #[.slice none 0 0] 25)) 22 (int u64 0);have ag:Below w.heap.size w ((w.alloc (.cells #[.slice none 0 0] 25)).alloc (.cells #[int u64 0] 22)):=((Below.refl _ w).alloc hj _).alloc (by simp) _;have ax:=aw.alloc (.cells #[int u64 0] 22);rw[World.size_alloc]at U;obtain⟨J,Z⟩:=ho ((w.alloc (.cells #[.slice none 0 0] 25)).alloc (.cells #[int u64 0] 22));have aV:J.heap.size=w.heap.size+2:=by rw[←Z];simp
 rw[Z]at ag ax U;have aW:=g' Z;clear Z aw h af;have bc:=U.frozen;have aX:=U.cell;gi_wp2_with (first|(refine⟨trivial,?_⟩;gi_at_call 228;rw[aW.out];refine(callsIn_wide.2 (aT J ag)).mono ?_;rintro e w' ⟨rfl,rfl⟩)|(refine⟨trivial,?_⟩;gi_at_call 229;refine(B0 A n c t r _).mono ?_;rintro e w' ⟨rfl,rfl⟩))
 obtain⟨W,ay⟩:=ho ((((J.setCell ⟨w.heap.size+1,0,none⟩ (int u64 t)).alloc (.cells #[int u64 t] 22)).alloc (.cells #[int u64 r] 22)).alloc (.cells #[.slice A n c] 25));have az:=(((ax.other (B':=w.heap.size+1) (by omega) (int u64 t)).alloc (.cells #[int u64 t] 22)).alloc (.cells #[int u64 r] 22)).alloc (.cells #[.slice A n c] 25);have V:=(((U.set (int u64 t)).alloc (.cells #[int u64 t] 22)).alloc (.cells #[int u64 r] 22)).alloc (.cells #[.slice A n c] 25);have ah:=((Boxed.new (J.setCell ⟨w.heap.size+1,0,none⟩ (int u64 t)) 22 (int u64 t)).alloc (.cells #[int u64 r] 22)).alloc (.cells #[.slice A n c] 25);have ai:=(Boxed.new ((J.setCell ⟨w.heap.size+1,0,none⟩ (int u64 t)).alloc (.cells #[int u64 t] 22)) 22 (int u64 r)).alloc (.cells #[.slice A n c] 25);have aj:=Boxed.new (((J.setCell ⟨w.heap.size+1,0,none⟩ (int u64 t)).alloc (.cells #[int u64 t] 22)).alloc (.cells #[int u64 r] 22)) 25 (.slice A n c);have aa:(J.setCell ⟨w.heap.size+1,0,none⟩ (int u64 t)).heap.size=w.heap.size+2:=by rw[←aV];simp
 have ak:Below w.heap.size w ((((J.setCell ⟨w.heap.size+1,0,none⟩ (int u64 t)).alloc (.cells #[int u64 t] 22)).alloc (.cells #[int u64 r] 22)).alloc (.cells #[.slice A n c] 25)):=
  (((ag.setCell (p:=⟨w.heap.size+1,0,none⟩) (show w.heap.size≤w.heap.size+1 from by omega) _).alloc (by omega) _).alloc (by simp;omega) _).alloc (by simp;omega) _
 have aY:((((J.setCell ⟨w.heap.size+1,0,none⟩ (int u64 t)).alloc (.cells #[int u64 t] 22)).alloc (.cells #[int u64 r] 22)).alloc (.cells #[.slice A n c] 25)).heap.size=w.heap.size+5:=by simp;omega
 rw[World.size_alloc,World.size_alloc,aa]at aj;rw[World.size_alloc,aa]at ai;rw[aa]at ah;rw[ay]at az V ah ai aj ak aY⊢;have aZ:=aS.below ak;clear ay aa;refine wpIn_rangeFunc_ownF rfl (by omega) (gf:=260) (lb:= #[.pointer (some ⟨w.heap.size+2+2,0,none⟩),.pointer (some ⟨w.heap.size+2+1,0,none⟩),.pointer (some ⟨w.heap.size+2,0,none⟩)]) rfl trivial (enters_of func260 rfl rfl)
  (B1 (w.heap.size+2+2) (w.heap.size+2+1) (w.heap.size+2) (w.heap.size+5) w.heap.size (w.heap.size+1) w.heap.size A n c us t r au av aR aQ (by omega) W aj ai ah (by omega) (by omega) (by omega) aZ) KX.trans (fun X l o o' bd _ _ _=>KX.put X l o' (by omega)) hz (fun _=>rfl)
  (fun E z=>((∃v,Boxed z w.heap.size 25 v∧z.ownsRow (w.heap.size+5) 22 1 v E.length (oC E)∧True)∧Boxed z (w.heap.size+1) 22 (int u64 (nA t E)))∧(Below w.heap.size w z∧w.heap.size+5≤z.heap.size))
  (fun _ _ _=>False)
  (OwnFrom.and (OwnFrom.and (Own.from (holdsRow_own (w.heap.size+5) w.heap.size 25 22 1 (fun E:List (Nat×Nat)=>E.length) (fun E=>oC E) (fun E v=>True)) _) (Own.from (boxed_own _ _ _) _)) (OwnFrom.and (ownFrom_below hj (by omega)) (fun _ _ _ _ ab a0 _=>Nat.le_trans ab a0.size)))
  (fun _ _ _ _ _ ab _ _=>ab)
  ⟨⟨⟨_,az,World.ownsRow_nil _ _ _ _,trivial⟩,by rw[B2 t au];exact V⟩,ak,by omega⟩
  (fun x=>{tmps:= #[int u64 t,.slice A n c,undef,undef,.pointer (some ⟨w.heap.size,0,none⟩),.pointer (some ⟨w.heap.size+1,0,none⟩),int i64 0,int u64 r,undef,int u64 x.2,.tuple #[int u64 r,int i64 0],.slice A n c,.tuple #[int u64 r,int i64 0],int u64 r,int i64 0,int i64 0,.bool false,undef,int u64 t,int u64 t,int u64 r,.slice A n c,.func (.func 260) #[] #[.pointer (some ⟨w.heap.size+2+2,0,none⟩),.pointer (some ⟨w.heap.size+2+1,0,none⟩),.pointer (some ⟨w.heap.size+2,0,none⟩)],int i64 x.1,int u64 x.2,undef,undef,undef,undef,undef,undef,undef,undef,undef],defers:=[]}) ?assign ?body ?done ?stop
 case assign=>
  intro l x W K ac;gi_wp2
  exact ac
 case body=>
  rintro l E x z ⟨⟨⟨v,S,O,_⟩,Q⟩,ad,aA⟩ be;have ab:=ad.size;have aB:=S.cell;have al:=g' (B3 t E x);obtain⟨G,T⟩:=hk (nA t E);rw[←T]at Q al;clear T;have aC:=g' (show oC (E++[x])=oC E++[int u64 x.2] by simp[oC,wv]);obtain⟨i,V⟩:=x;simp only at al aC⊢;gi_wp2_with (gi_at_builtin;refine wpListIn_append_own _ rfl _ _ 25 rfl (w.heap.size+5) 22 aL (int u64 0) 1 8 kO aM aN aO aP rfl (by decide) _ _ _ rfl (O.alloc _) ⟨z.heap.size,0,none⟩ 1 1 [int u64 V] rfl rfl (cell_one_new _ _ _) (by simp[Value.oneCell']) (by unfold maxLen;omega) (by omega) (by simp;omega) ?_;intro bf ae aD aE _;obtain⟨bg,bh,rfl⟩:=ownsRow_succ aD;have a1:(z.alloc (.cells #[int u64 V] 22)).grownBy ae v.ownBlock:=aE;have Y:Below (w.heap.size+5) z ae:=((Below.refl _ z).alloc aA _).grown aE (by simp;omega) (fun k e=>(O.lt k e).1);have am:Boxed ae w.heap.size 25 v:=(Y.block _ (by omega)).trans S;have an:Boxed ae (w.heap.size+1) 22 (int u64 G):=(Y.block _ (by omega)).trans Q;have bi:=am.cell;have bj:=am.frozen;have ao:=an.cell;have aF:=an.frozen)
  refine⟨?_,?_,⟨⟨⟨_,(am.set _).other (by omega) _,?_,trivial⟩,?_⟩,?_,?_⟩⟩
  ·refine(((KeepsOthers.alloc z _).trans (KeepsOthers.of_grownBy a1 fun j o aG aH=>?_)).trans (KeepsOthers.setCell _ _ _)).trans (KeepsOthers.setCell _ _ _)
   rcases(O.alloc _).2 with⟨rfl,_⟩|⟨g,cap,cur,rfl,_,a2,_⟩
   ·simp[Value.ownBlock]at aG
   obtain rfl:g=j:=by simpa[Value.ownBlock]using aG
   rw[a2]at aH;cases aH;rfl
  ·exact((KX.of Y).setCell _ (.inl rfl) _).setCell _ (.inr rfl) _
  ·rw[aC.out];exact sR (sR (by simpa using aD) (by omega) _) (by omega) _
  ·rw[al.out];exact(an.other (by omega) _).set _
  ·exact((ad.trans (Y.mono (by omega))).setCell (p:=⟨w.heap.size,0,none⟩) hj _).setCell (p:=⟨w.heap.size+1,0,none⟩) (show w.heap.size≤w.heap.size+1 from by omega) _
  have:=Y.size;simp;omega
 case done=>
  rintro D bk z bl rfl ⟨⟨⟨v,S,O,_⟩,Q⟩,ad,aA⟩ ac;have aB:=S.cell;have a3:=S.frozen;have ao:=Q.cell;have aF:=Q.frozen;rw[sO]at O;obtain⟨F,c',rfl⟩:∃F c',v= .slice F n c':=by
   rcases O.2 with⟨rfl,a4⟩|⟨g,cap,cur,rfl,_⟩
   ·exact⟨none,0,by rw[a4]⟩
   exact⟨_,_,rfl⟩
  obtain⟨G,T⟩:=hk (nA t (upto (fun j=>(j,kq t r us j)) n));rw[←T]at ao Q;have a5:=g' T;clear T;gi_wp2
  refine wpIn_wide.2 ?_;go_region
  obtain⟨I,ap⟩:=ho (((z.setCell ⟨w.heap.size,0,none⟩ (.slice F n c')).setCell ⟨w.heap.size+1,0,none⟩ (int u64 G)).drew);have aq:Boxed ((z.setCell ⟨w.heap.size,0,none⟩ (.slice F n c')).setCell ⟨w.heap.size+1,0,none⟩ (int u64 G)).drew w.heap.size 25 (.slice F n c'):=(S.set _).other (by omega) _;have ar:Boxed ((z.setCell ⟨w.heap.size,0,none⟩ (.slice F n c')).setCell ⟨w.heap.size+1,0,none⟩ (int u64 G)).drew (w.heap.size+1) 22 (int u64 G):=(Q.other (by omega) _).set _;have R:((z.setCell ⟨w.heap.size,0,none⟩ (.slice F n c')).setCell ⟨w.heap.size+1,0,none⟩ (int u64 G)).drew.heap[D]?=some (.deferred (some [])):=((KeepsOthers.setCell _ _ _).trans (KeepsOthers.setCell _ _ _)).same D _ ac rfl;have aI:=sR (sR O (show w.heap.size<w.heap.size+5 from by omega) (.slice F n c')) (show w.heap.size+1<w.heap.size+5 from by omega) (int u64 G);have aJ:=((ad.setCell (p:=⟨w.heap.size,0,none⟩) hj (.slice F n c')).setCell (p:=⟨w.heap.size+1,0,none⟩) (show w.heap.size≤w.heap.size+1 from by omega) (int u64 G)).drew;have a6:I.ownsRow (w.heap.size+5) 22 1 (.slice F n c') n (oC (upto (fun j=>(j,kq t r us j)) n)):=by rw[←ap];exact aI
  rw[ap]at aq ar R aJ⊢;clear ap aI aB a3 ao aF S Q O ac;gi_wp2
  refine⟨by simp,.inl ⟨_,_,rfl,run_takeDeferred R,?_⟩⟩;have a7:Boxed (I.putObj D (.deferred none)) w.heap.size 25 (.slice F n c'):=aq.kept (grownBy_putObj' _ D _) (fun e=>by cases e;rw[show I.heap[w.heap.size]?=_ from aq]at R;cases R);have a8:Boxed (I.putObj D (.deferred none)) (w.heap.size+1) 22 (int u64 G):=ar.kept (grownBy_putObj' _ D _) (fun e=>by cases e;rw[show I.heap[w.heap.size+1]?=_ from ar]at R;cases R);have a9:=ownsRow_putObj a6 (.deferred none) R rfl;have a':=aJ.trans (belowK_b (w:=w) hj I D _ (.deferred none) (by omega) R rfl rfl);have bm:=a7.cell;have aX:=a8.cell;have ba:(loadVar 25 ⟨w.heap.size,0,none⟩).run prog (I.putObj D (.deferred none))= .ok (.slice F n c') (I.putObj D (.deferred none)):=by go_simp
  have bb:(loadVar 22 ⟨w.heap.size+1,0,none⟩).run prog (I.putObj D (.deferred none))= .ok (int u64 G) (I.putObj D (.deferred none)):=by go_simp
  exact⟨_,B4 results175 _ _ ⟨w.heap.size,0,none⟩ ⟨w.heap.size+1,0,none⟩ (.slice F n c') (int u64 G) (int i64 0) rfl rfl rfl ba bb,_,by rw[a5.out],xq a9 (by omega),a'⟩
 case stop=>
  rintro D c E z _ _ h _;exact h.elim
theorem B6(t o:Nat)(us:List Nat)(j:Nat)(r:t<18446744073709551616)(z:un us j≤o):kq t o us j=t*un us j/o:=by
 unfold kq;by_cases h:0<o
 ·rw[if_pos h]
  unfold mO mr;have A:t*un us j/18446744073709551616<o:=by
   rw[Nat.div_lt_iff_lt_mul (by omega)];calc t*un us j≤t*o:=Nat.mul_le_mul_left _ z
    _<18446744073709551616*o:=Nat.mul_lt_mul_of_pos_right r h
    _=o*18446744073709551616:=Nat.mul_comm _ _
  rw[if_neg (by omega),if_pos A]
 obtain rfl:o=0:=by omega
 simp
theorem B7(us:List Nat)(h:j<n):un us j≤sm us n:=by
 have o:=tQ us (show j+1≤n from h);have r:sm us (j+1)=sm us j+un us j:=rfl;omega
theorem B8(t:Nat)(us:List Nat)(n:Nat)(D:t<18446744073709551616):∀k,k≤n→((upto (fun j=>(j,kq t (sm us n) us j)) k).map Prod.snd).sum≤t:=by
 intro k o;by_cases E:sm us n=0
 ·have:∀k,((upto (fun j=>(j,kq t (sm us n) us j)) k).map Prod.snd).sum=0:=by
   intro k;induction k with
   |zero=>rfl
   |succ k r=>
    rw[uf,List.map_append,List.sum_append,r];simp[kq,E]
  rw[this k];omega
 have F:∀k,k≤n→((upto (fun j=>(j,kq t (sm us n) us j)) k).map Prod.snd).sum*sm us n≤t*sm us k:=by
  intro k;induction k with
  |zero=>intro _;simp[upto,sm]
  |succ k r=>
   intro o;rw[uf,List.map_append,List.sum_append];have z:sm us (k+1)=sm us k+un us k:=rfl;have A:=B6 t (sm us n) us k D (B7 us o);simp only[List.map_cons,List.map_nil,List.sum_cons,List.sum_nil,Nat.add_zero];rw[z,Nat.add_mul,Nat.mul_add,A];have G:=Nat.div_mul_le_self (t*un us k) (sm us n);have I:=r (by omega);omega
 have z:=F k o;have A:t*sm us k≤t*sm us n:=Nat.mul_le_mul_left _ (tQ us o);exact Nat.le_of_mul_le_mul_right (Nat.le_trans z A) (by omega)
def mR(t:Nat)(us:List Nat):List Nat:=upto (fun j=>kq t (sm us us.length) us j) us.length
theorem ug(t:Nat)(us:List Nat):(upto (fun j=>(j,kq t (sm us us.length) us j)) us.length).map Prod.snd=mR t us:=by
 unfold mR upto;rw[List.map_map];rfl
theorem xr(t:Nat)(us:List Nat)(o:t<18446744073709551616):(mR t us).sum≤t:=by
 rw[←ug];exact B8 t us us.length o _ hj
theorem B9(t:Nat)(us:List Nat):(mR t us).length=us.length:=sO _ _
theorem Ca(A:Option Addr)(n c:Nat)(us:List Nat)(t:Nat)(o:t<18446744073709551616)(z:n≤256)(w:World)(h:jk w w.heap.size A n us)(D:sm us n<18446744073709551616)(r:Nat)(I:r=t-(mR t us).sum):
 Calls prog 175 #[int u64 t,.slice A n c] w fun e w'=>∃v,e= .returned (.tuple #[v,int u64 r,int i64 0])∧
  w'.ownsRow w.heap.size 22 1 v n ((mR t us).map wv)∧Below w.heap.size w w':=by
 have E:=h.1;subst E;refine(B5 A us.length c us t o z w h _ rfl D).mono ?_;rintro e w' ⟨v,rfl,F,G⟩;refine⟨v,?_,?_,G⟩
 ·have J:=xr t us o
  rw[show nA t (upto (fun j=>(j,kq t (sm us us.length) us j)) us.length)=(r:Int)from ?_];unfold nA;rw[ug];exact(IntWalk.u64_in _ (by omega)).trans (by omega)
 rw[show(mR t us).map wv=oC (upto (fun j=>(j,kq t (sm us us.length) us j)) us.length)from by rw[←ug,oC,List.map_map];rfl];exact F
end hB
namespace hB
open RowKit
open hG hf hC h0 hU
def Std.enc(s:Std):List Value:=[.int .u64 s.hD,.int .u64 s.hP,.int .u64 s.h9,.int .i64 s.str]
theorem Std.len(s:Std):s.enc.length=4:=rfl
theorem Cb(p:hx)(z:p.jd)(s:Std)(g:Nat)(w:World)(A:ha w g 24 p.cs)(r:Nat)(D:r=kC p s):
 Calls prog 177 #[.agg s.cs,.pointer (some ⟨g,0,none⟩)] w fun e w'=>e= .returned (.int .u64 r)∧Below w.heap.size w w':=by
 have K:=g' (fun W=>BL p z s W r D);have O:=A.lt;clear D z;obtain⟨S,E,F,G⟩:=iF w s.cs 96;obtain⟨I,Q⟩:=hg G E;clear E G;have J:=g' (A.below F O);go_enter func177,ntmps177;go_upto_region 1 with(fail)
 rw[Q.out];go_wp2_with (first|(refine hR J hQ (jb _) rfl rfl rfl rfl ?_)|(refine hR I km (kV _) rfl rfl rfl rfl ?_));refine hI (K _) fun T o=>?_;have R:=hJ F o;obtain⟨U,V⟩:=hg (J.to o) (I.to o);clear o;go_wp2;go_ret;exact⟨rfl,R⟩
theorem Cc(p:hx)(aa:p.jd)(g:Nat)(A:Option Addr)(n c:Nat)(ds:List Std)(w:World)(r:ha w g 24 p.cs)(h:hV w w.heap.size A n 4 (flat Std.enc ds))(ay:n≤1000):
 Calls prog 176 #[.func (.func 177) #[] #[.pointer (some ⟨g,0,none⟩)],.slice A n c] w fun e w'=>∃v,e= .returned v∧w'.ownsRow w.heap.size 22 1 v n ((ds.map (kC p)).map wv)∧Below w.heap.size w w':=by
 obtain⟨ab,ac,ad,ae,af⟩:=info_parts hU.nu;obtain⟨U,ag,ah⟩:=hs (h.len Std.len (by omega)) (fun(W:World) (ai:Below w.heap.size w W)=>h.below ai) r;have aj:=r.lt;clear h r;go_enter func176,ntmps176;go_wp2;go_loopw [5,10] (fun ak I wr=>∃k:Nat,I= .int .i64 k∧k≤n∧wr.ownsRow w.heap.size 22 1 ak k (((ds.take k).map (kC p)).map wv)∧Below w.heap.size w wr) (fun _ I _=>n-(intOf I).toNat)
 case atStart=>exact⟨0,rfl,h6,World.ownsRow_nil _ _ _ _,hz⟩
 case round=>
  obtain⟨k,rfl,az,z,D⟩:=hrel;by_cases F:k<n
  ·have al:=hZ F
   obtain⟨d,J⟩:∃d,ds[k]?=some d:=⟨_,iB (by rw[U.out];exact F)⟩;obtain⟨o,rfl,_,E⟩:=(ag wr D).cell Std.len F J (by omega);have aA:wr.cell? (o.add (k*4))=some (.int .u64 d.hD):=by have:=E 0 _ rfl;rwa[hG.add_zero]at this
   have aB:wr.cell? ⟨(o.add (k*4)).block,(o.add (k*4)).off+1,none⟩=some (.int .u64 d.hP):=E 1 _ rfl;have aC:wr.cell? ⟨(o.add (k*4)).block,(o.add (k*4)).off+2,none⟩=some (.int .u64 d.h9):=E 2 _ rfl;have aD:wr.cell? ⟨(o.add (k*4)).block,(o.add (k*4)).off+3,none⟩=some (.int .i64 d.str):=E 3 _ rfl;have am:=g' (show ds.take (k+1)=ds.take k++[d] by rw[List.take_add_one,J];rfl);have an:=D.size;have G:=D.alloc an (.cells d.cs 96);have V:=z.alloc (.cells d.cs 96);obtain⟨ao,ap⟩:=hg (ha.new wr wr.heap.size 96 d.cs rfl) ((ah.below G aj));obtain⟨x,K⟩:=hk (kC p d);obtain⟨aq,ar⟩:=hg K (fun g W r=>Cb p aa d g W r x K);clear E J z D K;go_wp2_with (refine hR ao km (kV _) rfl rfl rfl rfl ?_);refine hI (ar _ _ ap) fun au O=>?_;have Q:=kl V O;have R:=G.trans (O.mono G.size);have aE:=R.size;clear V G O;go_wp2_with (at_builtin;refine wpList_append_own _ rfl _ _ 25 rfl w.heap.size 22 ab (.int .u64 0) 1 8 kO ac ad ae af rfl (by decide) _ _ _ rfl (Q.alloc _) ⟨au.heap.size,0,none⟩ 1 1 [.int .u64 x] rfl rfl (cell_one_new _ _ _) ?_ ?_ ?_ ?_ ?_)
   ·intro u X;simp at X;subst X;rfl
   ·unfold maxLen;omega
   ·omega
   ·simp;omega
   intro av aw Y Z _;have ax:=nt R Q Z;have S:=g' (show aw.ownsRow w.heap.size 22 1 av (k+1) (((ds.take (k+1)).map (kC p)).map wv) by rw[am.out,List.map_append,List.map_append];have T:=Y;rw[aq.out]at T;simp at T⊢;exact T);clear Z Q R Y;go_wp2;exact⟨⟨k+1,by go_num,by omega,S,ax⟩,by simp[intOf];omega⟩
  have al:=h1 F;obtain rfl:k=n:=by omega
  rw[List.take_of_length_le (by rw[U.out];exact hj)]at z;have S:=g' z;clear z;go_wp2;go_ret;exact⟨_,rfl,S,D⟩
theorem rI{us:List Nat}(h:∀u∈us,u≤B):∀k,sm us k≤k*B
 |0=>by simp[sm]
 |k+1=>by
  have z:=rI h k;have o:sm us (k+1)=sm us k+un us k:=rfl;have A:un us k≤B:=by
   by_cases r:k<us.length
   ·rw[pP r];exact h _ (List.getElem_mem _)
   unfold un;rw[iJ,List.getElem?_eq_none (by omega)];exact h6
  rw[o,Nat.add_mul];omega
theorem xt{p:hx}(o:p.jd)(ds:List Std):∀u∈ds.map (kC p),u≤71468255805440000:=fun u r=>by
 obtain⟨d,_,rfl⟩:=List.mem_map.1 r;exact xp o d
theorem Cd(p:hx)(D:iG p=true)(t:Nat)(K:t<18446744073709551616)(A:Option Addr)(n c:Nat)(ds:List Std)(w:World)(h:hV w w.heap.size A n 4 (flat Std.enc ds))(ac:n≤128)(r:Nat)(o:r=t-(mR t (ds.map (kC p))).sum):
 Calls prog 110 #[.agg p.cs,.int .u64 t,.slice A n c] w fun e w'=>∃v,e= .returned (.tuple #[v,.int .u64 r,.int .i64 0])∧w'.ownsRow w.heap.size 22 1 v n ((mR t (ds.map (kC p))).map wv)∧Below w.heap.size w w':=by
 have z:=j6 D;have O:=h.len Std.len (by omega);have ad:=g' (fun W=>k4 p W 0 (lV D).symm);have au:decide ((128:Int)<(n:Int))=false:=by simp;omega
 have Q:Wd (ds.map (kC p)):=fun u E=>Nat.lt_of_le_of_lt (xt z ds u E) (by omega);have R:sm (ds.map (kC p)) n<18446744073709551616:=by
  have:=rI (xt z ds) n;omega
 obtain⟨ae,af,ag,ah,ai⟩:=jg (fun W g aj o=>Cc p z g A n c ds W aj o (by omega)) (fun A c W E=>Ca A n c (ds.map (kC p)) t K (by omega) W E R r o) (fun(W:World) (S:Below w.heap.size w W)=>(h.below S).more S.size) (fun(W:World) (b:Nat) (v:Value) (F:W.ownsRow b 22 1 v n ((ds.map (kC p)).map wv))=>hU.pT (by rw[List.length_map];exact O) Q F) (fun(W:World) (b:Nat) (v:Value) (ak:w.heap.size≤b) (F:W.ownsRow b 22 1 v n ((mR t (ds.map (kC p))).map wv))=>xq F ak);obtain⟨av,T,al,U⟩:=iF w p.cs 24;obtain⟨V,am⟩:=hg U T;clear T U D z O o R Q h K ac;go_enter func110,ntmps110;go_upto_region 1 with(fail)
 rw[am.out];go_wp2_with (first|(refine hR V hQ (jb _) rfl rfl rfl rfl ?_));refine hI (ad _) fun aw G=>?_;have X:=hJ al G;have Y:=g' (V.to G);clear G;go_wp2_with fail;refine(ae _ _ Y (ag _ X)).mono ?_;rintro e ax ⟨ay,rfl,Z,I⟩;have aa:=hJ X I;have an:=g' (Y.to I);obtain⟨az,aA,rfl,_,ao⟩:=ah _ _ _ Z;clear Z;clear I;go_wp2_with fail;refine(af _ _ _ ao).mono ?_;rintro e aB ⟨ap,rfl,ab,J⟩;have aq:=hJ aa J;obtain⟨aC,ar⟩:=hg (an.to J) (ai _ _ _ aa.size ab);clear ab;clear J;go_wp2;go_ret3;exact⟨ap,rfl,ar,aq⟩
def Ap(v u:Value):Prop:=v.ownBlock=none∨v.ownBlock≠u.ownBlock
theorem Ap.nil(u:Value):Ap (.slice none 0 0) u:= .inl rfl
theorem Ap.symm{v u:Value}(h:Ap v u):Ap u v:=by
 rcases h with h|h
 ·by_cases o:u.ownBlock=none
  ·exact .inl o
  exact .inr (by rw[h];exact o)
 exact .inr (Ne.symm h)
theorem Ap.step{v u u':Value}{xs:List Value}(h:Ap v u)(r:w.ownsRow b e n v k xs)(o:u'.ownBlock=u.ownBlock∨u'.ownBlock=some m)(D:w.heap.size≤m):Ap v u':=by
 rcases o with o|o
 ·unfold Ap;rw[o];exact h
 unfold Ap;rw[o];by_cases z:v.ownBlock=none
 ·exact .inl z
 right
 intro A;have:=(r.lt m (by rw[A])).2;omega
theorem xH{v:Value}{xs:List Value}(h:ha w g t Q)(A:w.ownsRow b e n v k xs)(D:t≠e):v.ownBlock≠some g:=by
 intro o;rcases A.2 with⟨rfl,_⟩|⟨r,cap,cur,rfl,_,z,_⟩
 ·simp[Value.ownBlock]at o
 obtain rfl:r=g:=by simpa[Value.ownBlock]using o
 rw[show w.heap[r]?=_ from h]at z;cases z;exact D rfl
def ju(o:List Mem):List Nat:=(o.filter nW).map Mem.hP
theorem sT(o:List Mem)(B:Nat)(h:∀m∈o,m.hP≤B):∀u∈ju o,u≤B:=fun u r=>by
 unfold ju at r;obtain⟨m,z,rfl⟩:=List.mem_map.1 r;exact h m (List.mem_filter.1 z).1
theorem uq(o:List Mem):(ju o).length≤o.length:=by unfold ju;rw[List.length_map];exact List.length_filter_le _ _
theorem CL(A:Option Addr)(n c:Nat)(ds:List Mem)(B:Option Addr)(U ar:Nat)(bs:List Nat)(w:World)(h:hV w w.heap.size A n 6 (flat Mem.enc ds))(au:hq.ie w w.heap.size B U bs)(bn:n≤128)(aU:U≤1000000)(av:∀m∈ds,m.hP≤1099511627776)(z:Nat)(aw:z=(ju ds).sum):
 Calls prog 55 #[.slice A n c,.slice B U ar] w fun e w'=>∃x:Nat,x<18446744073709551616∧e= .returned (.tuple #[.int .u64 x,.int .u64 z,.int .i64 0])∧Below w.heap.size w w':=by
 obtain⟨ax,ay,az,aA,aB⟩:=info_parts hU.nu;obtain⟨ag,aV,aW,ah,aX⟩:=jg (h.len Mem.len (by omega)) (fun(W:World) (ai:Below w.heap.size w W)=>h.below ai) (fun(W:World) (ai:Below w.heap.size w W)=>au.below ai) av aw;clear h au av aw;go_enter func55,ntmps55;go_wp2;go_loopw [7,8,13] (fun aC aD aj wr=>∃k:Nat,aj= .int .i64 k∧k≤n∧(∃us:List Nat,(∀u∈us,u≤1099511627776)∧us.length≤k∧wr.ownsRow w.heap.size 22 1 aC us.length (us.map wv))∧wr.ownsRow w.heap.size 22 1 aD (ju (ds.take k)).length ((ju (ds.take k)).map wv)∧Ap aC aD∧Below w.heap.size w wr) (fun _ _ aj _=>n-(intOf aj).toNat)
 case atStart=>exact⟨0,rfl,h6,⟨[],by simp,by simp,World.ownsRow_nil _ _ _ _⟩,World.ownsRow_nil _ _ _ _,Ap.nil _,hz⟩
 case round=>
  obtain⟨k,rfl,bo,⟨us,F,aY,V⟩,I,J,K⟩:=hrel;by_cases X:k<n
  ·have aZ:=hZ X
   obtain⟨d,Y⟩:∃d,ds[k]?=some d:=⟨_,iB (by rw[ag.out];exact X)⟩;obtain⟨r,rfl,_,E⟩:=(aV wr K).cell Mem.len X Y (by omega);have bp:wr.cell? (r.add (k*6))=some (.int .u64 d.hD):=by have:=E 0 _ rfl;rwa[hG.add_zero]at this
   have bq:wr.cell? ⟨(r.add (k*6)).block,(r.add (k*6)).off+1,none⟩=some (.int .u64 d.hP):=E 1 _ rfl;have br:wr.cell? ⟨(r.add (k*6)).block,(r.add (k*6)).off+2,none⟩=some (.int .u64 d.h9):=E 2 _ rfl;have bt:wr.cell? ⟨(r.add (k*6)).block,(r.add (k*6)).off+3,none⟩=some (.int .i64 d.str):=E 3 _ rfl;have bu:wr.cell? ⟨(r.add (k*6)).block,(r.add (k*6)).off+4,none⟩=some (.int .i64 d.own):=E 4 _ rfl;have bv:wr.cell? ⟨(r.add (k*6)).block,(r.add (k*6)).off+5,none⟩=some (.int .i64 d.h3):=E 5 _ rfl;have aE:=g' (show ds.take (k+1)=ds.take k++[d] by rw[List.take_add_one,Y];rfl);have a0:=K.size;have bw:=uq (ds.take k);have bx:(ds.take k).length≤k:=by rw[List.length_take];omega
   have ak:=K.alloc a0 (.cells (hW d) 98);have aF:=V.alloc (.cells (hW d) 98);have aG:=I.alloc (.cells (hW d) 98);have al:=g' (ha.new wr wr.heap.size 98 (hW d) rfl);have bz:d.hP≤1099511627776:=ah.out d (List.mem_of_getElem? Y);obtain⟨x,G⟩:=hk (nW d);obtain⟨O,aH⟩:=hg (fun W=>rF d W x G) G;clear E Y V I K G;go_wp2_with (refine hR al jY (j3 _) rfl rfl rfl rfl ?_);refine hI (O _) fun aI Q=>?_;have Z:=kl aF Q;have R:=kl aG Q;have aa:=ak.trans (Q.mono ak.size);have a1:=aa.size;have ab:=al.to Q;have a2:=ab.all;clear aF aG ak Q al;cases x
   ·have am:=g' (show ju (ds.take (k+1))=ju (ds.take k) by rw[aE.out];unfold ju;rw[List.filter_append];simp[←aH.out])
    have ac:=g' (show aI.ownsRow w.heap.size 22 1 u8 (ju (ds.take (k+1))).length ((ju (ds.take (k+1))).map wv) by rw[am.out];exact R);go_wp2;exact⟨⟨k+1,by go_num,by omega,⟨us,F,by omega,Z⟩,ac,J,aa⟩,by simp[intOf];omega⟩
   have am:=g' (show ju (ds.take (k+1))=ju (ds.take k)++[d.hP] by rw[aE.out];unfold ju;rw[List.filter_append,List.map_append];simp[←aH.out]);go_wp2_with (at_builtin;refine wpList_append_own_at _ rfl _ _ 25 rfl w.heap.size 22 ax (.int .u64 0) 1 8 kO ay az aA aB rfl (by decide) _ _ _ rfl (R.alloc _) ⟨aI.heap.size,0,none⟩ 1 1 [.int .u64 d.hP] rfl rfl (cell_one_new _ _ _) ?_ ?_ ?_ ?_ ?_)
   ·intro u o;simp at o;subst o;rfl
   ·unfold maxLen;omega
   ·omega
   ·simp;omega
   intro a3 D aJ ad _ aK;have an:=nt aa R ad;have aL:=(Z.alloc _).kept ad J;have ae:=J.step Z aK (by simp);have ac:=g' (show D.ownsRow w.heap.size 22 1 a3 (ju (ds.take (k+1))).length ((ju (ds.take (k+1))).map wv) by rw[am.out,List.map_append,List.length_append];exact aJ);have aM:=(ab.alloc (.cells #[.int .u64 d.hP] 22)).grown ad (xH (ab.alloc (.cells #[.int .u64 d.hP] 22)) (R.alloc _) (by decide));have ao:=g' (hq.qE B U ar w.heap.size k bs D (aW D an) aU (by omega));clear ad aJ R Z J aK ab a2 aa a1;generalize hq.kH bs k=y at ao;go_wp2_with fail;refine ao.mono ?_;rintro e bA ⟨rfl,q,rfl⟩;have af:Below w.heap.size w (D.drewN q):=below_drewN an q;have S:=kl aL (below_drewN (Below.refl D.heap.size D) q);have T:=g' (kl ac (below_drewN (Below.refl D.heap.size D) q));have a4:=(aM.drewN q).all;have a5:w.heap.size≤(D.drewN q).heap.size:=af.size;clear ao ac aL aM an;obtain⟨a6,aN⟩:=hk (D.drewN q);rw[←aN]at af S T a4 a5⊢;clear aN;cases y
   ·go_wp2
    exact⟨⟨k+1,by go_num,by omega,⟨us,F,by omega,S⟩,T,ae,af⟩,by simp[intOf];omega⟩
   go_wp2_with (at_builtin;refine wpList_append_own_at _ rfl _ _ 25 rfl w.heap.size 22 ax (.int .u64 0) 1 8 kO ay az aA aB rfl (by decide) _ _ _ rfl (S.alloc _) ⟨a6.heap.size,0,none⟩ 1 1 [.int .u64 d.hP] rfl rfl (cell_one_new _ _ _) ?_ ?_ ?_ ?_ ?_)
   ·intro u o;simp at o;subst o;rfl
   ·unfold maxLen;omega
   ·omega
   ·simp;omega
   intro a7 a8 aO ap _ aP;have a9:=nt af S ap;have a':=(T.alloc _).kept ap ae.symm;have ba:=(ae.symm.step T aP (by simp)).symm;have bb:a8.ownsRow w.heap.size 22 1 a7 (us++[d.hP]).length ((us++[d.hP]).map wv):=by rw[List.length_append,List.map_append];exact aO
   have bc:∀u∈us++[d.hP],u≤1099511627776:=fun u o=>by rw[List.mem_append]at o;rcases o with o|o;exact F u o;simp at o;omega
   have bd:(us++[d.hP]).length≤k+1:=by rw[List.length_append];simp;omega
   clear ap aO S aP ae T;go_wp2;exact⟨⟨k+1,by go_num,by omega,⟨_,bc,bd,bb⟩,a',ba,a9⟩,by simp[intOf];omega⟩
  have aZ:=h1 X;obtain rfl:k=n:=by omega
  rw[List.take_of_length_le (by rw[ag.out];exact hj)]at I;have be:=uq ds;have bf:=ag.out;have aQ:Wd us:=fun u o=>by have:=F u o;omega
  have aR:Wd (ju ds):=fun u o=>by have:=sT ds _ ah u o;omega
  have bg:=rI F us.length;have bh:=rI (sT ds _ ah) (ju ds).length;obtain⟨bi,bj,rfl,_,aS⟩:=hU.pT rfl aQ V;obtain⟨bk,bl,rfl,_,aT⟩:=hU.pT rfl aR I;obtain⟨O,aq⟩:=hg (qw bi us.length bj _ us wr aS (by omega) (by omega)) (qw bk (ju ds).length bl _ (ju ds) wr aT (by omega) (by omega));rw[CH,←aX.out]at aq;obtain⟨x,G⟩:=hk (sm us us.length);rw[←G]at O;have bm:x<18446744073709551616:=by omega
  clear aS aT aQ aR bg bh G V I F aY J be bf;generalize us.length=n1 at O;generalize(ju ds).length=n2 at aq;go_wp2_with fail;refine O.mono ?_;rintro e w' ⟨rfl,rfl⟩;go_wp2_with fail;refine aq.mono ?_;rintro e w' ⟨rfl,rfl⟩;go_wp2;go_ret3;exact⟨x,bm,rfl,K⟩
end hB
end Go.Proofs.YtffbipddbnkdjaaGreat
