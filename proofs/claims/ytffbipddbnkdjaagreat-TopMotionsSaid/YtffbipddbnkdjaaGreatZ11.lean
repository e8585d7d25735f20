/- What functions compute at any arguments, and plain facts: Budget, share (Whole, Cut), fine, prize (weight, Pay); Members: Counts, End, Start, Credit; What '==' says of two standings and of two sets of parameters. Conditions: those that each theorem names. -/
import Derived.Test.YtffbipddbnkdjaaGreatZ06
import Derived.Test.YtffbipddbnkdjaaGreatZ10
import Derived.Laws.StructEq
set_option maxRecDepth 100000
set_option maxHeartbeats 40000000
set_option linter.all false
open Go Go.Proofs.Tryz
open Go.Value(int)
open Go.IntKind(i64 u64)
variable{A T:Option Addr}{n g b L k B i x a m j q c p s r d h u N y:Nat}{E z:Int}{P:Program}{w W X Z:World}{e t:TypeId}{f:Nat→Value}{l:List Bool}{V U:Value}{Y:List Nat}{S:List Value}{R:List Int}{Q:Array Value}{O:List (List Nat)}{M:Bool}{K:Ending}{J:Addr}{I:Nat→Nat}{H:Option Nat}
namespace Go.Proofs.YtffbipddbnkdjaaGreat
namespace hB
open RowKit
open hG hf
theorem oz{M:Array Value}{C:List Value}(r:Nat)(h:(M.toList.drop r).take C.length=C):∀(j:Nat) (v:Value),C[j]?=some v→M[r+j]?=some v:=by
 intro j v o;rw[←h]at o;rw[List.getElem?_take]at o;split at o
 ·rw[List.getElem?_drop,Array.getElem?_toList]at o;exact o
 cases o
theorem xi(A a b:Nat)(w:World)(G:a<18446744073709551616)(I:b<18446744073709551616)(K:A<18446744073709551616)(x:Bool)(D:x=decide (a+b≤A)):
 Calls prog 174 #[int u64 A,.slice (some ⟨w.heap.size,0,none⟩) 2 2] (w.alloc (.cells #[int u64 a,int u64 b] 22)) fun e w'=>e= .returned (.bool x)∧w.alloc (.cells #[int u64 a,int u64 b] 22)=w':=by
 obtain⟨r,E⟩:=hC.oy [a,b];have O:=g' (hU.qx _ 2 2 (w.heap.size+1) [a,b] _ (hC.sI w [a,b] (hC.xe G I) #[int u64 a,int u64 b] rfl 2 rfl 22 _ _ rfl (by omega)) (by omega) r E);obtain⟨W,J⟩:=ho (w.alloc (.cells #[int u64 a,int u64 b] 22));rw[J]at O⊢;rcases hC.mw E with⟨z,o,F⟩|⟨z,o,F⟩;focus
  obtain⟨Q,R⟩:=r;simp only at z o;subst z;rw[hC.sK]at o;have d:decide (Q≤A)=x:=by rw[D,o]
  clear D o F E J G I K
 rotate_left;focus
  obtain⟨Q,R⟩:=r;simp only at z o;subst z o;rw[hC.sK]at F;obtain rfl:x=false:=by rw[D];simp;omega
  clear D F E J G I K
 all_goals
  go_enter func174,ntmps174;go_wp2_with fail;refine O.mono ?_;rintro e w' ⟨rfl,rfl⟩;go_wp2;go_ret;exact⟨rfl,rfl⟩
def oA(p:hx)(a:Nat):Nat:=if a=0∨4611686018427387904<a then 0 else if(mO a p.iT (1048576*p0.j2 a)).2≠0 then 0 else(mO a p.iT (1048576*p0.j2 a)).1
theorem xj(p:hx)(R:iG p=true)(a:Nat)(A:a<18446744073709551616)(w:World)(r:Nat)(o:r=oA p a):
 Calls prog 11 #[.agg p.cs,int u64 a] w fun e w'=>e= .returned (int u64 r)∧Below w.heap.size w w':=by
 have aa:=j6 R;have F:=Nat.lt_of_le_of_lt aa.iT (show 4294967296<18446744073709551616 by omega);have ak:=g' (fun W=>k4 p W 0 (lV R).symm);have G:=p0.wZ A;have ab:=g' (fun W=>w1.Bi a A W);unfold oA at o;obtain⟨aq,ac,S,ad⟩:=iF w p.cs 24;obtain⟨ae,T⟩:=hg ad ac;clear ac ad R aa;by_cases I:a=0
 ·subst I
  rw[if_pos (.inl rfl)]at o;subst o;clear A G F;go_enter func11,ntmps11;go_upto_region 1 with(fail)
  rw[T.out];go_wp2;go_ret;exact⟨rfl,S⟩
 have ar:((a:Int)==0)=false:=by rw[beq_eq_false_iff_ne];omega
 by_cases J:4611686018427387904<a
 ·have al:decide ((4611686018427387904:Int)<(a:Int))=true:=by simp;omega
  rw[if_pos (.inr J)]at o;subst o;clear A G F I J;go_enter func11,ntmps11;go_upto_region 1 with(fail)
  rw[T.out];go_wp2;go_ret;exact⟨rfl,S⟩
 have al:decide ((4611686018427387904:Int)<(a:Int))=false:=by simp;omega
 rw[if_neg (by rintro(h|h);exact I h;exact J h)]at o;obtain⟨i,af⟩:=hk (p0.j2 a);obtain⟨k,ag⟩:=hk (1048576*i);rw[←af]at ab o G;rw[←ag]at o;have au:u64.wrap (1048576*(i:Int))=(k:Int):=(IntWalk.u64_in _ (by omega)).trans (by omega);obtain⟨x,U⟩:=hk (mO a p.iT k);rw[←U]at o;have am:=g' (fun W=>sD a p.iT k A F (by omega) W x U);obtain⟨av,V⟩:=x;simp only at o;clear U ag af G A I J F;by_cases D:V=0;focus
  subst D;rw[if_neg (by simp)]at o;subst o
 rotate_left;focus
  have aw:(V==0)=false:=by rw[beq_eq_false_iff_ne];exact D
  have ax:(V !=0)=true:=by rw[bne_iff_ne];exact D
  rw[if_pos D]at o;subst o;clear D
 all_goals
  go_enter func11,ntmps11;go_upto_region 1 with(fail)
  rw[T.out];go_wp2_with (first|(refine iv ae hQ (jb p) rfl rfl rfl rfl ?_));refine hI (ak _) fun O X=>?_;have an:=hJ S X;have ah:=g' (ae.to X);clear X;go_wp2;refine j8 (fun w'=>ha w' w.heap.size 24 p.cs∧Below O.heap.size O w') (by kernel_rfl) (by rintro _ _ (_|_) _ _ h<;>exact h) (⟨ah.drew,hM⟩) fun Y z=>?_;refine jn Y 4 (i' 0 4 []) z (by kernel_rfl) ?_;iterate 4(refine iu rfl rfl (fun w' E=>by try simp only[S3];have ai:=(E.1).all;go_simp;try rfl) ?_;try simp only[S4,S3])
  refine il ?_;refine iD 4 rfl (by kernel_rfl) fun K Z=>?_;(try simp only[S3])
  go_simp;refine hE (ab _) ?_;refine Z.out _ _ z (fun z=>?_);(try simp only[S4,S3])
  refine jn Y 1 [5] z (by kernel_rfl) ?_;iterate 1(refine iu rfl rfl (fun w' E=>by try simp only[S3];have ai:=(E.1).all;go_simp;try rfl) ?_;try simp only[S4,S3])
  refine il ?_;refine iD 6 rfl (by kernel_rfl) fun K Z=>?_;(try simp only[S3])
  go_simp;refine hI (am _) fun ao aj=>?_;have Q:Below O.heap.size O ao:=hJ (z.2) aj;clear aj;refine Z.out _ _ ⟨ah.to Q,Q⟩ (fun z=>?_);(try simp only[S4,S3])
  refine jn Y 5 (i' 7 5 []) z (by kernel_rfl) ?_;iterate 5(refine iu rfl rfl (fun w' E=>by try simp only[S3];have ai:=(E.1).all;go_simp;try rfl) ?_;try simp only[S4,S3])
  refine il ?_;clear z;refine wpAnyH_done (by kernel_rfl) ?_ _;have ap:=hJ an Q;clear Q;go_wp2;go_ret;exact⟨rfl,ap⟩
theorem BC(a b c:Nat)(o:c<18446744073709551616):(mO a b c).1<18446744073709551616:=(wP _ _ o).1
theorem xk(p:hx)(a:Nat)(o:a<18446744073709551616):oA p a<18446744073709551616:=by
 unfold oA;split
 ·omega
 split
 ·omega
 have:=p0.wZ o;exact BC _ _ _ (by omega)
def mP(p:hx)(a o r:Nat)(m:Int):Nat:=if pZ m=true∨r<o+oA p a then 0 else oA p a
theorem BD(p:hx)(R:iG p=true)(a z A:Nat)(m:Int)(O:a<18446744073709551616)(F:z<18446744073709551616)(G:A<18446744073709551616)(w:World)(r:Nat)(o:r=mP p a z A m):
 Calls prog 107 #[.agg p.cs,int u64 a,int u64 z,int u64 A,int i64 m] w fun e w'=>e= .returned (int u64 r)∧Below w.heap.size w w':=by
 unfold mP at o;have D:=xk p a O;obtain⟨n,I⟩:=hk (oA p a);have S:=g' (fun W=>xj p R a O W n I);rw[←I]at o D;obtain⟨b,J⟩:=hk (pZ m);have T:=g' (fun W=>AZ m b J W);rw[←J]at o;obtain⟨ac,U,V,X⟩:=iF w p.cs 24;obtain⟨Y,Z⟩:=hg X U;clear U X R O;cases b
 ·by_cases Q:A<z+n
  focus
   rw[if_pos (.inr Q)]at o;have aa:=g' (fun W=>xi A z n W F D G false (by simp;omega))
  rotate_left;focus
   rw[if_neg (by rintro(h|h);cases h;exact Q h)]at o;have aa:=g' (fun W=>xi A z n W F D G true (by simp;omega))
  all_goals
   subst o;clear F G D I J Q;go_enter func107,ntmps107;go_upto_region 1 with(fail)
   rw[Z.out];go_wp2_with (first|(refine hR Y hQ (jb p) rfl rfl rfl rfl ?_));refine hI (S _) fun ab E=>?_;have K:=hJ V E;clear E;go_wp2_with fail;refine hE (T _) ?_;go_wp2_with fail;refine hE (aa _) ?_;go_wp2;go_ret;exact⟨rfl,K.alloc K.size _⟩
 rw[if_pos (.inl rfl)]at o;subst o;clear F G D I J;go_enter func107,ntmps107;go_upto_region 1 with(fail)
 rw[Z.out];go_wp2_with (first|(refine hR Y hQ (jb p) rfl rfl rfl rfl ?_));refine hI (S _) fun ab E=>?_;have K:=hJ V E;clear E;go_wp2_with fail;refine hE (T _) ?_;go_wp2;go_ret;exact⟨rfl,K⟩
def oB(t:Nat)(o:Int):Nat:=t*o.toNat/10000
theorem ue(t:Nat)(o:Int)(h:o≤10000):oB t o≤t:=by
 unfold oB;have:t*o.toNat≤t*10000:=Nat.mul_le_mul_left _ (by omega);omega
theorem BE(t:Nat)(o:Int)(h:0≤o∧o≤10000)(A:t<18446744073709551616):mO t o.toNat 10000=(oB t o,0):=by
 have r:=ue t o h.2;unfold oB at r;have z:t*o.toNat/18446744073709551616<10000:=by
  rw[Nat.div_lt_iff_lt_mul (by omega)];have:t*o.toNat≤t*10000:=Nat.mul_le_mul_left _ (by omega);omega
 unfold mO mr oB;rw[if_neg (by omega),if_pos z]
theorem BF(t:Nat)(o:Int)(h:0≤o∧o≤10000)(r:t<18446744073709551616)(x y:Nat)(z:x=oB t o)(G:y=t-x)(w:World):
 Calls prog 233 #[int u64 t,int i64 o] w fun e w'=>e= .returned (.tuple #[int u64 x,int u64 y,int i64 0])∧Below w.heap.size w w':=by
 have A:=ue t o h.2;rw[←z]at A;have D:=g' (fun W=>sD t o.toNat 10000 r (by omega) (by omega) W (x,0) (by rw[BE t o h r,z]));obtain⟨n,E⟩:=hk o.toNat;have J:decide (o<0)=false:=by simp;omega
 have K:decide (10000<o)=false:=by simp;omega
 have O:u64.wrap o=(n:Int):=(IntWalk.u64_in _ (by omega)).trans (by omega);have Q:u64.wrap ((t:Int) -(x:Int))=(y:Int):=(IntWalk.u64_in _ (by omega)).trans (by omega);rw[←E]at D;clear h r z G A E;go_enter func233,ntmps233;go_wp2_with fail;refine hI (D _) fun R F=>?_;have I:=hJ hz F;clear F;go_wp2;go_ret3;exact⟨rfl,I⟩
def sL(s:Std)(p:hx)(m:Int):Array Value:= #[int u64 s.hD,int u64 s.hP,int u64 s.h9,int i64 s.str,int u64 p.inc,int u64 p.ix,int u64 p.floor,int u64 p.cap,int u64 p.up,int u64 p.down,int u64 p.ih,int u64 p.quot,int u64 p.iR,int u64 p.iS,int u64 p.recover,int u64 p.ig,int u64 p.iT,int u64 p.iU,int i64 p.iV,int i64 p.ic,int i64 p.iE,int i64 p.iN,int i64 p.iI,int i64 p.iy,int i64 p.wait,int i64 p.iW,int i64 p.iK,int i64 p.iO,int i64 m]
instance{s:Std}{p:hx}{m:Int}:hf.jP (sL s p m) fun o r=>(∀j,o.frozen? ⟨r,j,none⟩=false)∧hf.hh o r 0 (int u64 s.hD)∧hf.hh o r 1 (int u64 s.hP)∧hf.hh o r 2 (int u64 s.h9)∧hf.hh o r 3 (int i64 s.str)∧hf.hh o r 4 (int u64 p.inc)∧hf.hh o r 5 (int u64 p.ix)∧hf.hh o r 6 (int u64 p.floor)∧hf.hh o r 7 (int u64 p.cap)∧hf.hh o r 8 (int u64 p.up)∧hf.hh o r 9 (int u64 p.down)∧hf.hh o r 10 (int u64 p.ih)∧hf.hh o r 11 (int u64 p.quot)∧hf.hh o r 12 (int u64 p.iR)∧hf.hh o r 13 (int u64 p.iS)∧hf.hh o r 14 (int u64 p.recover)∧hf.hh o r 15 (int u64 p.ig)∧hf.hh o r 16 (int u64 p.iT)∧hf.hh o r 17 (int u64 p.iU)∧hf.hh o r 18 (int i64 p.iV)∧hf.hh o r 19 (int i64 p.ic)∧hf.hh o r 20 (int i64 p.iE)∧hf.hh o r 21 (int i64 p.iN)∧hf.hh o r 22 (int i64 p.iI)∧hf.hh o r 23 (int i64 p.iy)∧hf.hh o r 24 (int i64 p.wait)∧hf.hh o r 25 (int i64 p.iW)∧hf.hh o r 26 (int i64 p.iK)∧hf.hh o r 27 (int i64 p.iO)∧hf.hh o r 28 (int i64 m):=⟨fun h=>⟨h.frozen,hf.jX h⟩⟩
def sM(p:hx)(s:Std)(m:Int):Nat×Int:=if m=3 then sE s.hP s.h9 p.quot else if m=4 then sE s.hP s.h9 p.iS else mO s.hP p.iN.toNat 10000
def mQ(p:hx)(s:Std)(m:Int):Nat:=if(sM p s m).2≠0 then s.hD else min (sM p s m).1 s.hD
theorem xm(p:hx)(s:Std)(m:Int):mQ p s m≤s.hD:=by unfold mQ;split<;>omega
theorem BG(p:hx)(A:p.jd)(s:Std)(J:s.jE)(m:Int)(w:World)(r:Nat)(z:r=mQ p s m):
 Calls prog 232 #[.agg (sL s p m)] w fun e w'=>e= .returned (int u64 r)∧Below w.heap.size w w':=by
 have K:p.quot<18446744073709551616:=by have:=A.lH.quot;omega
 have O:p.iS<18446744073709551616:=by have:=A.iS;have:=A.lH.quot;omega
 have T:=A.iN;have D:=J.hP;have G:=J.h9;obtain⟨x,o⟩:=hk (sM p s m);unfold mQ at z;rw[←o]at z;unfold sM at o;clear A J;obtain⟨af,U,ab,V⟩:=iF w (sL s p m) 299;obtain⟨X,ac⟩:=hg V U;clear U V;by_cases E:m=3;focus
  subst E;rw[if_pos rfl]at o;have Q:=g' (fun W=>wQ s.hP s.h9 p.quot D G K W x o);clear o
 rotate_left;focus
  have ag:(m==3)=false:=by rw[beq_eq_false_iff_ne];exact E
  rw[if_neg E]at o;by_cases I:m=4;focus
   subst I;rw[if_pos rfl]at o;have Q:=g' (fun W=>wQ s.hP s.h9 p.iS D G O W x o);clear o E
  rotate_left;focus
   have ah:(m==4)=false:=by rw[beq_eq_false_iff_ne];exact I
   rw[if_neg I]at o;obtain⟨n,Y⟩:=hk p.iN.toNat;rw[←Y]at o;have ai:u64.wrap p.iN=(n:Int):=(IntWalk.u64_in _ (by omega)).trans (by omega);have Q:=g' (fun W=>sD s.hP n 10000 D (by omega) (by omega) W x o);clear o E I Y
 all_goals
  obtain⟨ad,R⟩:=x;simp only at z;by_cases F:R=0;focus
   subst F;rw[if_neg (by simp)]at z;have Z:min (ad:Int) (s.hD:Int)=(r:Int):=by omega
   clear z K O T D G
  rotate_left;focus
   have aj:(R==0)=false:=by rw[beq_eq_false_iff_ne];exact F
   have ak:(R !=0)=true:=by rw[bne_iff_ne];exact F
   rw[if_pos F]at z;subst z;clear K O T D G F
  rotate_left;all_goals
   go_enter func232,ntmps232;go_upto_region 1 with(fail)
   rw[ac.out];have al:=X.all;go_wp2_with fail;refine hI (Q _) fun am S=>?_;have aa:=hJ ab S;have ae:=g' (X.to S);clear S;have an:=ae.all;go_wp2;go_ret
  ·exact⟨by first|rfl|rw[Z]|(simp only[←Z];rfl),aa⟩
  exact⟨rfl,aa⟩
theorem BH(p:hx)(A:iG p=true)(s:Std)(G:s.jE)(m:Int)(w:World)(r:Nat)(I:r=mQ p s m):
 Calls prog 182 #[.agg p.cs,.agg s.cs,int i64 m] w fun e w'=>e= .returned (int u64 r)∧Below w.heap.size w w':=by
 obtain⟨R,S⟩:=hg (fun W=>k4 p W 0 (lV A).symm) (fun W=>BG p (j6 A) s G m W r I);clear I;have J:Below w.heap.size w ((w.alloc (.cells p.cs 24)).alloc (.cells s.cs 96)):=((hz.alloc hj _).alloc (by simp) _);have D:ha ((w.alloc (.cells p.cs 24)).alloc (.cells s.cs 96)) w.heap.size 24 p.cs:=((ha.new w _ _ _ rfl).alloc _);have E:ha ((w.alloc (.cells p.cs 24)).alloc (.cells s.cs 96)) (w.heap.size+1) 96 s.cs:=(ha.new _ _ _ _ (by simp));obtain⟨Y,F⟩:=ho ((w.alloc (.cells p.cs 24)).alloc (.cells s.cs 96));rw[F]at J D E;obtain⟨K,T,U⟩:=hs D E F;clear F D E G A;go_enter func182,ntmps182;go_upto_region 1 with(fail)
 rw[U.out];go_wp2_with (first|(refine hR K hQ (jb _) rfl rfl rfl rfl ?_));refine hI (R _) fun Z o=>?_;have V:=hJ J o;obtain⟨O,Q⟩:=hg (K.to o) (T.to o);clear o;go_wp2_with (first|(refine hR Q km (kV _) rfl rfl rfl rfl ?_)|(refine hR O hQ (jb _) rfl rfl rfl rfl ?_)|(refine wpList_build rfl 299 #[(0,.tmp 10),(1,.tmp 11),(2,.tmp 12)] rfl (.agg (sL s p m)) (fun w'=>by kernel_rfl) ?_));refine hI (S _) fun aa z=>?_;have X:=hJ V z;obtain⟨ab,ac⟩:=hg (O.to z) (Q.to z);clear z;go_wp2;go_ret;exact⟨rfl,X⟩
theorem BJ(p:hx)(o:iG p=true)(n:Nat)(z:n<18446744073709551616)(x y:Nat)(A:x=oB n p.iI)(D:y=n-x)(w:World):
 Calls prog 183 #[.agg p.cs,int u64 n] w fun e w'=>e= .returned (.tuple #[int u64 x,int u64 y])∧Below w.heap.size w w':=by
 obtain⟨J,K⟩:=hg (fun W=>k4 p W 0 (lV o).symm) (fun W=>BF n p.iI (j6 o).iI z x y A D W);clear A D z;obtain⟨U,E,O,F⟩:=iF w p.cs 24;obtain⟨G,Q⟩:=hg F E;clear E F o;go_enter func183,ntmps183;go_upto_region 1 with(fail)
 rw[Q.out];go_wp2_with (first|(refine hR G hQ (jb _) rfl rfl rfl rfl ?_));refine hI (J _) fun V r=>?_;have R:=hJ O r;have S:=g' (G.to r);clear r;have X:=S.all;go_wp2_with fail;refine hI (K _) fun Y I=>?_;have T:=hJ R I;clear I;go_wp2;go_ret2;exact⟨rfl,T⟩
def mx(p:hx)(s:Std)(m:Int):Std:=⟨s.hD-mQ p s m,s.hP,s.h9,s.str⟩
theorem BK(p:hx)(D:iG p=true)(s:Std)(E:s.jE)(m:Int)(x y:Nat)(F:x=oB (mQ p s m) p.iI)(G:y=mQ p s m-x)(w:World):
 Calls prog 114 #[.agg p.cs,.agg s.cs,int i64 m] w fun e w'=>e= .returned (.tuple #[.agg (mx p s m).cs,int u64 x,int u64 y])∧Below w.heap.size w w':=by
 have S:=xm p s m;have aa:=E.hD;unfold mx;obtain⟨n,I⟩:=hk (mQ p s m);have ab:=g' (fun W=>BH p D s E m W n I);rw[←I]at F G S⊢;have ac:=g' (fun W=>BJ p D n (by omega) x y F G W);obtain⟨z,T⟩:=hk (s.hD-n);rw[←T];have ar:u64.wrap ((s.hD:Int) -(n:Int))=(z:Int):=(IntWalk.u64_in _ (by omega)).trans (by omega);clear F G I S aa T;have U:Below w.heap.size w (((w.alloc (.cells p.cs 24)).alloc (.cells s.cs 96)).alloc (.cells jT 96)):=(((hz.alloc hj _).alloc (by simp) _).alloc (by simp;omega) _);have J:ha (((w.alloc (.cells p.cs 24)).alloc (.cells s.cs 96)).alloc (.cells jT 96)) w.heap.size 24 p.cs:=(((ha.new w _ _ _ rfl).alloc _).alloc _);have K:ha (((w.alloc (.cells p.cs 24)).alloc (.cells s.cs 96)).alloc (.cells jT 96)) (w.heap.size+1) 96 s.cs:=((ha.new _ _ _ _ (by simp)).alloc _);have O:ha (((w.alloc (.cells p.cs 24)).alloc (.cells s.cs 96)).alloc (.cells jT 96)) (w.heap.size+2) 96 jT:=(ha.new _ _ _ _ (by simp));obtain⟨au,Q⟩:=ho (((w.alloc (.cells p.cs 24)).alloc (.cells s.cs 96)).alloc (.cells jT 96));rw[Q]at U J K O;obtain⟨V,X,ad,ae⟩:=h5 J K O Q;clear Q J K O E D;go_enter func114,ntmps114;go_upto_region 1 with(fail)
 rw[ae.out];go_wp2_with (first|(refine hR V hQ (jb _) rfl rfl rfl rfl ?_)|(refine hR X km (kV _) rfl rfl rfl rfl ?_));refine hI (ab _) fun av o=>?_;have af:=hJ U o;obtain⟨Y,ag,ah⟩:=hs (V.to o) (X.to o) (ad.to o);clear o;go_wp2_with (first|(refine hR Y hQ (jb _) rfl rfl rfl rfl ?_));refine hI (ac _) fun A r=>?_;have ai:=hJ af r;obtain⟨aj,R,ak⟩:=hs (Y.to r) (ag.to r) (ah.to r);clear r;have aw:=R.all;have ax:=R.frozen 0;have ay:ha (A.setCell (⟨w.heap.size+1,0,none⟩:Addr) (int u64 z)) w.heap.size 24 p.cs:=aj.other (a:=(⟨w.heap.size+1,0,none⟩:Addr)) (show w.heap.size≠w.heap.size+1 from by omega) (int u64 z);have al:ha (A.setCell (⟨w.heap.size+1,0,none⟩:Addr) (int u64 z)) (w.heap.size+1) 96 ((⟨z,s.hP,s.h9,s.str⟩:Std).cs):=R.set 0 (int u64 z);have am:ha (A.setCell (⟨w.heap.size+1,0,none⟩:Addr) (int u64 z)) (w.heap.size+2) 96 (jT):=ak.other (a:=(⟨w.heap.size+1,0,none⟩:Addr)) (show w.heap.size+2≠w.heap.size+1 from by omega) (int u64 z);have Z:Below w.heap.size w (A.setCell (⟨w.heap.size+1,0,none⟩:Addr) (int u64 z)):=(ai).setCell (p:=(⟨w.heap.size+1,0,none⟩:Addr)) (show w.heap.size≤w.heap.size+1 from by omega) (int u64 z);go_upto_region 4 with(fail)
 go_wp2_with (first|(refine hR al km (kV _) rfl rfl rfl rfl ?_)|(refine iL rfl 96 (.tmp 6) (.tmp 25) rfl (w.heap.size+2) ((⟨z,s.hP,s.h9,s.str⟩:Std).cs) rfl rfl 96 _ am (kV _) rfl (rA _) ?_;intro az an ao;have ap:=iC Z ao (by first|omega|(simp;omega)) (Z).size;have aq:=g' an));exact bodyPost_ret (v:= .tuple #[.agg ((⟨z,s.hP,s.h9,s.str⟩:Std).cs),int u64 x,int u64 y]) (oc results114 _ _ _ _ _ _ _ _ rfl rfl rfl (aq) km rfl (kV _)) rfl ⟨rfl,ap⟩
def qC(p:hx)(s:Std):Int:=min (max s.str 0) p.ic
def kC(p:hx)(s:Std):Nat:=if p.ix<s.hP then 0 else s.hP*(1000+p.iE*qC p s).toNat
theorem xn(p:hx)(s:Std)(h:0≤p.ic∧p.ic≤64):0≤qC p s∧qC p s≤64:=by unfold qC;omega
theorem xo{p:hx}(h:0≤p.iE∧p.iE≤1000){k:Int}(o:0≤k∧k≤64):0≤p.iE*k∧p.iE*k≤64000:=by
 constructor
 ·exact Int.mul_nonneg h.1 o.1
 calc p.iE*k≤1000*64:=Int.mul_le_mul h.2 o.2 o.1 (by omega)
 _=64000:=by omega
theorem xp{p:hx}(o:p.jd)(s:Std):kC p s≤71468255805440000:=by
 have r:=xo o.iE (xn p s o.ic);have z:=o.ix;have A:=o.lH.cap;unfold kC;split
 ·omega
 have:s.hP*(1000+p.iE*qC p s).toNat≤1099511627776*65000:=Nat.mul_le_mul (by omega) (by omega);omega
theorem BL(p:hx)(A:p.jd)(s:Std)(w:World)(r:Nat)(o:r=kC p s):
 Calls prog 178 #[.agg p.cs,.agg s.cs] w fun e w'=>e= .returned (int u64 r)∧Below w.heap.size w w':=by
 have F:=xp A s;have D:=xn p s A.ic;have E:=xo A.iE D;rw[←o]at F;unfold kC at o;have R:Below w.heap.size w ((w.alloc (.cells p.cs 24)).alloc (.cells s.cs 96)):=((hz.alloc hj _).alloc (by simp) _);have G:ha ((w.alloc (.cells p.cs 24)).alloc (.cells s.cs 96)) w.heap.size 24 p.cs:=((ha.new w _ _ _ rfl).alloc _);have I:ha ((w.alloc (.cells p.cs 24)).alloc (.cells s.cs 96)) (w.heap.size+1) 96 s.cs:=(ha.new _ _ _ _ (by simp));obtain⟨X,J⟩:=ho ((w.alloc (.cells p.cs 24)).alloc (.cells s.cs 96));rw[J]at R G I;obtain⟨T,U,V⟩:=hs G I J;clear J G I A;by_cases z:p.ix<s.hP;focus
  have W:=hZ z;rw[if_pos z]at o;subst o;clear F D E z
 rotate_left;focus
  have W:=h1 z;rw[if_neg z]at o;obtain⟨k,K⟩:=hk (qC p s);rw[←K]at o D E;obtain⟨O,Q⟩:=hk (p.iE*k);rw[←Q]at o E;obtain⟨n,S⟩:=hk ((1000+O).toNat);rw[←S]at o;have Y:min (max s.str 0) p.ic=k:=by rw[K];rfl
  have Z:i64.wrap (p.iE*k)=O:=by rw[Q];exact IntWalk.i64_in _ (by omega)
  have aa:i64.wrap (1000+O)=(n:Int):=(IntWalk.i64_in _ (by omega)).trans (by omega);have ab:u64.wrap (n:Int)=(n:Int):=IntWalk.u64_in _ (by omega);have wr:u64.wrap ((s.hP:Int)*(n:Int))=(r:Int):=by
   have e:(s.hP:Int)*(n:Int)=(r:Int):=by rw[o];push_cast;rfl
   rw[e];exact IntWalk.u64_in _ (by omega)
  clear o F D E z K Q S
 all_goals
  go_enter func178,ntmps178;go_upto_region 1 with(fail)
  rw[V.out];have ac:=U.all;have ad:=T.all;go_wp2;go_ret;exact⟨rfl,R⟩
def rE(p:hx)(s:Std)(n:Nat):Nat:=min n (p.cap-s.hD)
def kU(p:hx)(s:Std)(n:Nat):Std:=⟨s.hD+rE p s n,s.hP,s.h9,s.str⟩
theorem BN(p:hx)(A:iG p=true)(s:Std)(Q:s.jE)(n:Nat)(R:n<18446744073709551616)(y:Nat)(D:y=n-rE p s n)(w:World):
 Calls prog 111 #[.agg p.cs,.agg s.cs,int u64 n] w fun e w'=>e= .returned (.tuple #[.agg (kU p s n).cs,int u64 y])∧Below w.heap.size w w':=by
 have Z:=(j6 A).lH.cap;have S:=Q.hD;have aa:=g' (fun W=>k4 p W 0 (lV A).symm);unfold kU;unfold rE at*;obtain⟨d,E⟩:=hk (p.cap-s.hD);obtain⟨g,F⟩:=hk (min n d);rw[←E,←F]at D⊢;obtain⟨ab,ac⟩:=hg (fun W=>tU p.cap s.hD (by omega) S W d E) (fun W=>tV n d R (by omega) W g y F D);obtain⟨z,T⟩:=hk (s.hD+g);rw[←T];have ao:u64.wrap ((s.hD:Int)+(g:Int))=(z:Int):=(IntWalk.u64_in _ (by omega)).trans (by omega);clear Z S E F T R D;have U:Below w.heap.size w (((w.alloc (.cells p.cs 24)).alloc (.cells s.cs 96)).alloc (.cells jT 96)):=(((hz.alloc hj _).alloc (by simp) _).alloc (by simp;omega) _);have G:ha (((w.alloc (.cells p.cs 24)).alloc (.cells s.cs 96)).alloc (.cells jT 96)) w.heap.size 24 p.cs:=(((ha.new w _ _ _ rfl).alloc _).alloc _);have I:ha (((w.alloc (.cells p.cs 24)).alloc (.cells s.cs 96)).alloc (.cells jT 96)) (w.heap.size+1) 96 s.cs:=((ha.new _ _ _ _ (by simp)).alloc _);have J:ha (((w.alloc (.cells p.cs 24)).alloc (.cells s.cs 96)).alloc (.cells jT 96)) (w.heap.size+2) 96 jT:=(ha.new _ _ _ _ (by simp));obtain⟨ap,K⟩:=ho (((w.alloc (.cells p.cs 24)).alloc (.cells s.cs 96)).alloc (.cells jT 96));rw[K]at U G I J;obtain⟨V,ad,ae,af⟩:=h5 G I J K;clear K G I J Q A;go_enter func111,ntmps111;go_upto_region 1 with(fail)
 rw[af.out];go_wp2_with (first|(refine hR V hQ (jb _) rfl rfl rfl rfl ?_));refine hI (aa _) fun r o=>?_;have ag:=hJ U o;obtain⟨X,O,ah⟩:=hs (V.to o) (ad.to o) (ae.to o);clear o;have aq:=X.all;have ar:=O.all;have au:=O.frozen 0;go_wp2_with fail;refine hE (ab _) ?_;go_wp2_with fail;refine hE (ac _) ?_;have av:ha (r.setCell (⟨w.heap.size+1,0,none⟩:Addr) (int u64 z)) w.heap.size 24 p.cs:=X.other (a:=(⟨w.heap.size+1,0,none⟩:Addr)) (show w.heap.size≠w.heap.size+1 from by omega) (int u64 z);have ai:ha (r.setCell (⟨w.heap.size+1,0,none⟩:Addr) (int u64 z)) (w.heap.size+1) 96 ((⟨z,s.hP,s.h9,s.str⟩:Std).cs):=O.set 0 (int u64 z);have aj:ha (r.setCell (⟨w.heap.size+1,0,none⟩:Addr) (int u64 z)) (w.heap.size+2) 96 (jT):=ah.other (a:=(⟨w.heap.size+1,0,none⟩:Addr)) (show w.heap.size+2≠w.heap.size+1 from by omega) (int u64 z);have Y:Below w.heap.size w (r.setCell (⟨w.heap.size+1,0,none⟩:Addr) (int u64 z)):=(ag).setCell (p:=(⟨w.heap.size+1,0,none⟩:Addr)) (show w.heap.size≤w.heap.size+1 from by omega) (int u64 z);go_upto_region 5 with(fail)
 go_wp2_with (first|(refine hR ai km (kV _) rfl rfl rfl rfl ?_)|(refine iL rfl 96 (.tmp 6) (.tmp 30) rfl (w.heap.size+2) ((⟨z,s.hP,s.h9,s.str⟩:Std).cs) rfl rfl 96 _ aj (kV _) rfl (rA _) ?_;intro aw ak al;have am:=iC Y al (by first|omega|(simp;omega)) (Y).size;have an:=g' ak));exact bodyPost_ret (v:= .tuple #[.agg ((⟨z,s.hP,s.h9,s.str⟩:Std).cs),int u64 y]) (jy results111 _ _ _ _ _ _ _ rfl rfl (an) km rfl (kV _)) rfl ⟨rfl,am⟩
open hC
def hW(m:Mem):Array Value:= #[int u64 m.hD,int u64 m.hP,int u64 m.h9,int i64 m.str,int i64 m.own,int i64 m.h3]
instance{m:Mem}:hf.jP (hW m) fun o r=>(∀j,o.frozen? ⟨r,j,none⟩=false)∧hf.hh o r 0 (int u64 m.hD)∧hf.hh o r 1 (int u64 m.hP)∧hf.hh o r 2 (int u64 m.h9)∧hf.hh o r 3 (int i64 m.str)∧hf.hh o r 4 (int i64 m.own)∧hf.hh o r 5 (int i64 m.h3):=⟨fun h=>⟨h.frozen,hf.jX h⟩⟩
theorem j3(m:Mem):(prog.info? 98).map (·.size)=some (hW m).size:=by kernel_rfl
theorem pb(m:Mem):(hW m).all (·.oneCell')=true:=by kernel_rfl
structure my (m:Mem):Prop where
 hD:m.hD<18446744073709551616
 hP:m.hP<18446744073709551616
 h9:m.h9<18446744073709551616
 str: -9223372036854775808≤m.str∧m.str<9223372036854775808
 own: -9223372036854775808≤m.own∧m.own<9223372036854775808
 h3: -9223372036854775808≤m.h3∧m.h3<9223372036854775808
def nW(m:Mem):Bool:=(m.h3==2)||(m.h3==3)
theorem rF(m:Mem)(w:World)(b:Bool)(o:b=nW m):
 Calls prog 87 #[.agg (hW m)] w fun e w'=>e= .returned (.bool b)∧Below w.heap.size w w':=by
 unfold nW at o;obtain⟨I,A,E,D⟩:=iF w (hW m) 98;obtain⟨F,G⟩:=hg D A;clear A D;by_cases r:m.h3=2;focus
  have z:=jU r;rw[z,Bool.true_or]at o
 rotate_left;focus
  have z:=iM r;rw[z,Bool.false_or]at o
 all_goals
  subst o;clear r;go_enter func87,ntmps87;go_upto_region 1 with(fail)
  rw[G.out];have J:=F.all;go_wp2;go_ret;exact⟨rfl,E⟩
def kx(m:Mem)(o:Int):Mem:=⟨0,0,m.h9,0,m.own,o⟩
theorem BO(m:Mem)(o:Int)(w:World):
 Calls prog 190 #[.agg (hW m),int i64 o] w fun e w'=>e= .returned (.tuple #[.agg (hW (kx m o)),int u64 m.hD])∧Below w.heap.size w w':=by
 have J:Below w.heap.size w ((w.alloc (.cells (hW m) 98)).alloc (.cells jj 98)):=((hz.alloc hj _).alloc (by simp) _);have A:ha ((w.alloc (.cells (hW m) 98)).alloc (.cells jj 98)) w.heap.size 98 (hW m):=((ha.new w _ _ _ rfl).alloc _);have D:ha ((w.alloc (.cells (hW m) 98)).alloc (.cells jj 98)) (w.heap.size+1) 98 jj:=(ha.new _ _ _ _ (by simp));obtain⟨r,E⟩:=ho ((w.alloc (.cells (hW m) 98)).alloc (.cells jj 98));rw[E]at J A D;obtain⟨z,O,Q⟩:=hs A D E;clear E A D;go_enter func190,ntmps190;go_upto_region 1 with(fail)
 rw[Q.out];have ad:=z.all;have ae:=z.frozen 5;have af:=z.all;have F:ha (r.setCell (⟨w.heap.size,5,none⟩:Addr) (int i64 o)) w.heap.size 98 (#[int u64 m.hD,int u64 m.hP,int u64 m.h9,int i64 m.str,int i64 m.own,int i64 o]):=z.set 5 (int i64 o);have R:ha (r.setCell (⟨w.heap.size,5,none⟩:Addr) (int i64 o)) (w.heap.size+1) 98 (jj):=O.other (a:=(⟨w.heap.size,5,none⟩:Addr)) (show w.heap.size+1≠w.heap.size from by omega) (int i64 o);have S:Below w.heap.size w (r.setCell (⟨w.heap.size,5,none⟩:Addr) (int i64 o)):=(J).setCell (p:=(⟨w.heap.size,5,none⟩:Addr)) (show w.heap.size≤w.heap.size from by omega) (int i64 o);have ag:(r.setCell (⟨w.heap.size,5,none⟩:Addr) (int i64 o)).cell? ⟨w.heap.size,0,none⟩=some (int u64 m.hD):=(F).cell (j:=0) (v:=int u64 m.hD) rfl;have ah:(r.setCell (⟨w.heap.size,5,none⟩:Addr) (int i64 o)).frozen? ⟨w.heap.size,0,none⟩=false:=(F).frozen 0;have G:ha ((r.setCell (⟨w.heap.size,5,none⟩:Addr) (int i64 o)).setCell (⟨w.heap.size,0,none⟩:Addr) (int u64 0)) w.heap.size 98 (#[int u64 0,int u64 m.hP,int u64 m.h9,int i64 m.str,int i64 m.own,int i64 o]):=(F).set 0 (int u64 0);have T:ha ((r.setCell (⟨w.heap.size,5,none⟩:Addr) (int i64 o)).setCell (⟨w.heap.size,0,none⟩:Addr) (int u64 0)) (w.heap.size+1) 98 (jj):=(R).other (a:=(⟨w.heap.size,0,none⟩:Addr)) (show w.heap.size+1≠w.heap.size from by omega) (int u64 0);have U:Below w.heap.size w ((r.setCell (⟨w.heap.size,5,none⟩:Addr) (int i64 o)).setCell (⟨w.heap.size,0,none⟩:Addr) (int u64 0)):=(S).setCell (p:=(⟨w.heap.size,0,none⟩:Addr)) (show w.heap.size≤w.heap.size from by omega) (int u64 0);have ai:((r.setCell (⟨w.heap.size,5,none⟩:Addr) (int i64 o)).setCell (⟨w.heap.size,0,none⟩:Addr) (int u64 0)).cell? ⟨w.heap.size,1,none⟩=some (int u64 m.hP):=(G).cell (j:=1) (v:=int u64 m.hP) rfl;have aj:((r.setCell (⟨w.heap.size,5,none⟩:Addr) (int i64 o)).setCell (⟨w.heap.size,0,none⟩:Addr) (int u64 0)).frozen? ⟨w.heap.size,1,none⟩=false:=(G).frozen 1;have I:ha (((r.setCell (⟨w.heap.size,5,none⟩:Addr) (int i64 o)).setCell (⟨w.heap.size,0,none⟩:Addr) (int u64 0)).setCell (⟨w.heap.size,1,none⟩:Addr) (int u64 0)) w.heap.size 98 (#[int u64 0,int u64 0,int u64 m.h9,int i64 m.str,int i64 m.own,int i64 o]):=(G).set 1 (int u64 0);have V:ha (((r.setCell (⟨w.heap.size,5,none⟩:Addr) (int i64 o)).setCell (⟨w.heap.size,0,none⟩:Addr) (int u64 0)).setCell (⟨w.heap.size,1,none⟩:Addr) (int u64 0)) (w.heap.size+1) 98 (jj):=(T).other (a:=(⟨w.heap.size,1,none⟩:Addr)) (show w.heap.size+1≠w.heap.size from by omega) (int u64 0);have W:Below w.heap.size w (((r.setCell (⟨w.heap.size,5,none⟩:Addr) (int i64 o)).setCell (⟨w.heap.size,0,none⟩:Addr) (int u64 0)).setCell (⟨w.heap.size,1,none⟩:Addr) (int u64 0)):=(U).setCell (p:=(⟨w.heap.size,1,none⟩:Addr)) (show w.heap.size≤w.heap.size from by omega) (int u64 0);have ak:(((r.setCell (⟨w.heap.size,5,none⟩:Addr) (int i64 o)).setCell (⟨w.heap.size,0,none⟩:Addr) (int u64 0)).setCell (⟨w.heap.size,1,none⟩:Addr) (int u64 0)).cell? ⟨w.heap.size,3,none⟩=some (int i64 m.str):=(I).cell (j:=3) (v:=int i64 m.str) rfl;have al:(((r.setCell (⟨w.heap.size,5,none⟩:Addr) (int i64 o)).setCell (⟨w.heap.size,0,none⟩:Addr) (int u64 0)).setCell (⟨w.heap.size,1,none⟩:Addr) (int u64 0)).frozen? ⟨w.heap.size,3,none⟩=false:=(I).frozen 3;have X:ha ((((r.setCell (⟨w.heap.size,5,none⟩:Addr) (int i64 o)).setCell (⟨w.heap.size,0,none⟩:Addr) (int u64 0)).setCell (⟨w.heap.size,1,none⟩:Addr) (int u64 0)).setCell (⟨w.heap.size,3,none⟩:Addr) (int i64 0)) w.heap.size 98 ((hW (kx m o))):=(I).set 3 (int i64 0);have Y:ha ((((r.setCell (⟨w.heap.size,5,none⟩:Addr) (int i64 o)).setCell (⟨w.heap.size,0,none⟩:Addr) (int u64 0)).setCell (⟨w.heap.size,1,none⟩:Addr) (int u64 0)).setCell (⟨w.heap.size,3,none⟩:Addr) (int i64 0)) (w.heap.size+1) 98 (jj):=(V).other (a:=(⟨w.heap.size,3,none⟩:Addr)) (show w.heap.size+1≠w.heap.size from by omega) (int i64 0);have K:Below w.heap.size w ((((r.setCell (⟨w.heap.size,5,none⟩:Addr) (int i64 o)).setCell (⟨w.heap.size,0,none⟩:Addr) (int u64 0)).setCell (⟨w.heap.size,1,none⟩:Addr) (int u64 0)).setCell (⟨w.heap.size,3,none⟩:Addr) (int i64 0)):=(W).setCell (p:=(⟨w.heap.size,3,none⟩:Addr)) (show w.heap.size≤w.heap.size from by omega) (int i64 0);go_upto_region 3 with(fail)
 go_wp2_with (first|(refine hR X jY (j3 _) rfl rfl rfl rfl ?_)|(refine iL rfl 98 (.tmp 4) (.tmp 17) rfl (w.heap.size+1) ((hW (kx m o))) rfl rfl 98 _ Y (j3 _) rfl (pb _) ?_;intro am Z aa;have ab:=iC K aa (by first|omega|(simp;omega)) (K).size;have ac:=g' Z));exact bodyPost_ret (v:= .tuple #[.agg (hW (kx m o)),int u64 m.hD]) (jy results190 _ _ _ _ _ _ _ rfl rfl (ac) jY rfl (j3 _)) rfl ⟨rfl,ab⟩
def sN(p:hx)(m:Mem):Bool:=(m.h3==1)&&decide (p.floor<m.hD)&&decide (m.hD≤p.cap)
def rG(p:hx)(m:Mem):Mem:=if sN p m=true then⟨m.hD,lI p m.hD,m.h9,0,m.own,2⟩else m
theorem BP(p:hx)(R:iG p=true)(m:Mem)(aq:my m)(w:World)(r:Mem)(J:r=rG p m)(b:Bool)(E:b=sN p m):
 Calls prog 122 #[.agg p.cs,.agg (hW m)] w fun e w'=>e= .returned (.tuple #[.agg (hW r),.bool b])∧Below w.heap.size w w':=by
 have V:=aq.hD;have ac:=g' (fun W=>k4 p W 0 (lV R).symm);unfold rG at J;rw[←E]at J;unfold sN at E;have aa:Below w.heap.size w (((w.alloc (.cells p.cs 24)).alloc (.cells (hW m) 98)).alloc (.cells jj 98)):=(((hz.alloc hj _).alloc (by simp) _).alloc (by simp;omega) _);have ad:ha (((w.alloc (.cells p.cs 24)).alloc (.cells (hW m) 98)).alloc (.cells jj 98)) w.heap.size 24 p.cs:=(((ha.new w _ _ _ rfl).alloc _).alloc _);have ae:ha (((w.alloc (.cells p.cs 24)).alloc (.cells (hW m) 98)).alloc (.cells jj 98)) (w.heap.size+1) 98 (hW m):=((ha.new _ _ _ _ (by simp)).alloc _);have af:ha (((w.alloc (.cells p.cs 24)).alloc (.cells (hW m) 98)).alloc (.cells jj 98)) (w.heap.size+2) 98 jj:=(ha.new _ _ _ _ (by simp));obtain⟨aN,ag⟩:=ho (((w.alloc (.cells p.cs 24)).alloc (.cells (hW m) 98)).alloc (.cells jj 98));rw[ag]at aa ad ae af;obtain⟨S,ah,ai,aj⟩:=h5 ad ae af ag;clear ag ad ae af aq;by_cases I:m.h3=1;focus
  have ak:=jU I;have ax:=tB I;by_cases K:m.hD≤p.floor
  ·have ay:=hZ K
   have al:decide (p.floor<m.hD)=false:=by simpa using K
   rw[al,Bool.and_false,Bool.false_and]at E;subst E;rw[if_neg (by decide)]at J;subst r;clear I K V R;go_enter func122,ntmps122;go_upto_region 1 with(fail)
   rw[aj.out];go_wp2_with (first|(refine hR S hQ (jb _) rfl rfl rfl rfl ?_));refine hI (ac _) fun ar z=>?_;have G:=hJ aa z;obtain⟨F,A,T⟩:=hs (S.to z) (ah.to z) (ai.to z);clear z;have au:=A.all;have av:=F.all;go_wp2_with (first|(refine hR A jY (j3 _) rfl rfl rfl rfl ?_)|(refine iL rfl 98 (.tmp 4) (.tmp 30) rfl (w.heap.size+2) ((hW m)) rfl rfl 98 _ T (j3 _) rfl (pb _) ?_;intro o X D;have O:=iC G D (by first|omega|(simp;omega)) (G).size;have ab:=g' (F.hT D (by omega));have U:=g' (A.hT D (by omega));have Q:=g' X));exact bodyPost_ret (v:= .tuple #[.agg (hW m),.bool false]) (jy results122 _ _ _ _ _ _ _ rfl rfl (Q) jY rfl (j3 _)) rfl ⟨rfl,O⟩
  have ay:=h1 K;have al:decide (p.floor<m.hD)=true:=by simpa using K
  by_cases Y:p.cap<m.hD
  ·have az:=hZ Y
   have am:decide (m.hD≤p.cap)=false:=by simpa using Y
   rw[am,Bool.and_false]at E;subst E;rw[if_neg (by decide)]at J;subst r;clear I K V R;go_enter func122,ntmps122;go_upto_region 1 with(fail)
   rw[aj.out];go_wp2_with (first|(refine hR S hQ (jb _) rfl rfl rfl rfl ?_));refine hI (ac _) fun ar z=>?_;have G:=hJ aa z;obtain⟨F,A,T⟩:=hs (S.to z) (ah.to z) (ai.to z);clear z;have au:=A.all;have av:=F.all;go_wp2_with (first|(refine hR A jY (j3 _) rfl rfl rfl rfl ?_)|(refine iL rfl 98 (.tmp 4) (.tmp 30) rfl (w.heap.size+2) ((hW m)) rfl rfl 98 _ T (j3 _) rfl (pb _) ?_;intro o X D;have O:=iC G D (by first|omega|(simp;omega)) (G).size;have ab:=g' (F.hT D (by omega));have U:=g' (A.hT D (by omega));have Q:=g' X));exact bodyPost_ret (v:= .tuple #[.agg (hW m),.bool false]) (jy results122 _ _ _ _ _ _ _ rfl rfl (Q) jY rfl (j3 _)) rfl ⟨rfl,O⟩
  have az:=h1 Y;have am:decide (m.hD≤p.cap)=true:=by simpa using Y
  rw[ak,al,am]at E;obtain rfl:b=true:=E;rw[if_pos rfl]at J;obtain⟨x,an⟩:=hk (lI p m.hD);have aA:=g' (fun W=>tX p R m.hD V x an W);rw[←an]at J;subst r;clear I K Y V R an
 rotate_left;focus
  have ak:=iM I;have ax:=pM I;rw[ak,Bool.false_and,Bool.false_and]at E;subst E;rw[if_neg (by decide)]at J;subst r;clear I V R
 rotate_left;all_goals
  go_enter func122,ntmps122;go_upto_region 1 with(fail)
  rw[aj.out];go_wp2_with (first|(refine hR S hQ (jb _) rfl rfl rfl rfl ?_));refine hI (ac _) fun ar z=>?_;have G:=hJ aa z;obtain⟨F,A,T⟩:=hs (S.to z) (ah.to z) (ai.to z);clear z;have au:=A.all;have av:=F.all
 ·go_wp2_with (first|(refine hR F hQ (jb _) rfl rfl rfl rfl ?_))
  refine hI (aA _) fun o Z=>?_;have O:=hJ G Z;obtain⟨ab,U,Q⟩:=hs (F.to Z) (A.to Z) (T.to Z);clear Z;have aO:=U.frozen 5;have aP:=U.all;have aB:ha (o.setCell (⟨w.heap.size+1,5,none⟩:Addr) (int i64 2)) w.heap.size 24 p.cs:=ab.other (a:=(⟨w.heap.size+1,5,none⟩:Addr)) (show w.heap.size≠w.heap.size+1 from by omega) (int i64 2);have ao:ha (o.setCell (⟨w.heap.size+1,5,none⟩:Addr) (int i64 2)) (w.heap.size+1) 98 (#[int u64 m.hD,int u64 m.hP,int u64 m.h9,int i64 m.str,int i64 m.own,int i64 2]):=U.set 5 (int i64 2);have aC:ha (o.setCell (⟨w.heap.size+1,5,none⟩:Addr) (int i64 2)) (w.heap.size+2) 98 (jj):=Q.other (a:=(⟨w.heap.size+1,5,none⟩:Addr)) (show w.heap.size+2≠w.heap.size+1 from by omega) (int i64 2);have aD:Below w.heap.size w (o.setCell (⟨w.heap.size+1,5,none⟩:Addr) (int i64 2)):=(O).setCell (p:=(⟨w.heap.size+1,5,none⟩:Addr)) (show w.heap.size≤w.heap.size+1 from by omega) (int i64 2);have aQ:(o.setCell (⟨w.heap.size+1,5,none⟩:Addr) (int i64 2)).cell? ⟨w.heap.size+1,1,none⟩=some (int u64 m.hP):=(ao).cell (j:=1) (v:=int u64 m.hP) rfl;have aR:(o.setCell (⟨w.heap.size+1,5,none⟩:Addr) (int i64 2)).frozen? ⟨w.heap.size+1,1,none⟩=false:=(ao).frozen 1;have aE:ha ((o.setCell (⟨w.heap.size+1,5,none⟩:Addr) (int i64 2)).setCell (⟨w.heap.size+1,1,none⟩:Addr) (int u64 x)) w.heap.size 24 p.cs:=(aB).other (a:=(⟨w.heap.size+1,1,none⟩:Addr)) (show w.heap.size≠w.heap.size+1 from by omega) (int u64 x);have ap:ha ((o.setCell (⟨w.heap.size+1,5,none⟩:Addr) (int i64 2)).setCell (⟨w.heap.size+1,1,none⟩:Addr) (int u64 x)) (w.heap.size+1) 98 (#[int u64 m.hD,int u64 x,int u64 m.h9,int i64 m.str,int i64 m.own,int i64 2]):=(ao).set 1 (int u64 x);have aF:ha ((o.setCell (⟨w.heap.size+1,5,none⟩:Addr) (int i64 2)).setCell (⟨w.heap.size+1,1,none⟩:Addr) (int u64 x)) (w.heap.size+2) 98 (jj):=(aC).other (a:=(⟨w.heap.size+1,1,none⟩:Addr)) (show w.heap.size+2≠w.heap.size+1 from by omega) (int u64 x);have aG:Below w.heap.size w ((o.setCell (⟨w.heap.size+1,5,none⟩:Addr) (int i64 2)).setCell (⟨w.heap.size+1,1,none⟩:Addr) (int u64 x)):=(aD).setCell (p:=(⟨w.heap.size+1,1,none⟩:Addr)) (show w.heap.size≤w.heap.size+1 from by omega) (int u64 x);have aS:((o.setCell (⟨w.heap.size+1,5,none⟩:Addr) (int i64 2)).setCell (⟨w.heap.size+1,1,none⟩:Addr) (int u64 x)).cell? ⟨w.heap.size+1,3,none⟩=some (int i64 m.str):=(ap).cell (j:=3) (v:=int i64 m.str) rfl;have aT:((o.setCell (⟨w.heap.size+1,5,none⟩:Addr) (int i64 2)).setCell (⟨w.heap.size+1,1,none⟩:Addr) (int u64 x)).frozen? ⟨w.heap.size+1,3,none⟩=false:=(ap).frozen 3;have aU:ha (((o.setCell (⟨w.heap.size+1,5,none⟩:Addr) (int i64 2)).setCell (⟨w.heap.size+1,1,none⟩:Addr) (int u64 x)).setCell (⟨w.heap.size+1,3,none⟩:Addr) (int i64 0)) w.heap.size 24 p.cs:=(aE).other (a:=(⟨w.heap.size+1,3,none⟩:Addr)) (show w.heap.size≠w.heap.size+1 from by omega) (int i64 0);have aH:ha (((o.setCell (⟨w.heap.size+1,5,none⟩:Addr) (int i64 2)).setCell (⟨w.heap.size+1,1,none⟩:Addr) (int u64 x)).setCell (⟨w.heap.size+1,3,none⟩:Addr) (int i64 0)) (w.heap.size+1) 98 ((hW ⟨m.hD,x,m.h9,0,m.own,2⟩)):=(ap).set 3 (int i64 0);have aI:ha (((o.setCell (⟨w.heap.size+1,5,none⟩:Addr) (int i64 2)).setCell (⟨w.heap.size+1,1,none⟩:Addr) (int u64 x)).setCell (⟨w.heap.size+1,3,none⟩:Addr) (int i64 0)) (w.heap.size+2) 98 (jj):=(aF).other (a:=(⟨w.heap.size+1,3,none⟩:Addr)) (show w.heap.size+2≠w.heap.size+1 from by omega) (int i64 0);have aw:Below w.heap.size w (((o.setCell (⟨w.heap.size+1,5,none⟩:Addr) (int i64 2)).setCell (⟨w.heap.size+1,1,none⟩:Addr) (int u64 x)).setCell (⟨w.heap.size+1,3,none⟩:Addr) (int i64 0)):=(aG).setCell (p:=(⟨w.heap.size+1,3,none⟩:Addr)) (show w.heap.size≤w.heap.size+1 from by omega) (int i64 0);go_upto_region 4 with(fail)
  go_wp2_with (first|(refine hR aH jY (j3 _) rfl rfl rfl rfl ?_)|(refine iL rfl 98 (.tmp 4) (.tmp 41) rfl (w.heap.size+2) ((hW ⟨m.hD,x,m.h9,0,m.own,2⟩)) rfl rfl 98 _ aI (j3 _) rfl (pb _) ?_;intro aV aJ aK;have aL:=iC aw aK (by first|omega|(simp;omega)) (aw).size;have aM:=g' aJ));exact bodyPost_ret (v:= .tuple #[.agg ((hW ⟨m.hD,x,m.h9,0,m.own,2⟩)),.bool true]) (jy results122 _ _ _ _ _ _ _ rfl rfl (aM) jY rfl (j3 _)) rfl ⟨rfl,aL⟩
 go_wp2_with (first|(refine hR A jY (j3 _) rfl rfl rfl rfl ?_)|(refine iL rfl 98 (.tmp 4) (.tmp 30) rfl (w.heap.size+2) ((hW m)) rfl rfl 98 _ T (j3 _) rfl (pb _) ?_;intro o X D;have O:=iC G D (by first|omega|(simp;omega)) (G).size;have ab:=g' (F.hT D (by omega));have U:=g' (A.hT D (by omega));have Q:=g' X));exact bodyPost_ret (v:= .tuple #[.agg (hW m),.bool false]) (jy results122 _ _ _ _ _ _ _ rfl rfl (Q) jY rfl (j3 _)) rfl ⟨rfl,O⟩
theorem BR:prog.stoodInHeld 96=false:=by kernel_rfl
theorem BS:prog.stoodInHeld 24=false:=by kernel_rfl
theorem BT:prog.eqGuardType prog.depth 96=false:=by kernel_rfl
theorem BU:prog.eqGuardType prog.depth 24=false:=by kernel_rfl
theorem BV(s t:Std)(b:Bool)(o:b=true↔s=t)(w:World):(Op.equalIn 10000 96 (.agg s.cs) (.agg t.cs)).run prog w= .ok b w:=by
 have u3:=j9;have F:=isAgg3;have G:=sizeOf3;have u4:=ky;have I:=isAgg22;have J:=sizeOf22;have E:prog.underlying 96=some (.struct (prog.fieldsOf 96)):=by kernel_rfl
 rw[show(10000:Nat)=9999+1 from rfl,run_equalIn_agg w 9999 96 _ _ E BR];simp only[Program.fieldsOf,km];unfold Std.cs;go_simp;by_cases r:(s.hD:Int)=(t.hD:Int)
 case neg=>
  rw[if_neg r];cases b
  ·rfl
  exact absurd (congrArg (fun x:Std=>(x.hD:Int)) (o.1 rfl)) r
 rw[if_pos r];by_cases z:(s.hP:Int)=(t.hP:Int)
 case neg=>
  rw[if_neg z];cases b
  ·rfl
  exact absurd (congrArg (fun x:Std=>(x.hP:Int)) (o.1 rfl)) z
 rw[if_pos z];by_cases A:(s.h9:Int)=(t.h9:Int)
 case neg=>
  rw[if_neg A];cases b
  ·rfl
  exact absurd (congrArg (fun x:Std=>(x.h9:Int)) (o.1 rfl)) A
 rw[if_pos A];by_cases D:s.str=t.str
 case neg=>
  rw[if_neg D];cases b
  ·rfl
  exact absurd (congrArg (fun x:Std=>(x.str:Int)) (o.1 rfl)) D
 rw[if_pos D];obtain rfl:b=true:=by
  rw[o];obtain⟨K,O,Q,R⟩:=s;obtain⟨S,T,U,V⟩:=t;simp only at*;simp only[Std.mk.injEq];exact⟨Int.ofNat_inj.1 r,Int.ofNat_inj.1 z,Int.ofNat_inj.1 A,D⟩
 rfl
theorem qD(s t:hx)(b:Bool)(o:b=true↔s=t)(w:World):(Op.equalIn 10000 24 (.agg s.cs) (.agg t.cs)).run prog w= .ok b w:=by
 have u3:=j9;have ae:=isAgg3;have af:=sizeOf3;have u4:=ky;have ag:=isAgg22;have ah:=sizeOf22;have ad:prog.underlying 24=some (.struct (prog.fieldsOf 24)):=by kernel_rfl
 rw[show(10000:Nat)=9999+1 from rfl,run_equalIn_agg w 9999 24 _ _ ad BS];simp only[Program.fieldsOf,hQ];unfold hx.cs;go_simp;by_cases r:(s.inc:Int)=(t.inc:Int)
 case neg=>
  rw[if_neg r];cases b
  ·rfl
  exact absurd (congrArg (fun x:hx=>(x.inc:Int)) (o.1 rfl)) r
 rw[if_pos r];by_cases z:(s.ix:Int)=(t.ix:Int)
 case neg=>
  rw[if_neg z];cases b
  ·rfl
  exact absurd (congrArg (fun x:hx=>(x.ix:Int)) (o.1 rfl)) z
 rw[if_pos z];by_cases A:(s.floor:Int)=(t.floor:Int)
 case neg=>
  rw[if_neg A];cases b
  ·rfl
  exact absurd (congrArg (fun x:hx=>(x.floor:Int)) (o.1 rfl)) A
 rw[if_pos A];by_cases D:(s.cap:Int)=(t.cap:Int)
 case neg=>
  rw[if_neg D];cases b
  ·rfl
  exact absurd (congrArg (fun x:hx=>(x.cap:Int)) (o.1 rfl)) D
 rw[if_pos D];by_cases E:(s.up:Int)=(t.up:Int)
 case neg=>
  rw[if_neg E];cases b
  ·rfl
  exact absurd (congrArg (fun x:hx=>(x.up:Int)) (o.1 rfl)) E
 rw[if_pos E];by_cases F:(s.down:Int)=(t.down:Int)
 case neg=>
  rw[if_neg F];cases b
  ·rfl
  exact absurd (congrArg (fun x:hx=>(x.down:Int)) (o.1 rfl)) F
 rw[if_pos F];by_cases G:(s.ih:Int)=(t.ih:Int)
 case neg=>
  rw[if_neg G];cases b
  ·rfl
  exact absurd (congrArg (fun x:hx=>(x.ih:Int)) (o.1 rfl)) G
 rw[if_pos G];by_cases I:(s.quot:Int)=(t.quot:Int)
 case neg=>
  rw[if_neg I];cases b
  ·rfl
  exact absurd (congrArg (fun x:hx=>(x.quot:Int)) (o.1 rfl)) I
 rw[if_pos I];by_cases J:(s.iR:Int)=(t.iR:Int)
 case neg=>
  rw[if_neg J];cases b
  ·rfl
  exact absurd (congrArg (fun x:hx=>(x.iR:Int)) (o.1 rfl)) J
 rw[if_pos J];by_cases K:(s.iS:Int)=(t.iS:Int)
 case neg=>
  rw[if_neg K];cases b
  ·rfl
  exact absurd (congrArg (fun x:hx=>(x.iS:Int)) (o.1 rfl)) K
 rw[if_pos K];by_cases O:(s.recover:Int)=(t.recover:Int)
 case neg=>
  rw[if_neg O];cases b
  ·rfl
  exact absurd (congrArg (fun x:hx=>(x.recover:Int)) (o.1 rfl)) O
 rw[if_pos O];by_cases Q:(s.ig:Int)=(t.ig:Int)
 case neg=>
  rw[if_neg Q];cases b
  ·rfl
  exact absurd (congrArg (fun x:hx=>(x.ig:Int)) (o.1 rfl)) Q
 rw[if_pos Q];by_cases R:(s.iT:Int)=(t.iT:Int)
 case neg=>
  rw[if_neg R];cases b
  ·rfl
  exact absurd (congrArg (fun x:hx=>(x.iT:Int)) (o.1 rfl)) R
 rw[if_pos R];by_cases S:(s.iU:Int)=(t.iU:Int)
 case neg=>
  rw[if_neg S];cases b
  ·rfl
  exact absurd (congrArg (fun x:hx=>(x.iU:Int)) (o.1 rfl)) S
 rw[if_pos S];by_cases T:s.iV=t.iV
 case neg=>
  rw[if_neg T];cases b
  ·rfl
  exact absurd (congrArg (fun x:hx=>(x.iV:Int)) (o.1 rfl)) T
 rw[if_pos T];by_cases U:s.ic=t.ic
 case neg=>
  rw[if_neg U];cases b
  ·rfl
  exact absurd (congrArg (fun x:hx=>(x.ic:Int)) (o.1 rfl)) U
 rw[if_pos U];by_cases V:s.iE=t.iE
 case neg=>
  rw[if_neg V];cases b
  ·rfl
  exact absurd (congrArg (fun x:hx=>(x.iE:Int)) (o.1 rfl)) V
 rw[if_pos V];by_cases W:s.iN=t.iN
 case neg=>
  rw[if_neg W];cases b
  ·rfl
  exact absurd (congrArg (fun x:hx=>(x.iN:Int)) (o.1 rfl)) W
 rw[if_pos W];by_cases X:s.iI=t.iI
 case neg=>
  rw[if_neg X];cases b
  ·rfl
  exact absurd (congrArg (fun x:hx=>(x.iI:Int)) (o.1 rfl)) X
 rw[if_pos X];by_cases Y:s.iy=t.iy
 case neg=>
  rw[if_neg Y];cases b
  ·rfl
  exact absurd (congrArg (fun x:hx=>(x.iy:Int)) (o.1 rfl)) Y
 rw[if_pos Y];by_cases Z:s.wait=t.wait
 case neg=>
  rw[if_neg Z];cases b
  ·rfl
  exact absurd (congrArg (fun x:hx=>(x.wait:Int)) (o.1 rfl)) Z
 rw[if_pos Z];by_cases aa:s.iW=t.iW
 case neg=>
  rw[if_neg aa];cases b
  ·rfl
  exact absurd (congrArg (fun x:hx=>(x.iW:Int)) (o.1 rfl)) aa
 rw[if_pos aa];by_cases ab:s.iK=t.iK
 case neg=>
  rw[if_neg ab];cases b
  ·rfl
  exact absurd (congrArg (fun x:hx=>(x.iK:Int)) (o.1 rfl)) ab
 rw[if_pos ab];by_cases ac:s.iO=t.iO
 case neg=>
  rw[if_neg ac];cases b
  ·rfl
  exact absurd (congrArg (fun x:hx=>(x.iO:Int)) (o.1 rfl)) ac
 rw[if_pos ac];obtain rfl:b=true:=by
  rw[o];obtain⟨ai,aj,ak,al,am,an,ao,ap,aq,ar,au,av,aw,ax,ay,az,aA,aB,aC,aD,aE,aF,aG,aH⟩:=s;obtain⟨aI,aJ,aK,aL,aM,aN,aO,aP,aQ,aR,aS,aT,aU,aV,aW,aX,aY,aZ,a0,a1,a2,a3,a4,a5⟩:=t;simp only at*;simp only[hx.mk.injEq];exact⟨Int.ofNat_inj.1 r,Int.ofNat_inj.1 z,Int.ofNat_inj.1 A,Int.ofNat_inj.1 D,Int.ofNat_inj.1 E,Int.ofNat_inj.1 F,Int.ofNat_inj.1 G,Int.ofNat_inj.1 I,Int.ofNat_inj.1 J,Int.ofNat_inj.1 K,Int.ofNat_inj.1 O,Int.ofNat_inj.1 Q,Int.ofNat_inj.1 R,Int.ofNat_inj.1 S,T,U,V,W,X,Y,Z,aa,ab,ac⟩
 rfl
end hB
end Go.Proofs.YtffbipddbnkdjaaGreat
