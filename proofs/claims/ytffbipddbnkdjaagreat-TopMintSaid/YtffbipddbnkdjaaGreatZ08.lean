/- What functions compute at any arguments, and plain facts: numbers behind bytes; bytes of parameters; what holds throughout (F), what holds until number s has come up (G); several operations taken in one go; Regions that draw their order, in few words. Conditions: those that each theorem names. -/
import Derived.Test.YtffbipddbnkdjaaGreatZ04
set_option maxRecDepth 100000
set_option maxHeartbeats 40000000
set_option linter.all false
open Go Go.Proofs.Tryz
open Go.Value(int)
open Go.IntKind(i64 u64)
variable{A T:Option Addr}{n g b L k B i x a m j q c p s r d h u N y:Nat}{E z:Int}{P:Program}{w W X Z:World}{e t:TypeId}{f:Nat→Value}{l:List Bool}{V U:Value}{Y:List Nat}{S:List Value}{R:List Int}{Q:Array Value}{O:List (List Nat)}{M:Bool}{K:Ending}{J:Addr}{I:Nat→Nat}{H:Option Nat}
namespace Go.Proofs.YtffbipddbnkdjaaGreat
namespace hB
open RowKit
open hG hf hU
theorem rN(n:Int):∃u:Nat,IntKind.u64.wrap n=(u:Int)∧u<18446744073709551616:=⟨(n%18446744073709551616).toNat,by rw[IntKind.wrap_u64];omega,by omega⟩
def BM(L m:Nat)(w:World)(e:Ending)(w':World):Prop:=∃v,e= .returned v∧jI L m v w'∧Below L w w'
theorem oJ(v:Value)(L m:Nat)(n:Int)(w:World)(A:jI L m v w)(o:L≤w.heap.size)(Q:m≤900000):Calls prog 149 #[v,.int .i64 n] w (BM L (m+10) w):=by
 obtain⟨u,R,D⟩:=rN n;obtain⟨E,F⟩:=hg A (fun W=>qy u D W);go_enter func149,ntmps149;go_wp2_with fail;refine(F _).mono ?_;rintro e S ⟨T,rfl,G,r⟩;obtain⟨I,J,z⟩:=hs (E.to r) G r;go_wp2_with (at_builtin;refine oq rfl _ _ rfl _ _ rfl rfl I J (Nat.le_trans o z.size) (by omega) ?_);intro U V K O;go_wp2;go_ret;exact⟨_,rfl,K,(z.mono o).trans O⟩
theorem D2(A:Option Addr)(n c:Nat)(bs:List Nat)(w:World)(z:hq.ie w w.heap.size A n bs)(O:n≤100000):Calls prog 150 #[.slice A n c] w (BQ (10+n) w):=by
 have Q:IntKind.u64.wrap (n:Int)=(n:Int):=IntWalk.u64_in _ (by omega);obtain⟨D,E⟩:=hg (fun W=>qy n (by omega) W) z;go_enter func150,ntmps150;go_wp2_with fail;refine(D _).mono ?_;rintro e R ⟨S,rfl,F,o⟩;obtain⟨G,r,I⟩:=hs F o (E.to o);go_wp2_with (at_builtin;refine wa rfl _ _ rfl _ rfl rfl G I r.size (by omega) ?_);intro T U J K;go_wp2;go_ret;exact⟨_,rfl,J,r.trans K⟩
theorem D3(p:hx)(o:p.jE)(k:Nat)(r:k<14):∃u:Nat,(#[.int .u64 p.inc,.int .u64 p.ix,.int .u64 p.floor,.int .u64 p.cap,.int .u64 p.up,.int .u64 p.down,.int .u64 p.ih,.int .u64 p.quot,.int .u64 p.iR,.int .u64 p.iS,.int .u64 p.recover,.int .u64 p.ig,.int .u64 p.iT,.int .u64 p.iU]:Array Value)[k]?=some (.int .u64 u)∧u<18446744073709551616:=by
 obtain⟨z,A,D,E,F,G,I,J,K,O,Q,R,S,T,U,V,W,X,Y,Z,aa,ab,ac,ad⟩:=o;match k,r with
 |0,_=>exact⟨_,rfl,z⟩
 |1,_=>exact⟨_,rfl,A⟩
 |2,_=>exact⟨_,rfl,D⟩
 |3,_=>exact⟨_,rfl,E⟩
 |4,_=>exact⟨_,rfl,F⟩
 |5,_=>exact⟨_,rfl,G⟩
 |6,_=>exact⟨_,rfl,I⟩
 |7,_=>exact⟨_,rfl,J⟩
 |8,_=>exact⟨_,rfl,K⟩
 |9,_=>exact⟨_,rfl,O⟩
 |10,_=>exact⟨_,rfl,Q⟩
 |11,_=>exact⟨_,rfl,R⟩
 |12,_=>exact⟨_,rfl,S⟩
 |13,_=>exact⟨_,rfl,T⟩
theorem D4(p:hx)(k:Nat)(o:k<10):∃n:Int,(#[.int .i64 p.iV,.int .i64 p.ic,.int .i64 p.iE,.int .i64 p.iN,.int .i64 p.iI,.int .i64 p.iy,.int .i64 p.wait,.int .i64 p.iW,.int .i64 p.iK,.int .i64 p.iO]:Array Value)[k]?=some (.int .i64 n):=by
 match k,o with
 |0,_=>exact⟨_,rfl⟩
 |1,_=>exact⟨_,rfl⟩
 |2,_=>exact⟨_,rfl⟩
 |3,_=>exact⟨_,rfl⟩
 |4,_=>exact⟨_,rfl⟩
 |5,_=>exact⟨_,rfl⟩
 |6,_=>exact⟨_,rfl⟩
 |7,_=>exact⟨_,rfl⟩
 |8,_=>exact⟨_,rfl⟩
 |9,_=>exact⟨_,rfl⟩
theorem D5(p:hx)(an:p.jE)(w:World):Calls prog 151 #[.agg p.cs] w (BQ 240 w):=by
 obtain⟨E,X,Y,Z⟩:=iF w p.cs 110;have ar:E.heap.size=w.heap.size+1:=by rw[←X];simp
 have S:Below w.heap.size w (E.alloc (.cells #[.int .u64 p.inc,.int .u64 p.ix,.int .u64 p.floor,.int .u64 p.cap,.int .u64 p.up,.int .u64 p.down,.int .u64 p.ih,.int .u64 p.quot,.int .u64 p.iR,.int .u64 p.iS,.int .u64 p.recover,.int .u64 p.ig,.int .u64 p.iT,.int .u64 p.iU] 22)):=Y.alloc Y.size _;have aa:ha (E.alloc (.cells #[.int .u64 p.inc,.int .u64 p.ix,.int .u64 p.floor,.int .u64 p.cap,.int .u64 p.up,.int .u64 p.down,.int .u64 p.ih,.int .u64 p.quot,.int .u64 p.iR,.int .u64 p.iS,.int .u64 p.recover,.int .u64 p.ig,.int .u64 p.iT,.int .u64 p.iU] 22)) E.heap.size 22 #[.int .u64 p.inc,.int .u64 p.ix,.int .u64 p.floor,.int .u64 p.cap,.int .u64 p.up,.int .u64 p.down,.int .u64 p.ih,.int .u64 p.quot,.int .u64 p.iR,.int .u64 p.iS,.int .u64 p.recover,.int .u64 p.ig,.int .u64 p.iT,.int .u64 p.iU]:=ha.new E _ _ _ rfl;have ab:=Z.alloc (.cells #[.int .u64 p.inc,.int .u64 p.ix,.int .u64 p.floor,.int .u64 p.cap,.int .u64 p.up,.int .u64 p.down,.int .u64 p.ih,.int .u64 p.quot,.int .u64 p.iR,.int .u64 p.iS,.int .u64 p.recover,.int .u64 p.ig,.int .u64 p.iT,.int .u64 p.iU] 22);obtain⟨F,T⟩:=ho (E.alloc (.cells #[.int .u64 p.inc,.int .u64 p.ix,.int .u64 p.floor,.int .u64 p.cap,.int .u64 p.up,.int .u64 p.down,.int .u64 p.ih,.int .u64 p.quot,.int .u64 p.iR,.int .u64 p.iS,.int .u64 p.recover,.int .u64 p.ig,.int .u64 p.iT,.int .u64 p.iU] 22));rw[T]at aa S ab;have au:F.heap.size=w.heap.size+2:=by rw[←T];simp;omega
 have o:Below w.heap.size w (F.alloc (.cells #[.int .i64 p.iV,.int .i64 p.ic,.int .i64 p.iE,.int .i64 p.iN,.int .i64 p.iI,.int .i64 p.iy,.int .i64 p.wait,.int .i64 p.iW,.int .i64 p.iK,.int .i64 p.iO] 3)):=S.alloc S.size _;have ac:ha (F.alloc (.cells #[.int .i64 p.iV,.int .i64 p.ic,.int .i64 p.iE,.int .i64 p.iN,.int .i64 p.iI,.int .i64 p.iy,.int .i64 p.wait,.int .i64 p.iW,.int .i64 p.iK,.int .i64 p.iO] 3)) F.heap.size 3 #[.int .i64 p.iV,.int .i64 p.ic,.int .i64 p.iE,.int .i64 p.iN,.int .i64 p.iI,.int .i64 p.iy,.int .i64 p.wait,.int .i64 p.iW,.int .i64 p.iK,.int .i64 p.iO]:=ha.new F _ _ _ rfl;have ad:=aa.alloc (.cells #[.int .i64 p.iV,.int .i64 p.ic,.int .i64 p.iE,.int .i64 p.iN,.int .i64 p.iI,.int .i64 p.iy,.int .i64 p.wait,.int .i64 p.iW,.int .i64 p.iK,.int .i64 p.iO] 3);obtain⟨r,U⟩:=ho (F.alloc (.cells #[.int .i64 p.iV,.int .i64 p.ic,.int .i64 p.iE,.int .i64 p.iN,.int .i64 p.iI,.int .i64 p.iy,.int .i64 p.wait,.int .i64 p.iW,.int .i64 p.iK,.int .i64 p.iO] 3));rw[U]at ac o ad;have ao:r.heap.size=w.heap.size+3:=by rw[←U];simp;omega
 obtain⟨av,aw,ax,ay,az,aA⟩:=ku X T U o Z ab;have aB:=g' (fun(wr:World) (A:Below r.heap.size r wr) k (J:k<14)=>show∃u:Nat,wr.cell? ⟨E.heap.size,k,none⟩=some (.int .u64 u)∧u<18446744073709551616 by
  obtain⟨u,ae,aC⟩:=D3 p an k J;exact⟨u,(ad.to A).cell ae,aC⟩)
 have aD:=g' (fun(wr:World) (A:Below r.heap.size r wr) k (J:k<10)=>show∃n:Int,wr.cell? ⟨F.heap.size,k,none⟩=some (.int .i64 n) by
  obtain⟨u,ae⟩:=D4 p k J;exact⟨u,(ac.to A).cell ae⟩)
 have ap:=g' ao;clear Y Z X S aa ab T o ac ad U ar au ao an;go_enter func151,ntmps151;go_upto_region 1 with(fail)
 rw[av.out];have aE:=az.all;go_upto_region 2 with(fail)
 rw[aw.out];have aF:=aA.all;go_upto_region 3 with(fail)
 rw[ax.out];clear aE aF;go_wp2;go_loopw [5,6] (fun af G wr=>∃k:Nat,G= .int .i64 k∧k≤14∧jI r.heap.size (10*k) af wr∧Below r.heap.size r wr) (fun _ G _=>14-(intOf G).toNat)
 case atStart=>exact⟨0,rfl,h6,jI.nil _ _,hz⟩
 case round=>
  obtain⟨k,rfl,J,K,A⟩:=hrel;obtain⟨D,z⟩:=hg K A;clear K A;by_cases I:k<14
  ·have ag:decide (k<14)=true:=by simpa using I
   have ah:decide ((k:Int)<14)=true:=by simp;omega
   obtain⟨u,ai,V⟩:=aB wr z k I;have O:=g' (fun W=>qy u V W);clear V;go_wp2_with fail;refine(O _).mono ?_;rintro e aG ⟨aH,rfl,Q,o⟩;obtain⟨aj,ak,R⟩:=hs (D.to o) Q (hJ z o);clear Q o D O ai z;go_wp2_with (at_builtin;refine oq rfl _ _ rfl _ _ rfl rfl aj ak R.size (by omega) ?_);intro aI aJ al am;go_wp2;exact⟨⟨k+1,by go_num,by omega,al.more (by omega),R.trans am⟩,by simp[intOf];omega⟩
  have ag:decide (k<14)=false:=by simpa using I
  have ah:decide ((k:Int)<14)=false:=by simp;omega
  go_wp2;go_loopw [5,7] (fun af G wr=>∃k:Nat,G= .int .i64 k∧k≤10∧jI r.heap.size (140+10*k) af wr∧Below r.heap.size r wr) (fun _ G _=>10-(intOf G).toNat)
  case atStart=>exact⟨0,rfl,h6,D.more (by omega),z⟩
  case round=>
   clear D z;obtain⟨k,rfl,J,K,A⟩:=hrel;obtain⟨D,z⟩:=hg K A;clear K A;by_cases I:k<10
   ·have ag:decide (k<10)=true:=by simpa using I
    have ah:decide ((k:Int)<10)=true:=by simp;omega
    obtain⟨n,ai⟩:=aD _ z k I;obtain⟨u,V,aq⟩:=rN n;have O:=g' (fun W=>qy u aq W);clear aq;go_wp2_with fail;refine(O _).mono ?_;rintro e aG ⟨aH,rfl,Q,o⟩;obtain⟨aj,ak,R⟩:=hs (D.to o) Q (hJ z o);clear Q o D O ai z V;go_wp2_with (at_builtin;refine oq rfl _ _ rfl _ _ rfl rfl aj ak R.size (by omega) ?_);intro aI aJ al am;go_wp2;exact⟨⟨k+1,by go_num,by omega,al.more (by omega),R.trans am⟩,by simp[intOf];omega⟩
   have ag:decide (k<10)=false:=by simpa using I
   have ah:decide ((k:Int)<10)=false:=by simp;omega
   go_wp2;go_ret;exact⟨_,rfl,(D.more (by omega)).low (by have:=ap.out;omega),ay.trans (z.mono (by have:=ap.out;omega))⟩
end hB
namespace gZ
section
variable {P:Program} {ops:Array Oper} {Q:Exit→Act→World→Prop} {F G:World→Prop} {s:Nat}
def lM(F G:World→Prop)(s:Nat)(L:Array Bool)(w:World):Prop:=F w∧(L.getD s false=false→G w)
def kI(P:Program)(ops:Array Oper)(Q:Exit→Act→World→Prop)(F G:World→Prop)(s:Nat):Nat→Array Bool→Act→World→Prop
 |0,L,a,w=>Region.ready .any ops L=[]∧Q .normal a w
 |n+1,L,a,w=>(Region.ready .any ops L=[]→Q .normal a w)∧
   ∀i∈Region.ready .any ops L,wpOp P ops Q i (fun o w'=>lM F G s (L.setIfInBounds i true) w'∧kI P ops Q F G s n (L.setIfInBounds i true) o w') a w
theorem x':∀(n:Nat) (L:Array Bool) (a:Act) (w:World),kI P ops Q F G s n L a w→wpAny P .any ops Q n L a w
 |0,_,_,_,h=>h
 |n+1,_,_,_,h=>⟨h.1,fun i o=>wpOp_mono (fun r w' k=>x' n _ r w' k.2) (h.2 i o)⟩
def s4(ops:Array Oper):Nat→Nat→Nat→Bool
 |0,s,i=>waits .any ops s i
 |n+1,s,i=>waits .any ops s i||(List.range ops.size).any (fun k=>waits .any ops s k&&s4 ops n k i)
def s5(ops:Array Oper)(s i:Nat):Bool:=s4 ops 2 s i
theorem ya{L:Array Bool}(o:Down .any ops L):∀(n s i:Nat),s4 ops n s i=true→L.getD s false=true→L.getD i false=true
 |0,s,i,h,r=>o s i r h
 |n+1,s,i,h,r=>by
  unfold s4 at h;rw[Bool.or_eq_true]at h;rcases h with h|h
  ·exact o s i r h
  obtain⟨k,_,z⟩:=List.any_eq_true.1 h;rw[Bool.and_eq_true]at z;exact ya o n k i z.2 (o s k r z.1)
theorem D7{L:Array Bool}(o:Down .any ops L)(h:s5 ops s i=true)(r:L.getD s false=true):L.getD i false=true:=ya o 2 s i h r
def n3(F G:World→Prop)(b:Bool):World→Prop:=if b=true then fun w=>F w∧G w else F
theorem yb{L:Array Bool}{b:Bool}(o:Down .any ops L)(r:b=true→s5 ops s i=true)(z:L.getD i false=false)(h:lM F G s L w):n3 F G b w:=by
 unfold n3;split
 ·rename_i A
  refine⟨h.1,h.2 ?_⟩;cases D:L.getD s false
  ·rfl
  have:=D7 o (r A) D;rw[z]at this;cases this
 exact h.1
theorem D8{E:Oper}{v:Value}{b:Bool}(T:ops[i]?=some E)(ag:i≠s)(Y:b=true→s5 ops s i=true)(Z:∀(j:Nat) (o:Oper) I b,ops[j]?=some o→o.op≠ .select I b)
 (ah:∀c a w,Q (.panic c) (a.put E.dst v) w→Q (.panic c) a w):
 ∀(n:Nat) (L:Array Bool) (a:Act) (w:World),Down .any ops L→
  (∀j A,ops[j]?=some A→j≠i→L.getD j true=false→(∀e∈A.after,Region.binds .any e=true→e.on≠i)→E.apart ops A=true)→
  i∈Region.ready .any ops L→YieldsIf P ops (n3 F G b) E v a→lM F G s L w→
  kI P ops Q F G s n (L.setIfInBounds i true) (a.put E.dst v) w→kI P ops Q F G s (n+1) L a w:=by
 have U:∀L:Array Bool,i∈Region.ready .any ops L→L.getD i false=false:=fun L r=>by
  have aa:=(mem_ready.1 r).1;rcases Nat.lt_or_ge i L.size with V|V
  ·simp[V]at aa⊢;exact aa
  simp[Array.getElem?_eq_none V]
 intro n;induction n with
 |zero=>
  intro L a w K _ r O D H;refine⟨fun h=>(by rw[h]at r;cases r),fun j J=>?_⟩;by_cases z:j=i
  ·subst z;exact O.wpOp T (yb K Y (U L r) D) ⟨⟨D.1,fun e=>D.2 (by
    cases W:L.getD s false
    ·rfl
    rw[getD_set_true W]at e;cases e)⟩,H⟩
  have:=ready_mono J z;rw[H.1]at this;cases this
 |succ n ai=>
  intro L a w K ab r O D H;refine⟨fun h=>(by rw[h]at r;cases r),fun j J=>?_⟩;by_cases z:j=i
  ·subst z;exact O.wpOp T (yb K Y (U L r) D) ⟨⟨D.1,fun e=>D.2 (by
    cases W:L.getD s false
    ·rfl
    rw[getD_set_true W]at e;cases e)⟩,H⟩
  have aj:=H.2 j (ready_mono J z);obtain⟨ac,A,X,ak⟩:=mem_ready.1 J;have al:∀e∈A.after,Region.binds .any e=true→e.on≠i:=fun e am an ao=>by
   have R:=ak e am an;rw[ao,U L r]at R;cases R
  have R:=wpOp_putIf X (ab j A X z ac al) (fun I b=>Z i E I b T) (fun I b=>Z j A I b X) ah O aj;refine wpOp_mono (fun ap w' S=>?_) R;have ad:lM F G s (L.setIfInBounds j true) w':=⟨S.2.1.1,fun e=>S.2.1.2 (by rw[Array.setIfInBounds_comm _ _ (Ne.symm z),getD_set_ne false ag];exact e)⟩;refine⟨ad,ai (L.setIfInBounds j true) ap w' (wH K J) ?_ (ready_mono r (Ne.symm z)) S.1 ad ?_⟩
  ·intro k aq ar au ae av
   refine ab k aq ar au ?_ av;by_cases af:j=k
   ·subst af;exact ac
   rw[getD_set_ne true af]at ae;exact ae
  rw[Array.setIfInBounds_comm _ _ z];exact S.2.2
theorem mU(h:n3 F G true w):F w∧G w:=h
theorem px(h:n3 F G false w):F w:=h
def yc(ops:Array Oper)(s:Nat)(L:Array Bool)(i:Nat)(b:Bool):Bool:=(i !=s)&&((!b||s5 ops s i)&&(sx .any ops L&&(Region.free .any ops L i&&(Region.ready .any ops L).contains i)))
def s7(ops:Array Oper)(s:Nat):List (Nat×Bool)→Array Bool→Bool
 |[],_=>true
 |(i,b)::r,L=>yc ops s L i b&&s7 ops s r (L.setIfInBounds i true)
def lq(P:Program)(ops:Array Oper)(F G:World→Prop):List (Nat×Bool)→Array Bool→Act→(Array Bool→Act→Prop)→Prop
 |[],L,a,K=>K L a
 |(i,b)::r,L,a,K=>∃o v,ops[i]?=some o∧YieldsIf P ops (n3 F G b) o v a∧lq P ops F G r (L.setIfInBounds i true) (a.put o.dst v) K
theorem D9{b:Bool}{r:List (Nat×Bool)}{L:Array Bool}{a:Act}{K:Array Bool→Act→Prop}{o:Oper}(v:Value)(z:ops[i]?=some o)(A:Region.wanted o (yielded ops a.tmps)=true)
 (D:∀w',n3 F G b w'→(execOp a.eval o).run P w'= .ok (.value v) w') (h:lq P ops F G r (L.setIfInBounds i true) (a.put o.dst v) K):lq P ops F G ((i,b)::r) L a K:=⟨o,v,z,.inl ⟨A,D⟩,h⟩
theorem kn{b:Bool}{r:List (Nat×Bool)}{L:Array Bool}{a:Act}{K:Array Bool→Act→Prop}{o:Oper}(z:ops[i]?=some o)(A:Region.wanted o (yielded ops a.tmps)=false)
 (h:lq P ops F G r (L.setIfInBounds i true) (a.put o.dst undef) K):lq P ops F G ((i,b)::r) L a K:=⟨o,undef,z,.inr ⟨A,rfl⟩,h⟩
theorem jK{b:Bool}{r:List (Nat×Bool)}{L:Array Bool}{a:Act}{K:Array Bool→Act→Prop}{o:Oper}(v:Value)(z:ops[i]?=some o)(A:YieldsIf P ops (n3 F G b) o v a)
 (h:lq P ops F G r (L.setIfInBounds i true) (a.put o.dst v) K):lq P ops F G ((i,b)::r) L a K:=⟨o,v,z,A,h⟩
theorem hH{L:Array Bool}{a:Act}{K:Array Bool→Act→Prop}(h:K L a):lq P ops F G [] L a K:=h
theorem yd(E:Region.noSelect ops=true)(I:∀c (a:Act) d v w,Q (.panic c) (a.put d v) w→Q (.panic c) a w):∀(r:List (Nat×Bool)) (n N:Nat) (L:Array Bool) (a:Act),N=n+r.length→s7 ops s r L=true→lM F G s L w→
 lq P ops F G r L a (fun J K=>lM F G s J w→kI P ops Q F G s n J K w)→kI P ops Q F G s N L a w
 |[],n,N,L,a,D,_,A,h=>by
  obtain rfl:N=n:=D;exact h A
 |(i,b)::r,n,N,L,a,D,hb,A,⟨o,v,hi,hy,h⟩=>by
  obtain rfl:N=(n+r.length)+1:=by rw[D,List.length_cons];omega
  unfold s7 yc at hb;simp only[Bool.and_eq_true,bne_iff_ne,Bool.or_eq_true,Bool.not_eq_true']at hb;obtain⟨⟨O,z,R,S,T⟩,U⟩:=hb
  refine D8 hi O (fun e=>by rcases z with z|z
                            ·rw[e]at z;cases z
                            exact z) (Region.noSelect_spec E) (fun c a w=>I c a _ _ w) _ L a w (wI R) (Region.free_spec hi S) (by simpa using T) hy A ?_
  exact yd E I r n _ _ _ rfl U ⟨A.1,fun e=>A.2 (by
   cases V:L.getD s false
   ·rfl
   rw[getD_set_true V]at e;cases e)⟩ h
theorem D'{a:Act}(F G:World→Prop)(s N:Nat)(o:ops.size=N)(r:P.follows .mixedOrders=true)(z:F w.drew)(A:G w.drew)
 (h:lM F G s (Array.replicate N false) w.drew→kI P ops Q F G s N (Array.replicate N false) a w.drew):(Code.region n ops true).wp P Q a w:=by
 subst o;exact wp_region_any r (x' _ _ _ _ (h ⟨z,fun _=>A⟩))
theorem hY(i:Nat){o:Oper}{L:Array Bool}{a:Act}(J:N=n+1)(K:ops[i]?=some o)(z:Region.ready .any ops L=[i])
 (h:∀r:Act→World→Prop,Shut (∀a w,F w→G w→(lM F G s (L.setIfInBounds i true) w→kI P ops Q F G s n (L.setIfInBounds i true) a w)→r a w)→if Region.wanted o (yielded ops a.tmps)=true then Oper.wp P o a w r Q else r (a.put o.dst undef) w):
 kI P ops Q F G s N L a w:=by
 subst J;exact⟨fun A=>(by rw[z]at A;cases A),fun j D=>by
  rw[z]at D;obtain rfl:=List.mem_singleton.1 D;exact wpOp_step K fun r O=>h r fun a w E I R=>O a w ⟨⟨E,fun _=>I⟩,R ⟨E,fun _=>I⟩⟩⟩
theorem jc(i:Nat){o:Oper}{L:Array Bool}{a:Act}(J:N=n+1)(K:ops[i]?=some o)(z:Region.ready .any ops L=[i])(A:(L.setIfInBounds i true).getD s false=true)
 (h:∀r:Act→World→Prop,Shut (∀a w,F w→(lM F G s (L.setIfInBounds i true) w→kI P ops Q F G s n (L.setIfInBounds i true) a w)→r a w)→if Region.wanted o (yielded ops a.tmps)=true then Oper.wp P o a w r Q else r (a.put o.dst undef) w):
 kI P ops Q F G s N L a w:=by
 subst J;exact⟨fun D=>(by rw[z]at D;cases D),fun j E=>by
  rw[z]at E;obtain rfl:=List.mem_singleton.1 E;exact wpOp_step K fun r O=>h r fun a w I R=>O a w ⟨⟨I,fun e=>by rw[A]at e;cases e⟩,R ⟨I,fun e=>by rw[A]at e;cases e⟩⟩⟩
theorem lN(i k:Nat){o o':Oper}{L:Array Bool}{a:Act}(O:N=n+1)(R:ops[i]?=some o)(S:ops[k]?=some o')(J:Region.ready .any ops L=[i,k])
 (h:∀r:Act→World→Prop,Shut (∀a w,F w→G w→(lM F G s (L.setIfInBounds i true) w→kI P ops Q F G s n (L.setIfInBounds i true) a w)→r a w)→if Region.wanted o (yielded ops a.tmps)=true then Oper.wp P o a w r Q else r (a.put o.dst undef) w)
 (T:∀r:Act→World→Prop,Shut (∀a w,F w→G w→(lM F G s (L.setIfInBounds k true) w→kI P ops Q F G s n (L.setIfInBounds k true) a w)→r a w)→if Region.wanted o' (yielded ops a.tmps)=true then Oper.wp P o' a w r Q else r (a.put o'.dst undef) w):
 kI P ops Q F G s N L a w:=by
 subst O;refine⟨fun K=>(by rw[J]at K;cases K),fun j D=>?_⟩;rw[J]at D;rcases List.mem_cons.1 D with rfl|D
 ·exact wpOp_step R fun r E=>h r fun a w z A I=>E a w ⟨⟨z,fun _=>A⟩,I ⟨z,fun _=>A⟩⟩
 obtain rfl:=List.mem_singleton.1 D;exact wpOp_step S fun r E=>T r fun a w z A I=>E a w ⟨⟨z,fun _=>A⟩,I ⟨z,fun _=>A⟩⟩
theorem ia{L:Array Bool}{a:Act}(o:Region.ready .any ops L=[])(h:Q .normal a w):kI P ops Q F G s n L a w:=by
 cases n with
 |zero=>exact⟨o,h⟩
 |succ n=>exact⟨fun _=>h,fun i r=>by rw[o]at r;cases r⟩
end
def Rg(ops:Array Oper)(Q:Exit→Act→World→Prop):Prop:=Region.noSelect ops=true∧∀c (a:Act) d v w,Q (.panic c) (a.put d v) w→Q (.panic c) a w
def PM(F G:World→Prop):Bool→World→Prop
 |true,w=>F w∧G w
 |false,w=>F w
theorem pm{F G:World→Prop}:∀{b:Bool} {w:World},n3 F G b w→PM F G b w
 |true,_,h=>h
 |false,_,h=>h
theorem pF{F G:World→Prop}(h:PM F G false w):F w:=h
def sq(i:Nat):Nat→Bool→List (Nat×Bool)→List (Nat×Bool)
 |0,_,r=>r
 |n+1,b,r=>(i,b)::sq (i+1) n b r
section
variable {ops:Array Oper} {Q:Exit→Act→World→Prop} {F G:World→Prop} {s:Nat}
theorem rg{a:Act}(F G:World→Prop)(s N:Nat)(o:(ops.size==N&&Region.noSelect ops)=true)(r:∀c (a:Act) d v w,Q (.panic c) (a.put d v) w→Q (.panic c) a w)(z:F w.drew)(A:G w.drew)
 (h:Rg ops Q→lM F G s (Array.replicate N false) w.drew→kI prog ops Q F G s N (Array.replicate N false) a w.drew):(Code.region n ops true).wp prog Q a w:=by
 rw[Bool.and_eq_true,beq_iff_eq]at o;exact D' F G s N o.1 tD z A (h ⟨o.2,r⟩)
theorem iP{a:Act}(F:World→Prop)(N:Nat)(o:(ops.size==N&&Region.noSelect ops)=true)(r:∀c (a:Act) d v w,Q (.panic c) (a.put d v) w→Q (.panic c) a w)(z:F w.drew)
 (h:Rg ops Q→lM F (fun _=>True) N (Array.replicate N false) w.drew→kI prog ops Q F (fun _=>True) N N (Array.replicate N false) a w.drew):(Code.region n ops true).wp prog Q a w:=rg F (fun _=>True) N N o r z trivial h
theorem tq(z:Rg ops Q)(n:Nat)(r:List (Nat×Bool)){L:Array Bool}{a:Act}(o:(N==n+r.length&&s7 ops s r L)=true)(D:lM F G s L w)
 (h:lq prog ops F G r L a (fun A E=>lM F G s A w→kI prog ops Q F G s n A E w)):kI prog ops Q F G s N L a w:=by
 rw[Bool.and_eq_true,beq_iff_eq]at o;exact yd z.1 z.2 r n N L a o.1 o.2 D h
theorem t1{b:Bool}{r:List (Nat×Bool)}{L:Array Bool}{a:Act}{K:Array Bool→Act→Prop}{o:Oper}{v:Value}(z:ops[i]?=some o)(A:Region.wanted o (yielded ops a.tmps)=true)
 (D:∀w',PM F G b w'→(execOp a.eval o).run prog w'= .ok (.value v) w') (h:lq prog ops F G r (L.setIfInBounds i true) (a.put o.dst v) K):lq prog ops F G ((i,b)::r) L a K:=D9 v z A (fun w' x=>D w' (pm x)) h
theorem tW{b:Bool}{r:List (Nat×Bool)}{L:Array Bool}{a:Act}{K:Array Bool→Act→Prop}{o:Oper}(v:Value)(z:ops[i]?=some o)(A:YieldsIf prog ops (PM F G b) o v a)
 (h:lq prog ops F G r (L.setIfInBounds i true) (a.put o.dst v) K):lq prog ops F G ((i,b)::r) L a K:=jK v z (by
   have e:PM F G b=n3 F G b:=by cases b<;>rfl
   rwa[e]at A) h
theorem tY{b:Bool}{r:List (Nat×Bool)}{z:Array Bool}{a:Act}{K:Array Bool→Act→Prop}{o:Oper}{T:TypeId}{x:Operand}{M:Array Value}{d:TypeDesc}(k:Nat)(L:List Value)(A:∀w',PM F G b w'→hf.ha w' g t M)(D:(M.toList.drop k).take L.length=L)
 (E:prog.underlying T=some d) (I:(prog.info? T).map (·.size)=some L.length) (J:ops[i]?=some o) (O:Region.wanted o (yielded ops a.tmps)=true) (Q:o.op= .load T x) (R:a.eval x= .pointer (some ⟨g,k,none⟩)) (S:d.isRow=true)
 (h:lq prog ops F G r (z.setIfInBounds i true) (a.put o.dst (.agg L.toArray)) K):lq prog ops F G ((i,b)::r) z a K:=tW _ J (yieldsIf_load_mid O T x Q g k R L d (fun w' U=>tE k (A w' U) D) E S I) h
end
end gZ
end Go.Proofs.YtffbipddbnkdjaaGreat
