/- What functions compute at any arguments, and plain facts: How long a leak takes; Check; Grain: effective balances; Grain, second part; what loads yield is asked only as long as the write has not come up and others. Conditions: those that each theorem names. -/
import Derived.Test.YtffbipddbnkdjaaGreatZ03
set_option maxRecDepth 100000
set_option maxHeartbeats 40000000
set_option linter.all false
open Go Go.Proofs.Tryz
open Go.Value(int)
open Go.IntKind(i64 u64)
variable{A T:Option Addr}{n g b L k B i x a m j q c p s r d h u N y:Nat}{E z:Int}{P:Program}{w W X Z:World}{e t:TypeId}{f:Nat→Value}{l:List Bool}{V U:Value}{Y:List Nat}{S:List Value}{R:List Int}{Q:Array Value}{O:List (List Nat)}{M:Bool}{K:Ending}{J:Addr}{I:Nat→Nat}{H:Option Nat}
namespace Go.Proofs.YtffbipddbnkdjaaGreat
namespace hB
open RowKit
open hG hf
def lg(p:hx)(i:Nat):Bool:= !decide (p.inc*p.ih*((i+1)*(i+2))<2*p.quot*(p.cap-p.floor))
theorem AK{p:hx}(h:i≤j)(o:lg p i=true):lg p j=true:=by
 unfold lg at*;simp only[Bool.not_eq_true',decide_eq_false_iff_not,Nat.not_lt]at*;refine Nat.le_trans o (Nat.mul_le_mul_left _ (Nat.mul_le_mul (by omega) (by omega)))
def lk(p:hx):Nat:=((List.range 1048576).find? (lg p)).getD 1048576
def AL(p:hx)(k:Nat):Prop:=k≤1048576∧(∀i,i<k→lg p i=false)∧(k<1048576→lg p k=true)
theorem wu{p:hx}(h:AL p k):lk p=k:=by
 unfold lk;obtain⟨E,o,z⟩:=h;by_cases r:k<1048576
 ·rw[List.find?_range_eq_some.2 ⟨z r,List.mem_range.2 r,fun j A=>by rw[o j A];rfl⟩];rfl
 have:(List.range 1048576).find? (lg p)=none:=by
  rw[List.find?_eq_none];intro x D;rw[List.mem_range]at D;rw[o x (by omega)];decide
 rw[this];show 1048576=k;omega
structure hx.ru (p:hx):Prop where
 inc:1≤p.inc∧p.inc≤2147483648
 ih:1≤p.ih∧p.ih≤4294967296
 quot:p.quot≤1099511627776
 cap:p.cap≤1099511627776
 floor:p.floor<p.cap
theorem wx{p:hx}(o:pN p=true)(r:(o1 p).all id=true):p.ru:=by
 unfold pN at o;rw[Bool.and_eq_true]at o;have o:=o.1;simp[nO,wi]at o;simp[o1,wi]at r;exact⟨by omega,by omega,by omega,by omega,by omega⟩
theorem qv{A:Nat}(o:a≤A)(r:b≤B):a*b≤A*B:=Nat.mul_le_mul o r
theorem AM(p:hx)(o:p.ru)(g i:Nat)(R:i<1048576)(w:World)(G:ha w g 24 p.cs)(b:Bool)(I:b=lg p i):
 Calls prog 79 #[int i64 i,.pointer (some ⟨g,0,none⟩)] w fun e w'=>e= .returned (.bool b)∧Below w.heap.size w w':=by
 have S:=G.all;have E:=qv o.inc.2 o.ih.2;have F:(i+1)*(i+2)≤1048577*1048577:=qv (by omega) (by omega);obtain⟨a,r⟩:=hk (p.inc*p.ih);obtain⟨t,A⟩:=hk (i+1);obtain⟨t',D⟩:=hk (i+2);obtain⟨c,z⟩:=hk (t*t');obtain⟨d,J⟩:=hk (2*p.quot);obtain⟨f,K⟩:=hk (p.cap-p.floor);have T:u64.wrap ((p.inc:Int)*(p.ih:Int))=(a:Int):=by
  rw[show(p.inc:Int)*(p.ih:Int)=(a:Int) by rw[r];exact(Int.natCast_mul _ _).symm];exact IntWalk.u64_in _ (by rw[←r]at E;omega)
 have U:u64.wrap ((i:Int)+1)=(t:Int):=(IntWalk.u64_in _ (by omega)).trans (by omega);have V:u64.wrap ((t:Int)+1)=(t':Int):=(IntWalk.u64_in _ (by omega)).trans (by omega);have X:u64.wrap ((t:Int)*(t':Int))=(c:Int):=by
  rw[show(t:Int)*(t':Int)=(c:Int) by rw[z];exact(Int.natCast_mul _ _).symm];exact IntWalk.u64_in _ (by rw[←A,←D,←z]at F;omega)
 have Y:u64.wrap (2*(p.quot:Int))=(d:Int):=(IntWalk.u64_in _ (by have:=o.quot;omega)).trans (by omega);have Z:u64.wrap ((p.cap:Int) -(p.floor:Int))=(f:Int):=(IntWalk.u64_in _ (by have:=o.cap;have:=o.floor;omega)).trans (by have:=o.floor;omega);have aa:u64.wrap (i:Int)=(i:Int):=IntWalk.u64_in _ (by omega);have O:=g' (fun W=>tT a c d f (by rw[←r]at E;omega) (by rw[←A,←D,←z]at F;omega) (by have:=o.quot;omega) (by have:=o.cap;omega) W (!b) (by rw[I,lg,Bool.not_not,r,z,A,D,J,K]));clear r A D z J K E F I o G;go_enter func79,ntmps79;go_wp2_with fail;refine hI (O _) fun ab Q=>?_;go_wp2;go_ret;exact⟨by simp,Q⟩
theorem AN(p:hx)(K:p.ru)(g:Nat)(w:World)(O:ha w g 24 p.cs):
 Calls prog 81 #[int i64 1048576,.func (.func 79) #[] #[.pointer (some ⟨g,0,none⟩)]] w fun e w'=>e= .returned (int i64 (lk p:Nat))∧Below w.heap.size w w':=by
 obtain⟨Y,Z⟩:=hg (fun W (h:Below w.heap.size w W)=>O.to h) K;clear O K;go_enter func81,ntmps81;go_wp2;go_loopw [5,6] (fun E s6 wr=>∃r o:Nat,E=int i64 r∧s6=int i64 o∧r≤o∧o≤1048576∧(∀i,i<r→lg p i=false)∧(o<1048576→lg p o=true)∧Below w.heap.size w wr) (fun E s6 _=>(intOf s6-intOf E).toNat)
 case atStart=>exact⟨0,1048576,rfl,rfl,by omega,by omega,fun i o=>by omega,fun h=>by omega,hz⟩
 case round=>
  obtain⟨A,rfl⟩:∃A:World,A=wr:=⟨_,rfl⟩;obtain⟨r,o,rfl,rfl,ae,Q,R,S,z⟩:=hrel;obtain⟨F,G⟩:=hg R S;clear R S;by_cases T:r<o
  ·have aa:=hZ T
   obtain⟨m,ab⟩:=hk ((r+o)/2);have af:u64.wrap ((r:Int)+(o:Int))=(r:Int)+(o:Int):=IntWalk.u64_in _ (by omega);have ag:((r:Int)+(o:Int))/2=(m:Int):=by omega
   have ac:r≤m:=by omega
   have ah:m<o:=by omega
   clear ab;obtain⟨b,I⟩:=hk (lg p m);obtain⟨U,D⟩:=hg (AM p Z g m (by omega) A (Y A z) b I) I;clear I;go_wp2_with fail;refine U.mono ?_;rintro e ai ⟨rfl,V⟩;have X:=z.trans (V.mono z.size);clear V U z;cases b
   ·have J:=g' (show∀i,i<m+1→lg p i=false from fun i o=>by
     by_cases h:lg p i=true
     ·exact absurd (AK (show i≤m by omega) h) (by rw[←D.out];decide)
     simpa using h)
    clear D;go_wp2;exact⟨⟨m+1,o,by go_num,rfl,by omega,Q,J,G,X⟩,by simp[intOf];omega⟩
   have J:=g' (show m<1048576→lg p m=true from fun _=>D.symm);clear D;go_wp2;exact⟨⟨r,m,rfl,rfl,ac,by omega,F,J,X⟩,by simp[intOf];omega⟩
  have aa:=h1 T;obtain rfl:r=o:=by omega
  have ad:=g' (wu (p:=p) ⟨Q,F,G⟩);clear F G;go_wp2;go_ret;exact⟨by rw[ad.out];rfl,z⟩
theorem wy(p:hx):lk p≤1048576:=by
 unfold lk;cases h:(List.range 1048576).find? (lg p)with
 |none=>exact hj
 |some k=>
  have:=List.mem_of_find?_eq_some h;rw[List.mem_range]at this;show k≤1048576;omega
theorem AO(p:hx)(r:p.ru)(w:World)(t:Nat)(z:t=lk p+1):
 Calls prog 46 #[.agg p.cs] w fun e w'=>e= .returned (int i64 t)∧Below w.heap.size w w':=by
 have o:Below w.heap.size w (w.alloc (.cells p.cs 24)):=hz.alloc hj _;have A:=g' (AN p r w.heap.size _ (ha.new w _ _ _ rfl));have F:=wy p;generalize lk p=k at*;subst z;go_enter func46,ntmps46;go_wp2_with fail;refine A.mono ?_;rintro e G ⟨rfl,D⟩;have E:=o.trans (D.mono o.size);go_wp2;go_ret;exact⟨by go_num,E⟩
def iG(p:hx):Bool:=pN p&&(o1 p).all id&&(qu p).all id&&decide (lk p+1≤1048576)&&decide (p.ih*(lk p+1)≤p.ig)
def lU(p:hx):Int:=if iG p=true then 0 else 70
theorem lV{p:hx}(h:iG p=true):lU p=0:=by unfold lU;rw[if_pos h]
theorem pW{p:hx}(h:iG p=false):lU p=70:=by unfold lU;rw[if_neg (by rw[h];decide)]
theorem k4(p:hx)(w:World)(z:Int)(J:z=lU p):
 Calls prog 23 #[.agg p.cs] w fun e w'=>e= .returned (int i64 z)∧Below w.heap.size w w':=by
 obtain⟨Z,an,D,O⟩:=iF w p.cs 24;have Q:=g' an;clear an;obtain⟨ao,ah⟩:=hk (pN p);obtain⟨ap,ai⟩:=hk ((o1 p).all id);obtain⟨aq,aj⟩:=hk ((qu p).all id);obtain⟨V,X,aa⟩:=hs ah ai aj;have G:iG p=(ao&&ap&&aq&&decide (lk p+1≤1048576)&&decide (p.ih*(lk p+1)≤p.ig)):=by rw[ah,ai,aj];rfl
 clear ah ai aj;cases ao
 ·obtain rfl:z=70:=by rw[J];exact pW (by rw[G];rfl)
  clear J G X aa;go_enter func23,ntmps23;go_wp2_with (refine hR (ha.new w _ _ _ rfl) hQ lR rfl rfl rfl rfl ?_);rw[Q.out];refine hI (q' p Z _ V) fun S o=>?_;have A:=O.to o;have r:=D.trans (o.mono D.size);clear O o D Q;go_wp2;go_ret;exact⟨rfl,r⟩
 cases ap
 ·obtain rfl:z=70:=by rw[J];exact pW (by rw[G];rfl)
  clear J G aa;go_enter func23,ntmps23;go_wp2_with (refine hR (ha.new w _ _ _ rfl) hQ lR rfl rfl rfl rfl ?_);rw[Q.out];refine hI (q' p Z _ V) fun S o=>?_;have A:=O.to o;have r:=D.trans (o.mono D.size);clear O o D Q;go_wp2_with (refine iv A hQ lR rfl rfl rfl rfl ?_);refine hI (sh p S _ X) fun Y E=>?_;have I:=A.to E;have F:=r.trans (E.mono r.size);clear A E r;go_wp2;go_ret;exact⟨rfl,F⟩
 cases aq
 ·obtain rfl:z=70:=by rw[J];exact pW (by rw[G];rfl)
  clear J G;go_enter func23,ntmps23;go_wp2_with (refine hR (ha.new w _ _ _ rfl) hQ lR rfl rfl rfl rfl ?_);rw[Q.out];refine hI (q' p Z _ V) fun S o=>?_;have A:=O.to o;have r:=D.trans (o.mono D.size);clear O o D Q;go_wp2_with (refine iv A hQ lR rfl rfl rfl rfl ?_);refine hI (sh p S _ X) fun Y E=>?_;have I:=A.to E;have F:=r.trans (E.mono r.size);clear A E r;go_wp2_with (refine iv I hQ lR rfl rfl rfl rfl ?_);refine hI (tF p Y _ aa) fun ac K=>?_;have T:=I.to K;have R:=F.trans (K.mono F.size);clear I K F;go_wp2;go_ret;exact⟨rfl,R⟩
 have ad:=wx V.symm X.symm;have ar:=wy p;obtain⟨t,ae⟩:=hk (lk p+1);have au:=g' (fun W=>AO p ad W t ae);have ak:p.ih*t≤4294967296*1048577:=qv ad.ih.2 (by omega);obtain⟨x,ab⟩:=hk (p.ih*t);have aB:u64.wrap ((p.ih:Int)*(t:Int))=(x:Int):=by
  rw[show(p.ih:Int)*(t:Int)=(x:Int) by rw[ab];exact(Int.natCast_mul _ _).symm];exact IntWalk.u64_in _ (by rw[←ab]at ak;omega)
 have aC:u64.wrap (t:Int)=(t:Int):=IntWalk.u64_in _ (by omega);rw[←ae,←ab]at G;by_cases af:t≤1048576
 ·have ax:decide ((1048576:Int)<(t:Int))=false:=by simp;omega
  have av:∀W,ha W w.heap.size 24 p.cs→W.cell? ⟨w.heap.size,11,none⟩=some (int u64 p.ig):=fun W h=>h.cell rfl;have aw:∀W,ha W w.heap.size 24 p.cs→W.cell? ⟨w.heap.size,6,none⟩=some (int u64 p.ih):=fun W h=>h.cell rfl;obtain⟨ay,az⟩:=hg av aw;clear av aw;by_cases ag:x≤p.ig;focus
   have aA:decide (p.ig<x)=false:=by simpa using ag
   obtain rfl:z=0:=by rw[J];exact lV (by rw[G];simp[af,ag])
  rotate_left;focus
   have aA:decide (p.ig<x)=true:=by simp;omega
   obtain rfl:z=70:=by rw[J];exact pW (by rw[G];simp[ag])
  all_goals
   clear J G ae ab af ag ad ak ar;go_enter func23,ntmps23;go_wp2_with (refine hR (ha.new w _ _ _ rfl) hQ lR rfl rfl rfl rfl ?_);rw[Q.out];refine hI (q' p Z _ V) fun S o=>?_;have A:=O.to o;have r:=D.trans (o.mono D.size);clear O o D Q;go_wp2_with (refine iv A hQ lR rfl rfl rfl rfl ?_);refine hI (sh p S _ X) fun Y E=>?_;have I:=A.to E;have F:=r.trans (E.mono r.size);clear A E r;go_wp2_with (refine iv I hQ lR rfl rfl rfl rfl ?_);refine hI (tF p Y _ aa) fun ac K=>?_;have T:=I.to K;have R:=F.trans (K.mono F.size);clear I K F;go_wp2_with (refine hR T hQ lR rfl rfl rfl rfl ?_);refine hI (au ac) fun al U=>?_;have am:=R.trans (U.mono R.size);have aD:=ay.out al (T.to U);have aE:=az.out al (T.to U);clear U R T;go_wp2;go_ret;exact⟨rfl,am⟩
 have ax:decide ((1048576:Int)<(t:Int))=true:=by simp;omega
 obtain rfl:z=70:=by rw[J];exact pW (by rw[G];simp[af])
 clear J G ae ab af ad ak ar;go_enter func23,ntmps23;go_wp2_with (refine hR (ha.new w _ _ _ rfl) hQ lR rfl rfl rfl rfl ?_);rw[Q.out];refine hI (q' p Z _ V) fun S o=>?_;have A:=O.to o;have r:=D.trans (o.mono D.size);clear O o D Q;go_wp2_with (refine iv A hQ lR rfl rfl rfl rfl ?_);refine hI (sh p S _ X) fun Y E=>?_;have I:=A.to E;have F:=r.trans (E.mono r.size);clear A E r;go_wp2_with (refine iv I hQ lR rfl rfl rfl rfl ?_);refine hI (tF p Y _ aa) fun ac K=>?_;have T:=I.to K;have R:=F.trans (K.mono F.size);clear I K F;go_wp2_with (refine hR T hQ lR rfl rfl rfl rfl ?_);refine hI (au ac) fun al U=>?_;have am:=R.trans (U.mono R.size);clear U R T;go_wp2;go_ret;exact⟨rfl,am⟩
theorem wz:(prog.info? 217).map (·.size)=some 24:=by kernel_rfl
theorem wA(p:hx):(prog.info? 24).map (·.size)=some p.cs.toList.length:=by kernel_rfl
structure hx.jd (p:hx):Prop where
 lH:p.ru
 ix:p.inc≤p.ix∧p.ix≤p.cap
 floor:p.inc≤p.floor
 up:p.inc≤p.up∧p.up≤1099511627776
 down:p.down≤1099511627776
 iS:1≤p.iS∧p.iS≤p.quot
 iR:p.iR≤4294967296
 recover:p.recover≤4294967296
 ig:p.ig≤72057594037927936
 iT:p.iT≤4294967296
 iU:p.iU≤1099511627776
 iV:0≤p.iV∧p.iV≤1000
 wait:0≤p.wait∧p.wait≤50
 iK:0≤p.iK∧p.iK≤1000
 iW:1≤p.iW∧p.iW≤1000
 ic:0≤p.ic∧p.ic≤64
 iE:0≤p.iE∧p.iE≤1000
 iN:0≤p.iN∧p.iN≤10000
 iI:0≤p.iI∧p.iI≤10000
 iO:0≤p.iO∧p.iO≤10000
 iy:1≤p.iy∧p.iy≤64
theorem j6{p:hx}(h:iG p=true):p.jd:=by
 unfold iG at h;rw[Bool.and_eq_true,Bool.and_eq_true,Bool.and_eq_true,Bool.and_eq_true]at h;obtain⟨⟨⟨⟨o,r⟩,z⟩,_⟩,_⟩:=h;have A:=wx o r;unfold pN at o;rw[Bool.and_eq_true]at o;have o:=o.1;simp[nO,wi]at o;simp[o1,wi]at r;simp[qu,wi]at z;refine⟨A,?_,?_,?_,?_,?_,?_,?_,?_,?_,?_,?_,?_,?_,?_,?_,?_,?_,?_,?_,?_⟩<;>omega
def lI(p:hx)(b:Nat):Nat:=min (b-b%p.inc) p.ix
def su(p:hx)(e b:Nat):Bool:=(decide (b+p.down<18446744073709551616)&&decide (b+p.down<e))||(decide (e+p.up<18446744073709551616)&&decide (e+p.up<b))
def o6(p:hx)(e b:Nat):Nat:=if su p e b=true then lI p b else e
theorem sv(p:hx)(X:iG p=true)(w:World):
 Calls prog 155 #[.agg p.cs] w fun e w'=>e= .returned (.tuple #[.agg p.cs,.bool true])∧Below w.heap.size w w':=by
 have A:Below w.heap.size w (w.alloc (.cells p.cs 24)):=hz.alloc hj _;have R:ha (w.alloc (.cells p.cs 24)) w.heap.size 24 p.cs:=ha.new w _ _ _ rfl;have Y:=g' (show lU p=0 from lV X);obtain⟨r,z⟩:=ho ((w.alloc (.cells p.cs 24)).alloc (.cells sd 217));have S:ha r w.heap.size 24 p.cs:=by rw[←z];exact R.alloc _
 have T:ha r (w.heap.size+1) 217 sd:=by rw[←z];exact ha.new _ _ _ _ (by simp)
 have Z:Below w.heap.size w r:=by rw[←z];exact A.alloc A.size _
 obtain⟨U,V⟩:=hg S T;clear R A S T;go_enter func155,ntmps155;go_upto_region 1 with(fail)
 clear z;refine j8 (fun w'=>ha w' w.heap.size 24 p.cs∧Below (w.heap.size+1) r w') (by kernel_rfl) (by rintro _ _ (_|_) _ _ h<;>exact h) ⟨U,hz.drew⟩ fun D o=>?_;refine jn D 3 [0,1,2] o (by kernel_rfl) ?_;refine q9 (.agg p.cs.toList.toArray) rfl (yieldsIf_load_mid (by rfl) 24 (.tmp 1) rfl w.heap.size 0 rfl p.cs.toList _ (fun w' E j v F=>by rw[Nat.zero_add];exact E.1.cell (by simpa using F)) hQ rfl (wA p)) ?_;(try simp only[S4,S3])
 refine q9 (.agg p.cs) rfl (Or.inl ⟨by rfl,fun w' _=>by kernel_rfl⟩) ?_;(try simp only[S4,S3])
 refine q9 (.agg p.cs.toList.toArray) rfl (yieldsIf_load_mid (by rfl) 24 (.tmp 1) rfl w.heap.size 0 rfl p.cs.toList _ (fun w' E j v F=>by rw[Nat.zero_add];exact E.1.cell (by simpa using F)) hQ rfl (wA p)) ?_;(try simp only[S4,S3])
 refine il ?_;refine iD 3 rfl (by kernel_rfl) fun K G=>?_;(try simp only[S3])
 go_simp;refine hI (k4 p _ 0 Y.symm) fun I aa=>?_;have J:Below r.heap.size r I:=hJ hM aa;have O:=V.to J;refine G.out _ _ ⟨U.to J,J.mono (by have:=V.lt;omega)⟩ (fun o=>?_);(try simp only[S4,S3])
 refine jn D 1 [4] o (by kernel_rfl) ?_;iterate 1(refine iu rfl rfl (fun w' ab=>by try simp only[S3];go_simp;try rfl) ?_;try simp only[S4,S3])
 refine il ?_;refine iD 5 rfl (by kernel_rfl) fun K G=>?_;rw[if_pos (by rfl)];refine wp_store_row 217 (.tmp 2) (.tmp 5) rfl (w.heap.size+1) p.cs rfl rfl 217 (sd) O wz rfl (by kernel_rfl) ?_;have W:=O.row p.cs;have Q:=hn.row I (w.heap.size+1) p.cs;generalize I.setRow (w.heap.size+1) p.cs=ad at W Q⊢;refine G.out _ _ ⟨o.1.hT Q (by omega),iC o.2 Q hj (Nat.le_of_lt O.lt)⟩ (fun o=>?_);try simp only[Act.put,List.getElem_toArray,List.getElem_cons_zero,List.getElem_cons_succ]
 refine jn D 1 [6] o (by kernel_rfl) ?_;iterate 1(refine iu rfl rfl (fun w' ab=>by try simp only[S3];go_simp;try rfl) ?_;try simp only[S4,S3])
 refine il ?_;have ac:=o.2;clear o;refine wpAnyH_done (by kernel_rfl) ?_ _;go_wp2;exact bodyPost_ret (v:= .tuple #[.agg p.cs,.bool true]) (jy results155 _ _ _ _ _ _ _ rfl rfl W pX rfl wz) rfl ⟨rfl,Z.trans (ac.mono (by omega))⟩
theorem wB(p:hx)(G:1≤p.inc)(b r:Nat)(S:b<18446744073709551616)(o:r=lI p b)(w:World):
 Calls prog 156 #[.agg p.cs,int u64 b] w fun e w'=>e= .returned (int u64 r)∧Below w.heap.size w w':=by
 obtain⟨I,T,J,A⟩:=iF w p.cs 217;have D:I.cell? ⟨w.heap.size,0,none⟩=some (int u64 p.inc):=A.cell rfl;have E:I.cell? ⟨w.heap.size,1,none⟩=some (int u64 p.ix):=A.cell rfl;unfold lI at o;obtain⟨i,K⟩:=ho p.inc;obtain⟨m,O⟩:=ho p.ix;rw[K]at D G o;rw[O]at E o;have U:(i=0)=False:=by simp;omega
 obtain⟨x,z⟩:=ho (b%i);have V:(b:Int).tmod (i:Int)=(x:Int):=by rw[Int.tmod_eq_emod_of_nonneg (by omega),←z];rfl
 have W:x≤b:=by rw[←z];exact Nat.mod_le _ _
 rw[z]at o;obtain⟨y,Q⟩:=ho (b-x);have ds:u64.wrap ((b:Int) -(x:Int))=(y:Int):=(IntWalk.u64_in _ (by omega)).trans (by omega);rw[Q]at o;clear A K O z Q W G S;go_enter func156,ntmps156;go_upto_region 1 with(fail)
 clear T;refine j8 (fun w'=>w'.cell? ⟨w.heap.size,0,none⟩=some (int u64 i)∧w'.cell? ⟨w.heap.size,1,none⟩=some (int u64 m)) (by kernel_rfl) (by rintro _ _ (_|_) _ _ h<;>exact h) (⟨D,E⟩) fun X R=>?_;refine jn X 12 (i' 0 12 []) R (by kernel_rfl) ?_;iterate 12(refine iu rfl rfl (fun w' Y=>by try simp only[S3];go_simp;try rfl) ?_;try simp only[S4,S3])
 refine il ?_;clear R;refine wpAnyH_done (by kernel_rfl) ?_ _;clear ds V U D E;go_wp2
 ·have F:min y m=m:=by omega
  rw[F];go_ret;exact⟨rfl,J.drew⟩
 have F:min y m=y:=by omega
 rw[F];go_ret;exact⟨rfl,J.drew⟩
def lJ(a b:Nat):Nat×Int:=if a+b<18446744073709551616 then(a+b,0)else(0,10)
theorem sw(a b:Nat)(z:a<18446744073709551616)(A:b<18446744073709551616)(r:Nat×Int)(o:r=lJ a b)(w:World):
 Calls prog 85 #[int u64 a,int u64 b] w fun e w'=>e= .returned (.tuple #[int u64 r.1,int i64 r.2])∧w=w':=by
 unfold lJ at o;by_cases h:a+b<18446744073709551616
 ·rw[if_pos h]at o;subst o
  exact h0.mj a b _ rfl h w
 rw[if_neg h]at o;subst o;exact h0.pQ a b z A (by omega) w
theorem AP(a b:Nat):(lJ a b).1<18446744073709551616:=by unfold lJ;split<;>simp;omega
theorem AQ(p:hx)(r:p.up<18446744073709551616)(A:p.down<18446744073709551616)(f b:Nat)(J:f<18446744073709551616)(K:b<18446744073709551616)(x:Bool)(O:x=su p f b)(w:World):
 Calls prog 239 #[.agg p.cs,int u64 f,int u64 b] w fun e w'=>e= .returned (.bool x)∧Below w.heap.size w w':=by
 obtain⟨Q,ap,V,D⟩:=iF w p.cs 217;have X:Q.cell? ⟨w.heap.size,4,none⟩=some (int u64 p.up):=D.cell rfl;have Y:Q.cell? ⟨w.heap.size,5,none⟩=some (int u64 p.down):=D.cell rfl;obtain⟨u,E⟩:=ho p.up;obtain⟨d,F⟩:=ho p.down;have o:x=(((lJ b d).2==0)&&decide ((lJ b d).1<f)||((lJ f u).2==0)&&decide ((lJ f u).1<b)):=by
  rw[O];unfold su lJ;rw[E,F];by_cases Z:b+d<18446744073709551616<;>by_cases aa:f+u<18446744073709551616<;>simp[Z,aa]
 rw[E]at X r;rw[F]at Y A;obtain⟨R,G⟩:=hk (lJ b d);obtain⟨S,I⟩:=hk (lJ f u);obtain⟨T,U⟩:=hg (fun W=>sw b d K A R G W) (fun W=>sw f u J r S I W);rw[←G,←I]at o;clear G I O E F D r A J K;obtain⟨ab,ac⟩:=R;obtain⟨ad,ae⟩:=S;simp only at T U o;have af:=g' o;clear o;obtain⟨ag,ah⟩:=ho (ac==0);obtain⟨ai,aj⟩:=ho (decide (ab<f));obtain⟨ak,al⟩:=ho (ae==0);obtain⟨am,an⟩:=ho (decide (ad<b));cases ag<;>cases ai<;>cases ak<;>cases am<;>(
  obtain⟨z,ao⟩:=hk x;clear ao;go_enter func239,ntmps239;go_wp2_with fail;refine hE (T _) ?_;go_wp2_with fail;refine hE (U _) ?_;go_wp2;go_ret;exact⟨by rw[af.out,ah,aj,al,an];rfl,V⟩)
theorem AR(p:hx)(b:Nat)(o:b<18446744073709551616):lI p b<18446744073709551616:=by unfold lI;omega
theorem mq(p:hx):p.cs.all (·.oneCell')=true:=by kernel_rfl
theorem jb(p:hx):(prog.info? 24).map (·.size)=some p.cs.size:=by kernel_rfl
theorem mM(p:hx):(prog.info? 217).map (·.size)=some p.cs.size:=by kernel_rfl
theorem wC(p:hx)(A:p.jd)(f b:Nat)(I:f<18446744073709551616)(D:b<18446744073709551616)(r:Nat)(o:r=o6 p f b)(w:World):
 Calls prog 198 #[.agg p.cs,int u64 f,int u64 b] w fun e w'=>e= .returned (int u64 r)∧Below w.heap.size w w':=by
 have J:Below w.heap.size w (w.alloc (.cells p.cs 217)):=hz.alloc hj _;have K:ha (w.alloc (.cells p.cs 217)) w.heap.size 217 p.cs:=ha.new w _ _ _ rfl;obtain⟨x,E⟩:=hk (su p f b);obtain⟨O,R,F⟩:=hs (fun W=>AQ p (by have:=A.up;omega) (by have:=A.down;omega) f b I D x E W) (fun W=>wB p (by have:=A.lH.inc;omega) b _ D rfl W) K;unfold o6 at o;rw[←E]at o;clear K I D A E;cases x
 ·rw[if_neg (by decide)]at o
  subst o;go_enter func198,ntmps198;go_wp2_with (refine hR F pX (mM p) rfl rfl rfl rfl ?_);go_wp2_with fail;refine hI (O _) fun S z=>?_;have G:=hJ J z;clear z;go_wp2;go_ret;exact⟨rfl,G⟩
 rw[if_pos rfl]at o;subst o;generalize lI p b=v at*;go_enter func198,ntmps198;go_wp2_with (refine hR F pX (mM p) rfl rfl rfl rfl ?_);go_wp2_with fail;refine hI (O _) fun S z=>?_;have G:=hJ J z;have T:=g' (F.to z);clear z;go_wp2_with (refine hR T pX (mM p) rfl rfl rfl rfl ?_);go_wp2_with fail;refine hI (R _) fun V Q=>?_;have U:=hJ G Q;clear Q;go_wp2;go_ret;exact⟨rfl,U⟩
theorem tX(p:hx)(o:iG p=true)(b:Nat)(z:b<18446744073709551616)(r:Nat)(A:r=lI p b)(w:World):
 Calls prog 84 #[.agg p.cs,int u64 b] w fun e w'=>e= .returned (int u64 r)∧Below w.heap.size w w':=by
 have O:Below w.heap.size w (w.alloc (.cells p.cs 24)):=hz.alloc hj _;have D:ha (w.alloc (.cells p.cs 24)) w.heap.size 24 p.cs:=ha.new w _ _ _ rfl;obtain⟨Q,R⟩:=hg (fun W=>sv p o W) D;have E:=j6 o;have S:=g' (fun W=>wB p (by have:=E.lH.inc;omega) b _ z A W);clear D o z A E;go_enter func84,ntmps84;go_wp2_with (refine hR R hQ (jb p) rfl rfl rfl rfl ?_);go_wp2_with fail;refine hI (Q _) fun X F=>?_;have G:=hJ O F;clear F;go_wp2_with (refine jD rfl 217 (.tmp 5) (.tmp 10) rfl p.cs rfl rfl (mM p) rfl (mq p) ?_);intro Y I J Z;have T:=G.trans (J.mono G.size);have U:=g' I;clear I J;go_wp2_with (refine hR U pX (mM p) rfl rfl rfl rfl ?_);go_wp2_with fail;refine hI (S _) fun aa K=>?_;have V:=hJ T K;clear K;go_wp2;go_ret;exact⟨rfl,V⟩
theorem AS(p:hx)(o:iG p=true)(f b:Nat)(z:f<18446744073709551616)(A:b<18446744073709551616)(r:Nat)(D:r=o6 p f b)(w:World):
 Calls prog 130 #[.agg p.cs,int u64 f,int u64 b] w fun e w'=>e= .returned (int u64 r)∧Below w.heap.size w w':=by
 have Q:Below w.heap.size w (w.alloc (.cells p.cs 24)):=hz.alloc hj _;have E:ha (w.alloc (.cells p.cs 24)) w.heap.size 24 p.cs:=ha.new w _ _ _ rfl;obtain⟨R,S⟩:=hg (fun W=>sv p o W) E;have F:=j6 o;have T:=g' (fun W=>wC p F f b z A _ D W);clear E o z A D F;go_enter func130,ntmps130;go_wp2_with (refine hR S hQ (jb p) rfl rfl rfl rfl ?_);go_wp2_with fail;refine hI (R _) fun Y G=>?_;have I:=hJ Q G;clear G;go_wp2_with (refine jD rfl 217 (.tmp 7) (.tmp 12) rfl p.cs rfl rfl (mM p) rfl (mq p) ?_);intro Z J K aa;have U:=I.trans (K.mono I.size);have V:=g' J;clear J K;go_wp2_with (refine hR V pX (mM p) rfl rfl rfl rfl ?_);go_wp2_with fail;refine hI (T _) fun ab O=>?_;have X:=hJ U O;clear O;go_wp2;go_ret;exact⟨rfl,X⟩
theorem AT(p:hx)(o:iG p=true)(b:Nat)(r:b<18446744073709551616)(g l:Nat)(z:g=min b p.cap)(A:l=b-g)(w:World):
 Calls prog 127 #[.agg p.cs,int u64 b] w fun e w'=>e= .returned (.tuple #[int u64 g,int u64 l])∧Below w.heap.size w w':=by
 have K:Below w.heap.size w (w.alloc (.cells p.cs 24)):=hz.alloc hj _;have D:ha (w.alloc (.cells p.cs 24)) w.heap.size 24 p.cs:=ha.new w _ _ _ rfl;obtain⟨O,Q⟩:=hg (fun W=>sv p o W) D;have E:=j6 o;have R:=g' (fun W=>tV b p.cap r (by have:=E.lH.cap;omega) W g l z A);clear D o r z A E;go_enter func127,ntmps127;go_wp2_with (refine hR Q hQ (jb p) rfl rfl rfl rfl ?_);go_wp2_with fail;refine hI (O _) fun S F=>?_;have G:=hJ K F;clear F;go_wp2_with (refine jD rfl 217 (.tmp 6) (.tmp 11) rfl p.cs rfl rfl (mM p) rfl (mq p) ?_);intro T I J X;have U:=G.trans (J.mono G.size);have V:=g' I;clear I J;have Y:T.cell? ⟨S.heap.size,3,none⟩=some (int u64 p.cap):=V.cell rfl;go_wp2_with fail;refine hE (R _) ?_;go_wp2;go_ret2;exact⟨rfl,U⟩
def rv(p:hx)(f b:Nat):Bool:=decide (p.inc≤f)&&decide (f≤p.ix)&&decide (f%p.inc=0)&&decide (o6 p f b=f)
theorem wD(p:hx)(R:iG p=true)(f b:Nat)(ah:f<18446744073709551616)(ai:b<18446744073709551616)(z:Bool)(o:z=rv p f b)(w:World):
 Calls prog 131 #[.agg p.cs,int u64 f,int u64 b] w fun e w'=>e= .returned (.bool z)∧Below w.heap.size w w':=by
 have S:Below w.heap.size w (w.alloc (.cells p.cs 24)):=hz.alloc hj _;have aj:ha (w.alloc (.cells p.cs 24)) w.heap.size 24 p.cs:=ha.new w _ _ _ rfl;obtain⟨T,U⟩:=hg (fun W=>sv p R W) aj;have V:=j6 R;have ak:=V.lH.inc.1;obtain⟨r,X⟩:=hk (o6 p f b);have ap:=g' (fun W=>wC p V f b ah ai r X W);unfold rv at o;rw[←X]at o;obtain⟨i,Y⟩:=ho p.inc;obtain⟨m,Z⟩:=ho p.ix;have aa:Hid (p.cs[0]?=some (int u64 i)):=g' (by rw[←Y];rfl);have ab:Hid (p.cs[1]?=some (int u64 m)):=g' (by rw[←Z];rfl);rw[Y]at o ak;rw[Z]at o;have ar:(i=0)=False:=by simp;omega
 obtain⟨x,ac⟩:=ho (f%i);have au:(f:Int).tmod (i:Int)=(x:Int):=by rw[Int.tmod_eq_emod_of_nonneg (by omega),←ac];rfl
 rw[ac]at o;clear Y Z ac ak aj R ah ai V X;by_cases K:i≤f;focus
  have ad:=hZ K;by_cases O:f≤m
  ·have ae:=hZ O
   by_cases af:x=0
   ·subst af
    by_cases ag:r=f;focus
     subst ag;obtain rfl:z=true:=by rw[o,ad,ae];simp
     clear o K O
    rotate_left;focus
     have av:((r:Int)==(f:Int))=false:=by rw[beq_eq_false_iff_ne];omega
     obtain rfl:z=false:=by rw[o];simp[ag]
     clear o K O ag
    all_goals
     go_enter func131,ntmps131;go_wp2_with (refine hR U hQ (jb p) rfl rfl rfl rfl ?_);go_wp2_with fail;refine hI (T _) fun D E=>?_;have F:=hJ S E;clear E;go_wp2_with (refine jD rfl 217 (.tmp 7) (.tmp 12) rfl p.cs rfl rfl (mM p) rfl (mq p) ?_);intro G I J al;have Q:=F.trans (J.mono F.size);have A:=g' I;clear I J;have am:G.cell? ⟨D.heap.size,0,none⟩=some (int u64 i):=A.cell aa;have an:G.cell? ⟨D.heap.size,1,none⟩=some (int u64 m):=A.cell ab;go_wp2_with (refine iv A pX (mM p) (by rfl) rfl rfl rfl ?_);go_wp2_with fail;refine hI (ap _) fun aw ao=>?_;have aq:=hJ Q ao;clear ao;go_wp2;go_ret;exact⟨rfl,aq⟩
   have ax:((x:Int)==0)=false:=by rw[beq_eq_false_iff_ne];omega
   obtain rfl:z=false:=by rw[o];simp[af]
   clear o K O af;go_enter func131,ntmps131;go_wp2_with (refine hR U hQ (jb p) rfl rfl rfl rfl ?_);go_wp2_with fail;refine hI (T _) fun D E=>?_;have F:=hJ S E;clear E;go_wp2_with (refine jD rfl 217 (.tmp 7) (.tmp 12) rfl p.cs rfl rfl (mM p) rfl (mq p) ?_);intro G I J al;have Q:=F.trans (J.mono F.size);have A:=g' I;clear I J;have am:G.cell? ⟨D.heap.size,0,none⟩=some (int u64 i):=A.cell aa;have an:G.cell? ⟨D.heap.size,1,none⟩=some (int u64 m):=A.cell ab;go_wp2;go_ret;exact⟨rfl,Q⟩
  have ae:=h1 O;obtain rfl:z=false:=by rw[o,ae];simp
  clear o K O
 rotate_left;focus
  have ad:=h1 K;obtain rfl:z=false:=by rw[o,ad];simp
  clear o K
 rotate_left;all_goals
  go_enter func131,ntmps131;go_wp2_with (refine hR U hQ (jb p) rfl rfl rfl rfl ?_);go_wp2_with fail;refine hI (T _) fun D E=>?_;have F:=hJ S E;clear E;go_wp2_with (refine jD rfl 217 (.tmp 7) (.tmp 12) rfl p.cs rfl rfl (mM p) rfl (mq p) ?_);intro G I J al;have Q:=F.trans (J.mono F.size);have A:=g' I;clear I J;have am:G.cell? ⟨D.heap.size,0,none⟩=some (int u64 i):=A.cell aa;have an:G.cell? ⟨D.heap.size,1,none⟩=some (int u64 m):=A.cell ab;go_wp2;go_ret;exact⟨rfl,Q⟩
end hB
namespace gZ
section
variable {P:Program} {ops:Array Oper} {Q:Exit→Act→World→Prop} {md:Region.Mode} {S:World→Prop} {s:Nat}
def k5(P:Program)(md:Region.Mode)(ops:Array Oper)(Q:Exit→Act→World→Prop)(S:World→Prop)(s:Nat):Nat→Array Bool→Act→World→Prop
 |0,L,a,w=>Region.ready md ops L=[]∧Q .normal a w
 |n+1,L,a,w=>(Region.ready md ops L=[]→Q .normal a w)∧
   ∀i∈Region.ready md ops L,wpOp P ops Q i (fun o w'=>(i=s→wpAny P md ops Q n (L.setIfInBounds i true) o w')∧(i≠s→S w'∧k5 P md ops Q S s n (L.setIfInBounds i true) o w')) a w
theorem wE:∀(n:Nat) (L:Array Bool) (a:Act) (w:World),k5 P md ops Q S s n L a w→wpAny P md ops Q n L a w
 |0,_,_,_,h=>h
 |n+1,L,_,_,h=>⟨h.1,fun i r=>wpOp_mono (fun z w' k=>by
   by_cases o:i=s
   ·exact k.1 o
   exact wE n _ z w' (k.2 o).2) (h.2 i r)⟩
def waits(md:Region.Mode)(ops:Array Oper)(j i:Nat):Bool:=match ops[j]? with
 |some o=>o.after.any fun e=>Region.binds md e&&e.on==i
 |none=>false
theorem wF(h:waits md ops j i=true):∃o,ops[j]?=some o∧∃e∈o.after,Region.binds md e=true∧e.on=i:=by
 unfold waits at h;split at h
 ·rename_i o z
  obtain⟨k,A,r⟩:=Array.any_eq_true.1 h;rw[Bool.and_eq_true]at r;exact⟨o,z,o.after[k],Array.getElem_mem A,r.1,by simpa using r.2⟩
 cases h
def Down(md:Region.Mode)(ops:Array Oper)(L:Array Bool):Prop:=∀j i,L.getD j false=true→waits md ops j i=true→L.getD i false=true
def chain(md:Region.Mode)(ops:Array Oper):List Nat→Nat→Bool
 |[],_=>false
 |[j],i=>waits md ops j i
 |j::k::r,i=>waits md ops j k&&chain md ops (k::r) i
theorem tZ{L:Array Bool}(r:j∈Region.ready md ops L)(h:waits md ops j i=true):L.getD i false=true:=by
 obtain⟨_,o,z,A⟩:=mem_ready.1 r;obtain⟨o',D,e,E,F,rfl⟩:=wF h;obtain rfl:o=o':=Option.some.inj (z.symm.trans D);exact A e E F
theorem wG{L:Array Bool}(o:Down md ops L):∀(r:List Nat) (j i:Nat),L.getD j false=true→chain md ops (j::r) i=true→L.getD i false=true
 |[],j,i,h,hc=>o j i h hc
 |k::r,j,i,h,hc=>by
   unfold chain at hc;rw[Bool.and_eq_true]at hc;exact wG o r k i (o j k h hc.1) hc.2
theorem AU{L:Array Bool}(A:Down md ops L){r:List Nat}(z:j∈Region.ready md ops L)(o:chain md ops (j::r) i=true):L.getD i false=true:=by
 cases r with
 |nil=>exact tZ z o
 |cons k r=>
  unfold chain at o;rw[Bool.and_eq_true]at o;exact wG A r k i (tZ z o.1) o.2
theorem wH{L:Array Bool}(A:Down md ops L)(D:j∈Region.ready md ops L):Down md ops (L.setIfInBounds j true):=by
 intro k i o r;by_cases z:j=k
 ·subst z;exact getD_set_true (tZ D r)
 rw[getD_set_ne false z]at o;exact getD_set_true (A k i o r)
theorem AV{E:Oper}{v:Value}{r:List Nat}(R:ops[i]?=some E)(X:i≠s)(af:chain md ops (s::r) i=true)(Y:∀(j:Nat) (o:Oper) G b,ops[j]?=some o→o.op≠ .select G b)
 (ag:∀c a w,Q (.panic c) (a.put E.dst v) w→Q (.panic c) a w):
 ∀(n:Nat) (L:Array Bool) (a:Act) (w:World),Down md ops L→
  (∀j D,ops[j]?=some D→j≠i→L.getD j true=false→(∀e∈D.after,Region.binds md e=true→e.on≠i)→E.apart ops D=true)→
  i∈Region.ready md ops L→YieldsIf P ops S E v a→S w→
  k5 P md ops Q S s n (L.setIfInBounds i true) (a.put E.dst v) w→k5 P md ops Q S s (n+1) L a w:=by
 have Z:∀L:Array Bool,i∈Region.ready md ops L→L.getD i false=true→False:=fun L z J=>by
  have aa:=(mem_ready.1 z).1;rcases Nat.lt_or_ge i L.size with T|T
  ·simp[T]at aa J;rw[aa]at J;cases J
  simp[Array.getElem?_eq_none T]at J
 intro n;induction n with
 |zero=>
  intro L a w U _ z K I H;refine⟨fun h=>(by rw[h]at z;cases z),fun j F=>?_⟩;by_cases A:j=i
  ·subst A;exact K.wpOp R I ⟨fun e=>absurd e X,fun _=>⟨I,H⟩⟩
  have:=ready_mono F A;rw[H.1]at this;cases this
 |succ n ah=>
  intro L a w U ab z K I H;refine⟨fun h=>(by rw[h]at z;cases z),fun j F=>?_⟩;by_cases A:j=i
  ·subst A;exact K.wpOp R I ⟨fun e=>absurd e X,fun _=>⟨I,H⟩⟩
  by_cases V:j=s
  ·subst V;exact(Z L z (AU U F af)).elim
  have ai:=wpOp_mono (fun a w (k:(j=s→_)∧(j≠s→_))=>k.2 V) (H.2 j (ready_mono F A));obtain⟨ac,D,W,aj⟩:=mem_ready.1 F;have ak:∀e∈D.after,Region.binds md e=true→e.on≠i:=fun e al am an=>Z L z (an▸aj e al am);have ao:=wpOp_putIf W (ab j D W A ac ak) (fun G b=>Y i E G b R) (fun G b=>Y j D G b W) ag K ai;refine wpOp_mono (fun ap w' O=>⟨fun e=>absurd e V,fun _=>⟨O.2.1,ah (L.setIfInBounds j true) ap w' (wH U F) ?_ (ready_mono z (Ne.symm A)) O.1 O.2.1 ?_⟩⟩) ao
  ·intro k aq ar au ad av
   refine ab k aq ar au ?_ av;by_cases ae:j=k
   ·subst ae;exact ac
   rw[getD_set_ne true ae]at ad;exact ad
  rw[Array.setIfInBounds_comm _ _ A];exact O.2.2
def sx(md:Region.Mode)(ops:Array Oper)(L:Array Bool):Bool:=(List.range L.size).all fun j=> !L.getD j false||((ops[j]?).map fun o=>o.after.all fun e=> !Region.binds md e||L.getD e.on false).getD true
theorem wI{L:Array Bool}(h:sx md ops L=true):Down md ops L:=by
 intro j i A E;have F:j<L.size:=by
  rcases Nat.lt_or_ge j L.size with r|r
  ·exact r
  simp[Array.getElem?_eq_none r]at A
 have z:=List.all_eq_true.1 h j (List.mem_range.2 F);rw[A]at z;obtain⟨o,G,e,I,J,rfl⟩:=wF E;rw[G]at z;have D:=Array.all_eq_true_iff_forall_mem.1 z e I;rw[J]at D;simpa using D
theorem AW(i:Nat){o:Oper}(v:Value)(r:List Nat){L:Array Bool}{a:Act}(z:ops[i]?=some o)(A:(i !=s)=true)(D:chain md ops (s::r) i=true)(E:sx md ops L=true)
 (F:Region.noSelect ops=true) (G:Region.free md ops L i=true) (I:(Region.ready md ops L).contains i=true)
 (J:∀c a w,Q (.panic c) (a.put o.dst v) w→Q (.panic c) a w) (K:YieldsIf P ops S o v a) (O:S w)
 (h:k5 P md ops Q S s n (L.setIfInBounds i true) (a.put o.dst v) w):k5 P md ops Q S s (n+1) L a w:=
 AV z (by simpa using A) D (Region.noSelect_spec F) J n L a w (wI E) (Region.free_spec z G) (by simpa using I) K O h
def cB(md:Region.Mode)(ops:Array Oper)(s:Nat):List (Nat×List Nat)→Array Bool→Bool
 |[],_=>true
 |(i,p)::r,L=>(i !=s)&&(chain md ops (s::p) i&&(sx md ops L&&(Region.free md ops L i&&((Region.ready md ops L).contains i&&cB md ops s r (L.setIfInBounds i true)))))
theorem wJ(z:Region.noSelect ops=true)(A:∀c (a:Act) d v w,Q (.panic c) (a.put d v) w→Q (.panic c) a w)(D:S w):∀(r:List (Nat×List Nat)) (n:Nat) (L:Array Bool) (a:Act),cB md ops s r L=true→
 RT P ops S (r.map Prod.fst) L a (fun E F=>k5 P md ops Q S s n E F w)→k5 P md ops Q S s (n+r.length) L a w
 |[],_,_,_,_,h=>h
 |(i,p)::r,n,L,a,hb,⟨o,v,hi,hy,h⟩=>by
  unfold cB at hb;simp only[Bool.and_eq_true]at hb;obtain⟨G,I,J,K,O,R⟩:=hb;exact AW i v p hi G I J z K O (fun c a w=>A c a _ _ w) hy D (wJ z A D r n _ _ R h)
theorem ot(r:List (Nat×List Nat))(k:Nat)(o:r.length=k)(z:S w){L:Array Bool}{a:Act}(A:Region.noSelect ops=true)(D:∀c (a:Act) d v w,Q (.panic c) (a.put d v) w→Q (.panic c) a w)(E:cB md ops s r L=true)
 (h:RT P ops S (r.map Prod.fst) L a (fun F G=>k5 P md ops Q S s n F G w)):k5 P md ops Q S s (n+k) L a w:=o▸wJ A D z r n L a E h
theorem sy(i:Nat){o:Oper}{L:Array Bool}{a:Act}(F:ops[i]?=some o)(z:Region.ready md ops L=[i])(G:(i !=s)=true)
 (h:∀r:Act→World→Prop,Shut (∀a w,S w→(S w→k5 P md ops Q S s n (L.setIfInBounds i true) a w)→r a w)→if Region.wanted o (yielded ops a.tmps)=true then Oper.wp P o a w r Q else r (a.put o.dst undef) w):
 k5 P md ops Q S s (n+1) L a w:=
 ⟨fun A=>(by rw[z]at A;cases A),fun j D=>by
  rw[z]at D;obtain rfl:=List.mem_singleton.1 D;exact wpOp_step F fun r I=>h r fun a w E J=>I a w ⟨fun e=>absurd e (by simpa using G),fun _=>⟨E,J E⟩⟩⟩
theorem lh{o:Oper}{L:Array Bool}{a:Act}(E:ops[s]?=some o)(z:Region.ready md ops L=[s])
 (h:∀r:Act→World→Prop,Shut (∀a w,wpAny P md ops Q n (L.setIfInBounds s true) a w→r a w)→if Region.wanted o (yielded ops a.tmps)=true then Oper.wp P o a w r Q else r (a.put o.dst undef) w):
 k5 P md ops Q S s (n+1) L a w:=
 ⟨fun A=>(by rw[z]at A;cases A),fun j D=>by
  rw[z]at D;obtain rfl:=List.mem_singleton.1 D;exact wpOp_step E fun r F=>h r fun a w G=>F a w ⟨fun _=>G,fun e=>absurd rfl e⟩⟩
theorem pY{a:Act}(S:World→Prop)(s:Nat)(o:P.follows .mixedOrders=true)(r:S w.drew)
 (h:S w.drew→k5 P .any ops Q S s ops.size (Array.replicate ops.size false) a w.drew):(Code.region n ops true).wp P Q a w:=
 wp_region_any o (wE _ _ _ _ (h r))
end
def wK(ops:Array Oper):Nat→Nat→Nat→Option (List Nat)
 |0,s,i=>if waits .any ops s i then some []else none
 |n+1,s,i=>if waits .any ops s i then some []else(List.range ops.size).findSome? fun k=>if waits .any ops s k then(wK ops n k i).map (k::·)else none
def path(ops:Array Oper)(s i:Nat):List Nat:=((wK ops 3 s i).getD [])
section
variable {ops:Array Oper} {Q:Exit→Act→World→Prop} {S:World→Prop} {s:Nat}
theorem wL(f:Nat→List Nat):∀r:List Nat,(r.map fun i=>(i,f i)).map Prod.fst=r
 |[]=>rfl
 |i::r=>congrArg (i::·) (wL f r)
theorem rc{a:Act}(S:World→Prop)(s:Nat)(o:Region.noSelect ops=true)(r:∀c (a:Act) d v w,Q (.panic c) (a.put d v) w→Q (.panic c) a w)(z:S w.drew)
 (h:Rg ops Q→S w.drew→k5 prog .any ops Q S s ops.size (Array.replicate ops.size false) a w.drew):(Code.region n ops true).wp prog Q a w:=pY S s tD z (h ⟨o,r⟩)
theorem cq(z:Rg ops Q)(k:Nat)(r:List Nat)(A:S w){L:Array Bool}{a:Act}(o:(r.length==k&&cB .any ops s (r.map fun i=>(i,path ops s i)) L)=true)
 (h:RT prog ops S r L a (fun D E=>k5 prog .any ops Q S s n D E w)):k5 prog .any ops Q S s (n+k) L a w:=by
 rw[Bool.and_eq_true,beq_iff_eq]at o;exact ot (r.map fun i=>(i,path ops s i)) k (by rw[List.length_map];exact o.1) A z.1 z.2 o.2 (by rw[wL];exact h)
end
end gZ
namespace hB
open RowKit
open hG hf
def ry(p a:Nat):Bool:=decide (0<a)&&decide (2*a<3*p)
def rz(o:Int)(q:Bool):Int:=if q then 0 else min (max o 0) 1073741823+1
theorem AX(p:hx)(z:Int)(K: -9223372036854775808≤z∧z<9223372036854775808)(x a:Nat)(D:x<18446744073709551616)(E:a<18446744073709551616)(q:Bool)(F:q=ry x a)(c:Int)(o:c=rz z q)(w:World):
 Calls prog 102 #[.agg p.cs,int i64 z,int u64 x,int u64 a] w fun e w'=>e= .returned (.tuple #[int i64 c,.bool q])∧Below w.heap.size w w':=by
 have G:Below w.heap.size w (w.alloc (.cells p.cs 24)):=hz.alloc hj _;have H:=g' (fun W=>AF x a D E W q F);clear F D E;unfold rz at o;cases q
 ·simp only[Bool.false_eq_true,if_false]at o
  have I:=g' o;clear o;go_enter func102,ntmps102;go_wp2_with fail;refine hI (H _) fun J r=>?_;have A:=hJ G r;clear r;go_wp2;all_goals
   go_ret2;refine⟨?_,A⟩;have o:=I.out;simp;(repeat split at*)<;>omega
 simp only[if_true]at o;subst o;go_enter func102,ntmps102;go_wp2_with fail;refine hI (H _) fun J r=>?_;have A:=hJ G r;clear r;go_wp2;go_ret2;exact⟨rfl,A⟩
def sB(p:hx)(o:Int)(r:Bool):Int:=if r then 4 else if p.iV<o then 3 else if 0<o then 2 else 1
theorem AY(p:hx)(r:Int)(E:Bool)(m:Int)(o:m=sB p r E)(w:World):
 Calls prog 52 #[.agg p.cs,int i64 r,.bool E] w fun e w'=>e= .returned (int i64 m)∧Below w.heap.size w w':=by
 obtain⟨F,K,z,G⟩:=iF w p.cs 24;have O:F.cell? ⟨w.heap.size,14,none⟩=some (int i64 p.iV):=G.cell rfl;unfold sB at o;cases E
 ·simp only[Bool.false_eq_true,if_false]at o
  by_cases A:p.iV<r
  ·rw[if_pos A]at o;subst o
   have I:=hZ A;go_enter func52,ntmps52;go_wp2;go_ret;exact⟨rfl,z⟩
  rw[if_neg A]at o;have I:=h1 A;by_cases D:0<r
  ·rw[if_pos D]at o;subst o
   have J:=hZ D;go_enter func52,ntmps52;go_wp2;go_ret;exact⟨rfl,z⟩
  rw[if_neg D]at o;subst o;have J:=h1 D;go_enter func52,ntmps52;go_wp2;go_ret;exact⟨rfl,z⟩
 simp only[if_true]at o;subst o;go_enter func52,ntmps52;go_wp2;go_ret;exact⟨rfl,z⟩
def pZ(m:Int):Bool:=(m==3)||(m==4)
theorem AZ(m:Int)(b:Bool)(o:b=pZ m)(w:World):
 Calls prog 173 #[int i64 m] w fun e w'=>e= .returned (.bool b)∧w=w':=by
 unfold pZ at o;obtain⟨r,z⟩:=ho (m==3);obtain⟨A,D⟩:=ho (m==4);rw[z,D]at o;subst o;cases r<;>cases A<;>(
  go_enter func173,ntmps173;go_wp2;go_ret;exact⟨rfl,rfl⟩)
theorem lj{a:World}(h:hn g a w):hn g a w.drew:=⟨h.os,h.tape,h.output,h.size,h.block⟩
structure Std where
 (hD hP h9:Nat)
 str:Int
def Std.cs(s:Std):Array Value:= #[int u64 s.hD,int u64 s.hP,int u64 s.h9,int i64 s.str]
instance{s:Std}:hf.jP s.cs fun o r=>(∀j,o.frozen? ⟨r,j,none⟩=false)∧hf.hh o r 0 (int u64 s.hD)∧hf.hh o r 1 (int u64 s.hP)∧hf.hh o r 2 (int u64 s.h9)∧hf.hh o r 3 (int i64 s.str):=⟨fun h=>⟨h.frozen,hf.jX h⟩⟩
structure Std.jE (s:Std):Prop where
 hD:s.hD<18446744073709551616
 hP:s.hP<18446744073709551616
 h9:s.h9<18446744073709551616
 str: -9223372036854775808≤s.str∧s.str<9223372036854775808
def ir(s:Std)(p:hx):Array Value:= #[int u64 s.hD,int u64 s.hP,int u64 s.h9,int i64 s.str,int u64 p.inc,int u64 p.ix,int u64 p.floor,int u64 p.cap,int u64 p.up,int u64 p.down,int u64 p.ih,int u64 p.quot,int u64 p.iR,int u64 p.iS,int u64 p.recover,int u64 p.ig,int u64 p.iT,int u64 p.iU,int i64 p.iV,int i64 p.ic,int i64 p.iE,int i64 p.iN,int i64 p.iI,int i64 p.iy,int i64 p.wait,int i64 p.iW,int i64 p.iK,int i64 p.iO]
instance{s:Std}{p:hx}:hf.jP (ir s p) fun o r=>(∀j,o.frozen? ⟨r,j,none⟩=false)∧hf.hh o r 0 (int u64 s.hD)∧hf.hh o r 1 (int u64 s.hP)∧hf.hh o r 2 (int u64 s.h9)∧hf.hh o r 3 (int i64 s.str)∧hf.hh o r 4 (int u64 p.inc)∧hf.hh o r 5 (int u64 p.ix)∧hf.hh o r 6 (int u64 p.floor)∧hf.hh o r 7 (int u64 p.cap)∧hf.hh o r 8 (int u64 p.up)∧hf.hh o r 9 (int u64 p.down)∧hf.hh o r 10 (int u64 p.ih)∧hf.hh o r 11 (int u64 p.quot)∧hf.hh o r 12 (int u64 p.iR)∧hf.hh o r 13 (int u64 p.iS)∧hf.hh o r 14 (int u64 p.recover)∧hf.hh o r 15 (int u64 p.ig)∧hf.hh o r 16 (int u64 p.iT)∧hf.hh o r 17 (int u64 p.iU)∧hf.hh o r 18 (int i64 p.iV)∧hf.hh o r 19 (int i64 p.ic)∧hf.hh o r 20 (int i64 p.iE)∧hf.hh o r 21 (int i64 p.iN)∧hf.hh o r 22 (int i64 p.iI)∧hf.hh o r 23 (int i64 p.iy)∧hf.hh o r 24 (int i64 p.wait)∧hf.hh o r 25 (int i64 p.iW)∧hf.hh o r 26 (int i64 p.iK)∧hf.hh o r 27 (int i64 p.iO):=⟨fun h=>⟨h.frozen,hf.jX h⟩⟩
def j1(p:hx)(s:Std):Std:=⟨s.hD,s.hP,min s.h9 p.ig,min (max s.str 0) p.ic⟩
theorem tO(p:hx)(ab:0≤p.ic)(s:Std)(g:Nat)(w:World)(Z:ha w g 239 (ir s p)):
 Calls prog 197 #[.pointer (some ⟨g,0,none⟩)] w fun e w'=>e= .returned (.tuple #[])∧ha w' g 239 (ir (j1 p s) p)∧hn g w w':=by
 have U:=g' Z;obtain⟨A,D,z,r⟩:=s;by_cases ac:(p.ig:Int)<(z:Int);focus
  by_cases aa:r<0;focus
   have W:¬p.ic<0:=by omega
   have Q:=g' (show ir (j1 p ⟨A,D,z,r⟩) p=ir ⟨A,D,p.ig,0⟩ p by unfold j1;congr 2<;>simp only<;>omega)
  rotate_left;focus
   by_cases W:p.ic<r
   ·skip
    have Q:=g' (show ir (j1 p ⟨A,D,z,r⟩) p=ir ⟨A,D,p.ig,p.ic⟩ p by unfold j1;congr 2<;>simp only<;>omega);go_enter func197,ntmps197;go_upto_region 0 with(fail)
    refine gZ.rc (fun w'=>ha w' g 239 (ir ⟨A,D,z,r⟩ p)∧hn g w w') 15 (by kernel_rfl) (by rintro _ _ (_|_) _ _ h<;>exact h) (⟨U.drew,lj (hn.refl _ _)⟩) fun J o=>?_;refine gZ.cq J 15 (i' 0 15 []) o (by kernel_rfl) ?_;iterate 15(refine iu rfl rfl (fun w' O=>by try simp only[S3];have X:=O.1.all;go_simp;try rfl) ?_;try simp only[S4,S3])
    refine il ?_;have R:=o.1.all;have S:=o.1.frozen 2;have E:ha ((w.setCell ⟨g,2,none⟩ (int u64 p.ig)).drew) g 239 ((ir ⟨A,D,z,r⟩ p).setIfInBounds 2 (int u64 p.ig)):=o.1.set 2 _;have F:hn g w ((w.setCell ⟨g,2,none⟩ (int u64 p.ig)).drew):=o.2.setCell (p:=⟨g,2,none⟩) (.inl rfl) _;refine gZ.lh rfl (by kernel_rfl) (fun K I=>?_);(try simp only[S3])
    go_simp;refine I.out _ _ ?_;refine wpAny_done (by kernel_rfl) ?_ _;generalize(w.setCell ⟨g,2,none⟩ (int u64 p.ig)).drew=G at E F⊢;have T:=g' E;go_upto_region 1 with(fail)
    refine gZ.rc (fun w'=>ha w' g 239 (ir ⟨A,D,p.ig,r⟩ p)∧hn g w w') 16 (by kernel_rfl) (by rintro _ _ (_|_) _ _ h<;>exact h) (⟨T.drew,lj F⟩) fun J o=>?_;refine gZ.cq J 16 (i' 0 16 []) o (by kernel_rfl) ?_;iterate 16(refine iu rfl rfl (fun w' O=>by try simp only[S3];have Y:=O.1.all;go_simp;try rfl) ?_;try simp only[S4,S3])
    refine il ?_;have R:=o.1.all;have S:=o.1.frozen 3;have E:ha ((G.setCell ⟨g,3,none⟩ (int i64 p.ic)).drew) g 239 ((ir ⟨A,D,p.ig,r⟩ p).setIfInBounds 3 (int i64 p.ic)):=o.1.set 3 _;have F:hn g w ((G.setCell ⟨g,3,none⟩ (int i64 p.ic)).drew):=o.2.setCell (p:=⟨g,3,none⟩) (.inl rfl) _;refine gZ.lh rfl (by kernel_rfl) (fun K I=>?_);(try simp only[S3])
    go_simp;refine I.out _ _ ?_;refine wpAny_done (by kernel_rfl) ?_ _;generalize(G.setCell ⟨g,3,none⟩ (int i64 p.ic)).drew=V at E F⊢;go_wp2;go_end0;exact⟨rfl,by rw[Q.out];exact E,F⟩
   skip;have Q:=g' (show ir (j1 p ⟨A,D,z,r⟩) p=ir ⟨A,D,p.ig,r⟩ p by unfold j1;congr 2<;>simp only<;>omega)
  rotate_left;all_goals
   go_enter func197,ntmps197;go_upto_region 0 with(fail)
   refine gZ.rc (fun w'=>ha w' g 239 (ir ⟨A,D,z,r⟩ p)∧hn g w w') 15 (by kernel_rfl) (by rintro _ _ (_|_) _ _ h<;>exact h) (⟨U.drew,lj (hn.refl _ _)⟩) fun J o=>?_;refine gZ.cq J 15 (i' 0 15 []) o (by kernel_rfl) ?_;iterate 15(refine iu rfl rfl (fun w' O=>by try simp only[S3];have X:=O.1.all;go_simp;try rfl) ?_;try simp only[S4,S3])
   refine il ?_;have R:=o.1.all;have S:=o.1.frozen 2;have E:ha ((w.setCell ⟨g,2,none⟩ (int u64 p.ig)).drew) g 239 ((ir ⟨A,D,z,r⟩ p).setIfInBounds 2 (int u64 p.ig)):=o.1.set 2 _;have F:hn g w ((w.setCell ⟨g,2,none⟩ (int u64 p.ig)).drew):=o.2.setCell (p:=⟨g,2,none⟩) (.inl rfl) _;refine gZ.lh rfl (by kernel_rfl) (fun K I=>?_);(try simp only[S3])
   go_simp;refine I.out _ _ ?_;refine wpAny_done (by kernel_rfl) ?_ _;generalize(w.setCell ⟨g,2,none⟩ (int u64 p.ig)).drew=G at E F⊢;have T:=g' E;go_upto_region 1 with(fail)
   refine gZ.rc (fun w'=>ha w' g 239 (ir ⟨A,D,p.ig,r⟩ p)∧hn g w w') 16 (by kernel_rfl) (by rintro _ _ (_|_) _ _ h<;>exact h) (⟨T.drew,lj F⟩) fun J o=>?_;refine gZ.cq J 16 (i' 0 16 []) o (by kernel_rfl) ?_;iterate 16(refine iu rfl rfl (fun w' O=>by try simp only[S3];have Y:=O.1.all;go_simp;try rfl) ?_;try simp only[S4,S3])
   refine il ?_;have R:=o.1.all;have S:=o.1.frozen 3
  ·have E:ha ((G.setCell ⟨g,3,none⟩ (int i64 0)).drew) g 239 ((ir ⟨A,D,p.ig,r⟩ p).setIfInBounds 3 (int i64 0)):=o.1.set 3 _
   have F:hn g w ((G.setCell ⟨g,3,none⟩ (int i64 0)).drew):=o.2.setCell (p:=⟨g,3,none⟩) (.inl rfl) _;refine gZ.lh rfl (by kernel_rfl) (fun K I=>?_);(try simp only[S3])
   go_simp;refine I.out _ _ ?_;refine wpAny_done (by kernel_rfl) ?_ _;generalize(G.setCell ⟨g,3,none⟩ (int i64 0)).drew=V at E F⊢;go_wp2;go_end0;exact⟨rfl,by rw[Q.out];exact E,F⟩
  have E:ha ((G.setCell ⟨g,3,none⟩ (int i64 r)).drew) g 239 ((ir ⟨A,D,p.ig,r⟩ p).setIfInBounds 3 (int i64 r)):=o.1.set 3 _
 rotate_left;focus
  by_cases aa:r<0;focus
   have W:¬p.ic<0:=by omega
   have Q:=g' (show ir (j1 p ⟨A,D,z,r⟩) p=ir ⟨A,D,z,0⟩ p by unfold j1;congr 2<;>simp only<;>omega)
  rotate_left;focus
   by_cases W:p.ic<r
   ·skip
    have Q:=g' (show ir (j1 p ⟨A,D,z,r⟩) p=ir ⟨A,D,z,p.ic⟩ p by unfold j1;congr 2<;>simp only<;>omega);go_enter func197,ntmps197;go_upto_region 0 with(fail)
    refine gZ.rc (fun w'=>ha w' g 239 (ir ⟨A,D,z,r⟩ p)∧hn g w w') 15 (by kernel_rfl) (by rintro _ _ (_|_) _ _ h<;>exact h) (⟨U.drew,lj (hn.refl _ _)⟩) fun J o=>?_;refine gZ.cq J 15 (i' 0 15 []) o (by kernel_rfl) ?_;iterate 15(refine iu rfl rfl (fun w' O=>by try simp only[S3];have X:=O.1.all;go_simp;try rfl) ?_;try simp only[S4,S3])
    refine il ?_;have R:=o.1.all;have S:=o.1.frozen 2;have E:ha ((w.setCell ⟨g,2,none⟩ (int u64 z)).drew) g 239 ((ir ⟨A,D,z,r⟩ p).setIfInBounds 2 (int u64 z)):=o.1.set 2 _;have F:hn g w ((w.setCell ⟨g,2,none⟩ (int u64 z)).drew):=o.2.setCell (p:=⟨g,2,none⟩) (.inl rfl) _;refine gZ.lh rfl (by kernel_rfl) (fun K I=>?_);(try simp only[S3])
    go_simp;refine I.out _ _ ?_;refine wpAny_done (by kernel_rfl) ?_ _;generalize(w.setCell ⟨g,2,none⟩ (int u64 z)).drew=G at E F⊢;have T:=g' E;go_upto_region 1 with(fail)
    refine gZ.rc (fun w'=>ha w' g 239 (ir ⟨A,D,z,r⟩ p)∧hn g w w') 16 (by kernel_rfl) (by rintro _ _ (_|_) _ _ h<;>exact h) (⟨T.drew,lj F⟩) fun J o=>?_;refine gZ.cq J 16 (i' 0 16 []) o (by kernel_rfl) ?_;iterate 16(refine iu rfl rfl (fun w' O=>by try simp only[S3];have Y:=O.1.all;go_simp;try rfl) ?_;try simp only[S4,S3])
    refine il ?_;have R:=o.1.all;have S:=o.1.frozen 3;have E:ha ((G.setCell ⟨g,3,none⟩ (int i64 p.ic)).drew) g 239 ((ir ⟨A,D,z,r⟩ p).setIfInBounds 3 (int i64 p.ic)):=o.1.set 3 _;have F:hn g w ((G.setCell ⟨g,3,none⟩ (int i64 p.ic)).drew):=o.2.setCell (p:=⟨g,3,none⟩) (.inl rfl) _;refine gZ.lh rfl (by kernel_rfl) (fun K I=>?_);(try simp only[S3])
    go_simp;refine I.out _ _ ?_;refine wpAny_done (by kernel_rfl) ?_ _;generalize(G.setCell ⟨g,3,none⟩ (int i64 p.ic)).drew=V at E F⊢;go_wp2;go_end0;exact⟨rfl,by rw[Q.out];exact E,F⟩
   skip;have Q:=g' (show ir (j1 p ⟨A,D,z,r⟩) p=ir ⟨A,D,z,r⟩ p by unfold j1;congr 2<;>simp only<;>omega)
  rotate_left;all_goals
   go_enter func197,ntmps197;go_upto_region 0 with(fail)
   refine gZ.rc (fun w'=>ha w' g 239 (ir ⟨A,D,z,r⟩ p)∧hn g w w') 15 (by kernel_rfl) (by rintro _ _ (_|_) _ _ h<;>exact h) (⟨U.drew,lj (hn.refl _ _)⟩) fun J o=>?_;refine gZ.cq J 15 (i' 0 15 []) o (by kernel_rfl) ?_;iterate 15(refine iu rfl rfl (fun w' O=>by try simp only[S3];have X:=O.1.all;go_simp;try rfl) ?_;try simp only[S4,S3])
   refine il ?_;have R:=o.1.all;have S:=o.1.frozen 2;have E:ha ((w.setCell ⟨g,2,none⟩ (int u64 z)).drew) g 239 ((ir ⟨A,D,z,r⟩ p).setIfInBounds 2 (int u64 z)):=o.1.set 2 _;have F:hn g w ((w.setCell ⟨g,2,none⟩ (int u64 z)).drew):=o.2.setCell (p:=⟨g,2,none⟩) (.inl rfl) _;refine gZ.lh rfl (by kernel_rfl) (fun K I=>?_);(try simp only[S3])
   go_simp;refine I.out _ _ ?_;refine wpAny_done (by kernel_rfl) ?_ _;generalize(w.setCell ⟨g,2,none⟩ (int u64 z)).drew=G at E F⊢;have T:=g' E;go_upto_region 1 with(fail)
   refine gZ.rc (fun w'=>ha w' g 239 (ir ⟨A,D,z,r⟩ p)∧hn g w w') 16 (by kernel_rfl) (by rintro _ _ (_|_) _ _ h<;>exact h) (⟨T.drew,lj F⟩) fun J o=>?_;refine gZ.cq J 16 (i' 0 16 []) o (by kernel_rfl) ?_;iterate 16(refine iu rfl rfl (fun w' O=>by try simp only[S3];have Y:=O.1.all;go_simp;try rfl) ?_;try simp only[S4,S3])
   refine il ?_;have R:=o.1.all;have S:=o.1.frozen 3
  ·have E:ha ((G.setCell ⟨g,3,none⟩ (int i64 0)).drew) g 239 ((ir ⟨A,D,z,r⟩ p).setIfInBounds 3 (int i64 0)):=o.1.set 3 _
   have F:hn g w ((G.setCell ⟨g,3,none⟩ (int i64 0)).drew):=o.2.setCell (p:=⟨g,3,none⟩) (.inl rfl) _;refine gZ.lh rfl (by kernel_rfl) (fun K I=>?_);(try simp only[S3])
   go_simp;refine I.out _ _ ?_;refine wpAny_done (by kernel_rfl) ?_ _;generalize(G.setCell ⟨g,3,none⟩ (int i64 0)).drew=V at E F⊢;go_wp2;go_end0;exact⟨rfl,by rw[Q.out];exact E,F⟩
  have E:ha ((G.setCell ⟨g,3,none⟩ (int i64 r)).drew) g 239 ((ir ⟨A,D,z,r⟩ p).setIfInBounds 3 (int i64 r)):=o.1.set 3 _
 rotate_left;all_goals
  have F:hn g w ((G.setCell ⟨g,3,none⟩ (int i64 r)).drew):=o.2.setCell (p:=⟨g,3,none⟩) (.inl rfl) _;refine gZ.lh rfl (by kernel_rfl) (fun K I=>?_);(try simp only[S3])
  go_simp;refine I.out _ _ ?_;refine wpAny_done (by kernel_rfl) ?_ _;generalize(G.setCell ⟨g,3,none⟩ (int i64 r)).drew=V at E F⊢;go_wp2;go_end0;exact⟨rfl,by rw[Q.out];exact E,F⟩
end hB
end Go.Proofs.YtffbipddbnkdjaaGreat
