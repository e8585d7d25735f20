/- What functions compute at any arguments, and plain facts: The walks of the supply, fifth part: Holds; Check, Get, Set; the document's Get and Right; the awakening of layer 6; The walks of the pool, fifth part: Insert at the end, Owe and others. Conditions: those that each theorem names. -/
import Derived.Test.YtffbipddbnkdjaaGreatZ05
set_option maxRecDepth 100000
set_option maxHeartbeats 40000000
set_option linter.all false
open Go Go.Proofs.Tryz
open Go.Value(int)
open Go.IntKind(i64 u64)
variable{A T:Option Addr}{n g b L k B i x a m j q c p s r d h u N y:Nat}{E z:Int}{P:Program}{w W X Z:World}{e t:TypeId}{f:Nat→Value}{l:List Bool}{V U:Value}{Y:List Nat}{S:List Value}{R:List Int}{Q:Array Value}{O:List (List Nat)}{M:Bool}{K:Ending}{J:Addr}{I:Nat→Nat}{H:Option Nat}
namespace Go.Proofs.YtffbipddbnkdjaaGreat
namespace hC
open RowKit
open hG hf kd h0 hU
theorem ox:(prog.info? 46).map (·.size)=some 41:=by kernel_rfl
def iH(us:List Nat):Nat:=sm us us.length
def St.nU(s:St):Nat:=iH (s.ms.map Mem.hD)+iH s.us+iH (kh s.ds [])+iH (kh [] s.es)+s.hN
def o9(s:St):Bool:=decide (s.hX≤4611686018427387904∧s.gen+s.hO≤s.hX∧s.nU+s.h7=s.gen+s.hO)
theorem mw{us:List Nat}{r:Nat×Int}(h:lS us r):(r.2=0∧r.1=iH us∧iH us<18446744073709551616)∨(r.2=10∧r.1=0∧18446744073709551616≤iH us):=by
 unfold lS at h;unfold iH;split at h
 ·subst h;exact .inl ⟨rfl,rfl,by omega⟩
 subst h;exact .inr ⟨rfl,rfl,by omega⟩
theorem oy(us:List Nat):∃r,lS us r:=⟨_,rfl⟩
theorem sK(a b:Nat):iH [a,b]=a+b:=by simp[iH,sm,un]
theorem xd(a b c:Nat):iH [a,b,c]=a+b+c:=by simp[iH,sm,un]
theorem By(a b c d t:Nat):iH [a,b,c,d,t]=a+b+c+d+t:=by simp[iH,sm,un]
theorem xe(r:a<18446744073709551616)(z:b<18446744073709551616):Wd [a,b]:=fun x o=>by
 simp at o;rcases o with rfl|rfl<;>omega
theorem Bz(r:a<18446744073709551616)(z:b<18446744073709551616)(A:c<18446744073709551616):Wd [a,b,c]:=fun x o=>by
 simp at o;rcases o with rfl|rfl|rfl<;>omega
theorem BA{t:Nat}(r:a<18446744073709551616)(z:b<18446744073709551616)(A:c<18446744073709551616)(D:d<18446744073709551616)(E:t<18446744073709551616):Wd [a,b,c,d,t]:=fun x o=>by
 simp at o;rcases o with rfl|rfl|rfl|rfl|rfl<;>omega
theorem xf(o a b:Nat)(w:World)(F:a<18446744073709551616)(G:b<18446744073709551616)(J:o<18446744073709551616)(x:Bool)(I:x=decide (a+b≤o)):
 Calls prog 167 #[int u64 o,.slice (some ⟨w.heap.size,0,none⟩) 2 2] (w.alloc (.cells #[int u64 a,int u64 b] 22)) fun e w'=>e= .returned (.bool x)∧w.alloc (.cells #[int u64 a,int u64 b] 22)=w':=by
 obtain⟨r,A⟩:=oy [a,b];refine w8 _ 2 2 (w.heap.size+1) o [a,b] _ (sI w [a,b] (xe F G) _ rfl 2 rfl _ _ _ rfl (by omega)) (by omega) r A x ?_;rw[I];rcases mw A with⟨z,D,E⟩|⟨z,D,E⟩
 ·rw[z,D,sK];simp
 rw[z];rw[sK]at E;simp;omega
theorem xg(o a b c:Nat)(w:World)(F:a<18446744073709551616)(G:b<18446744073709551616)(I:c<18446744073709551616)(K:o<18446744073709551616)(x:Bool)(J:x=decide (a+b+c≤o)):
 Calls prog 167 #[int u64 o,.slice (some ⟨w.heap.size,0,none⟩) 3 3] (w.alloc (.cells #[int u64 a,int u64 b,int u64 c] 22)) fun e w'=>e= .returned (.bool x)∧w.alloc (.cells #[int u64 a,int u64 b,int u64 c] 22)=w':=by
 obtain⟨r,A⟩:=oy [a,b,c];refine w8 _ 3 3 (w.heap.size+1) o [a,b,c] _ (sI w [a,b,c] (Bz F G I) _ rfl 3 rfl _ _ _ rfl (by omega)) (by omega) r A x ?_;rw[J];rcases mw A with⟨z,D,E⟩|⟨z,D,E⟩
 ·rw[z,D,xd];simp
 rw[z];rw[xd]at E;simp;omega
theorem xh(f g:Int)(w:World)(x:Bool)(o:x=decide (f=0∧g=0)):
 Calls prog 169 #[.slice (some ⟨w.heap.size,0,none⟩) 2 2] (w.alloc (.cells #[int i64 f,int i64 g] 50)) fun e w'=>e= .returned (.bool x)∧w.alloc (.cells #[int i64 f,int i64 g] 50)=w':=
 qB _ 2 2 (w.heap.size+1) [f,g] _ rfl (xb w [f,g] _ rfl 2 rfl _ _ _ rfl (by omega)) (by omega) x (by rw[o];simp)
theorem BB(s:St)(E:s.Ok)(w:World)(h:s.At w w.heap.size)(aQ:s.ow)(x:Bool)(F:x=o9 s):
 Calls prog 101 #[.agg s.cs] w fun e w'=>e= .returned (.bool x)∧Below w.heap.size w w':=by
 obtain⟨a,Z⟩:=oy (s.ms.map Mem.hD);obtain⟨b,aa⟩:=oy s.us;obtain⟨c,ab⟩:=oy (kh s.ds []);obtain⟨d,ac⟩:=oy (kh [] s.es);obtain⟨ay,az,R,ad⟩:=iF w s.cs 46;obtain⟨ae,aR⟩:=hg az (h.to R);have bw:w.heap.size<ay.heap.size:=by rw[←az];simp
 clear az h;have aS:(prog.info? 46).map (·.size)=some s.cs.size:=by rw[E.size];exact ox
 have aT:=g' aS;clear aS;have ao:=g' (show s.nU=iH (s.ms.map Mem.hD)+iH s.us+iH (kh s.ds [])+iH (kh [] s.es)+s.hN from rfl);have aU:=E.w9;have aV:=E.xa;have aW:=E.ud;have aX:=E.hX;have aY:=E.gen;have aZ:=E.hO;have bg:=E.h7;have bh:=E.hN;by_cases af:a.2=0∧b.2=0∧c.2=0∧d.2=0;focus
  have ap:=g' (xc s E ay aR.out aQ a b c d ⟨Z,aa,ab,ac⟩ true (by simpa using af));obtain⟨a0,a1,a2,a3⟩:=af;have aA:a.1=iH (s.ms.map Mem.hD)∧a.1<18446744073709551616:=by rcases mw Z with⟨A,z,D⟩|⟨A,z,D⟩<;>omega
  have aB:b.1=iH s.us∧b.1<18446744073709551616:=by rcases mw aa with⟨A,z,D⟩|⟨A,z,D⟩<;>omega
  have aC:c.1=iH (kh s.ds [])∧c.1<18446744073709551616:=by rcases mw ab with⟨A,z,D⟩|⟨A,z,D⟩<;>omega
  have aD:d.1=iH (kh [] s.es)∧d.1<18446744073709551616:=by rcases mw ac with⟨A,z,D⟩|⟨A,z,D⟩<;>omega
  obtain⟨G,bx⟩:=a;obtain⟨I,bz⟩:=b;obtain⟨J,bA⟩:=c;obtain⟨K,bB⟩:=d;simp only at aA aB aC aD a0 a1 a2 a3;have a4:s.nU=G+I+J+K+s.hN:=by have:=ao.out;omega
  have aE:=g' a4;obtain⟨r,aF⟩:=oy [G,I,J,K,s.hN];have a5:=g' (Bn G I J K s.hN (BA aA.2 aB.2 aC.2 aD.2 bh) r aF);have aG:=mw aF;rw[By]at aG;have aH:=g' aG;clear Z aa ab ac a0 a1 a2 a3 aA aB aC aD aF aG a4 ao;have bC:=g' F;unfold o9 at F;by_cases aI:s.hX≤4611686018427387904
  ·have bi:decide (4611686018427387904<(s.hX:Int))=false:=by simp;omega
   by_cases aJ:s.gen+s.hO≤s.hX;focus
    have aK:=g' (fun W=>xf s.hX s.gen s.hO W aY aZ aX true (by simp;omega));have a6:=g' F;clear F
   rotate_left;focus
    have aK:=g' (fun W=>xf s.hX s.gen s.hO W aY aZ aX false (by simp;omega));obtain rfl:x=false:=by rw[F];simp;omega
    clear F aJ
   rotate_left;all_goals
    go_enter func101,ntmps101;go_wp2_with (refine pK rfl 46 (.tmp 1) rfl w.heap.size rfl 46 s.cs _ (ha.new w _ _ _ rfl) iX rfl aT.out ?_);rw[ae.out];refine ap.out.mono ?_;rintro e O ⟨rfl,o⟩;go_wp2_with (refine ob rfl 230 (.tmp 3) (.tmp 13) rfl O.heap.size (lW G I J K s.hN) rfl rfl 230 _ (ha.new O _ _ _ rfl) o8 rfl (rD ..) ?_);intro aq ar Q ag _;have S:=Q w.heap.size w (by have:=o.size;omega) ((R.trans (o.mono R.size)).alloc (by have:=o.size;omega) _);have T:=ag _ _ _ (by have:=o.size;omega) ((ad.to o).alloc _);have a7:=T.cell aU;have a8:=T.cell aV;have a9:=T.cell aW;clear ae o ad Q ag;go_wp2_with fail;refine(aK.out aq).mono ?_;rintro e w' ⟨rfl,rfl⟩;have ah:=S.alloc S.size (.cells #[int u64 s.gen,int u64 s.hO] 22)
   ·have aL:=T.alloc (.cells #[int u64 s.gen,int u64 s.hO] 22)
    have aM:=ar.alloc (.cells #[int u64 s.gen,int u64 s.hO] 22);obtain⟨bj,aN⟩:=ho (aq.alloc (.cells #[int u64 s.gen,int u64 s.hO] 22));rw[aN]at ah aL aM;have a':=g' aN;clear aN a7 a8 a9 T ar S aK ap;go_wp2_with (refine pK rfl 230 (.tmp 3) rfl O.heap.size rfl 230 (lW G I J K s.hN) _ (by rw[a'.out];exact aM) underlying230 rfl o8 ?_);rw[a'.out];refine(a5.out bj).mono ?_;rintro e X ⟨rfl,ba⟩;have ai:=ah.trans (ba.mono ah.size);have aO:=aL.to ba;have a8:=aO.cell aV;have a9:=aO.cell aW;have bD:=aO.cell E.sJ;obtain⟨U,bb⟩:=r;obtain⟨aj,bk⟩:=hg aJ aI;have ak:Hid (x=decide (s.nU+s.h7=s.gen+s.hO)):=g' (by
     rw[a6.out,decide_eq_decide];have:=bk.out;have:=aj.out;omega)
    clear aL aM ah a5 a6 aJ;rcases aH.out with⟨A,z,D⟩|⟨A,z,D⟩
    ·have bc:=g' z
     have au:U<18446744073709551616:=by simp only at z;omega
     obtain rfl:bb=0:=A;clear z D aH;by_cases bd:U+s.h7<18446744073709551616
     ·obtain⟨al,aP⟩:=hk (U+s.h7)
      obtain⟨V,Y⟩:=hk (s.gen+s.hO);obtain⟨am,an,bl,bm⟩:=h5 (mj U s.h7 al aP (by omega) X) (mj s.gen s.hO V Y (by have:=aj.out;omega) X) aP Y;have av:Hid (x=decide (al=V)):=g' (by
       rw[ak.out,decide_eq_decide,aE.out,bl.out,bm.out,show U=G+I+J+K+s.hN from bc.out])
      clear bd aP Y;go_wp2_with fail;refine am.out.mono ?_;rintro e w' ⟨rfl,rfl⟩;go_wp2_with fail;refine an.out.mono ?_;rintro e w' ⟨rfl,rfl⟩;have aw:=ai.alloc ai.size (.cells #[int i64 0,int i64 0] 50);clear am an;go_wp2_with fail;refine(xh 0 0 X true (by simp)).mono ?_;rintro e w' ⟨rfl,rfl⟩;by_cases ax:al=V
      ·obtain rfl:x=true:=by rw[av.out];simp[ax]
       have bn:((al:Int)==(V:Int))=true:=by simp;omega
       clear ax av ak;go_wp2;go_ret;exact⟨rfl,aw⟩
      obtain rfl:x=false:=by rw[av.out];simp[ax]
      have bn:((al:Int)==(V:Int))=false:=by rw[beq_eq_false_iff_ne];omega
      clear ax av ak;go_wp2;go_ret;exact⟨rfl,aw⟩
     obtain⟨V,Y⟩:=hk (s.gen+s.hO);obtain⟨am,an⟩:=hg (pQ U s.h7 au bg (by omega) X) (mj s.gen s.hO V Y (by have:=aj.out;omega) X);obtain rfl:x=false:=by
      rw[ak.out,decide_eq_false_iff_not,aE.out];have:=aj.out;have:=show U=G+I+J+K+s.hN from bc.out;omega
     clear bd Y;go_wp2_with fail;refine am.out.mono ?_;rintro e w' ⟨rfl,rfl⟩;go_wp2_with fail;refine an.out.mono ?_;rintro e w' ⟨rfl,rfl⟩;have aw:=ai.alloc ai.size (.cells #[int i64 10,int i64 0] 50);clear am an;go_wp2_with fail;refine(xh 10 0 X false (by simp)).mono ?_;rintro e w' ⟨rfl,rfl⟩;go_wp2;go_ret;exact⟨rfl,aw⟩
    obtain rfl:bb=10:=A;obtain rfl:x=false:=by
     rw[ak.out,decide_eq_false_iff_not,aE.out];have:=aj.out;omega
    clear z D aH;go_wp2;go_ret;exact⟨rfl,ai⟩
   go_wp2;go_ret;exact⟨rfl,ah⟩
  have bi:decide (4611686018427387904<(s.hX:Int))=true:=by simp;omega
  obtain rfl:x=false:=by rw[F];simp[aI]
  clear F aI
 rotate_left;focus
  have ap:=g' (xc s E ay aR.out aQ a b c d ⟨Z,aa,ab,ac⟩ false (by simpa using af));have bo:18446744073709551616≤s.nU:=by
   rw[ao.out];rcases mw Z with⟨A,z,D⟩|⟨A,z,D⟩
   ·rcases mw aa with⟨au,bp,bq⟩|⟨au,bp,bq⟩
    ·rcases mw ab with⟨be,br,bt⟩|⟨be,br,bt⟩
     ·rcases mw ac with⟨bf,bu,bv⟩|⟨bf,bu,bv⟩
      ·exact absurd ⟨A,au,be,bf⟩ af
      omega
     omega
    omega
   omega
  obtain rfl:x=false:=by
   rw[F];unfold o9;rw[decide_eq_false_iff_not];omega
  clear af ao F bo
 rotate_left;all_goals
  go_enter func101,ntmps101;go_wp2_with (refine pK rfl 46 (.tmp 1) rfl w.heap.size rfl 46 s.cs _ (ha.new w _ _ _ rfl) iX rfl aT.out ?_);rw[ae.out];refine ap.out.mono ?_;rintro e O ⟨rfl,o⟩
 ·go_wp2_with (refine ob rfl 230 (.tmp 3) (.tmp 13) rfl O.heap.size (lW G I J K s.hN) rfl rfl 230 _ (ha.new O _ _ _ rfl) o8 rfl (rD ..) ?_)
  intro aq ar Q ag _;have S:=Q w.heap.size w (by have:=o.size;omega) ((R.trans (o.mono R.size)).alloc (by have:=o.size;omega) _);have T:=ag _ _ _ (by have:=o.size;omega) ((ad.to o).alloc _);have a7:=T.cell aU;clear ae o ad Q ag;go_wp2;go_ret;exact⟨rfl,S⟩
 go_wp2_with (refine ob rfl 230 (.tmp 3) (.tmp 13) rfl O.heap.size (lW 0 0 0 0 0) rfl rfl 230 _ (ha.new O _ _ _ rfl) o8 rfl (rD ..) ?_);intro aq ar Q _ _;have S:=Q w.heap.size w (by have:=o.size;omega) ((R.trans (o.mono R.size)).alloc (by have:=o.size;omega) _);clear ae o ad Q;go_wp2;go_ret;exact⟨rfl,S⟩
end hC
namespace hq
open RowKit
open hG jQ
theorem uh(A:Option Addr)(n c m L:Nat)(bs:List Nat)(w:World)(h:ie w L A n bs)(o:jd bs m)(S:n≤1000000):
 Calls prog 222 #[.slice A n c,.int .i64 m] w fun e w'=>e= .returned (.int .i64 0)∧w=w':=by
 obtain⟨D,G,E⟩:=h;have T:m≤256:=by have:=o.2.1;omega
 have r:bs.length=(m+7)/8:=by simpa using o.2.2.1
 have J:(((n:Nat):Int)==(((m+7)/8:Nat):Int))=true:=by rw[←D,r];simp
 have K:(((n:Nat):Int) !=(((m+7)/8:Nat):Int))=false:=by rw[←D,r];simp
 obtain rfl:n=(m+7)/8:=by omega
 have z:=o.top G;rw[r]at z;have U:decide ((m:Int)<0)=false:=by simp
 have V:decide ((256:Int)<(m:Int))=false:=by simp;omega
 clear D G o r J K;by_cases F:0<m%8;focus
  obtain⟨O,rfl,_,I⟩:=E ((m+7)/8-1) (by omega);have W:w.cell? (O.add ((m+7)/8-1))=some (.int .u8 (iA bs ((m+7)/8-1))):=I;have X:((iA bs ((m+7)/8-1):Nat):Int)/2^(m%8)=0:=by
   have:=z F;have Q:(2:Int)^(m%8)=((2^(m%8):Nat):Int):=by rw[Int.natCast_pow];rfl
   rw[Q,←Int.natCast_ediv,this];rfl
  have R:=hZ F;have Y:1≤(m+7)/8:=by omega
  clear E I z
 rotate_left;focus
  have R:=h1 F;clear E z
 all_goals
  go_enter func222,ntmps222;go_wp2_with (go_at_call 86;refine hE (rf m (by omega) _) ?_);go_ret;exact⟨rfl,rfl⟩
theorem ui(A:Option Addr)(n c L:Nat)(i:Int)(bs:List Nat)(w:World)(h:ie w L A n bs)(r:¬jd bs i)(U:n≤1000000):
 Calls prog 222 #[.slice A n c,.int .i64 i] w fun e w'=>e= .returned (.int .i64 60)∧w=w':=by
 obtain⟨o,D,z⟩:=h;by_cases J:i<0
 ·have K:=hZ J
  clear z o D r;go_enter func222,ntmps222;go_wp2;go_ret;exact⟨rfl,rfl⟩
 obtain⟨m,rfl⟩:∃m:Nat,i=m:=⟨i.toNat,by omega⟩;have K:decide ((m:Int)<0)=false:=by simp
 by_cases O:256<m
 ·have Q:decide ((256:Int)<(m:Int))=true:=by simp;omega
  clear z o D r;go_enter func222,ntmps222;go_wp2;go_ret;exact⟨rfl,rfl⟩
 have Q:decide ((256:Int)<(m:Int))=false:=by simp;omega
 have F:m≤256:=by omega
 by_cases G:n=(m+7)/8
 ·subst G
  by_cases R:0<m%8
  ·obtain⟨S,rfl,_,I⟩:=z ((m+7)/8-1) (by omega)
   have V:w.cell? (S.add ((m+7)/8-1))=some (.int .u8 (iA bs ((m+7)/8-1))):=I;have T:iA bs ((m+7)/8-1)/2^(m%8)≠0:=fun e=>r (jd.back F o (fun _=>by rw[o];exact e));have E:(2:Int)^(m%8)=((2^(m%8):Nat):Int):=by rw[Int.natCast_pow];rfl
   have W:(((iA bs ((m+7)/8-1):Nat):Int)/2^(m%8)==0)=false:=by
    rw[E,←Int.natCast_ediv,beq_eq_false_iff_ne];omega
   have X:(((iA bs ((m+7)/8-1):Nat):Int)/2^(m%8) !=0)=true:=by
    rw[E,←Int.natCast_ediv,bne_iff_ne];omega
   have O:1≤(m+7)/8:=by omega
   clear z I T r D E o;go_enter func222,ntmps222;go_wp2_with (go_at_call 86;refine hE (rf m (by omega) _) ?_);go_ret;exact⟨rfl,rfl⟩
  exact(r (jd.back F o (fun h=>absurd h R))).elim
 have Y:((n:Int)==((m:Int)+7)/8)=false:=by rw[beq_eq_false_iff_ne];omega
 have Z:((n:Int) !=((m:Int)+7)/8)=true:=by rw[bne_iff_ne];omega
 clear z o D r G;go_enter func222,ntmps222;go_wp2_with (go_at_call 86;refine hE (rf m (by omega) _) ?_);go_ret;exact⟨rfl,rfl⟩
def kH(bs:List Nat)(i:Int):Bool:=if 0≤i then bit bs i.toNat else false
theorem Ce(bs:List Nat)(i:Nat):kH bs i=bit bs i:=by unfold kH;rw[if_pos (by omega),Int.toNat_natCast]
theorem Cf{bs:List Nat}{i:Int}(h:i<0∨(bs.length:Int)≤i/8):kH bs i=false:=by
 unfold kH;split
 ·exact tH (by omega)
 rfl
theorem qE(A:Option Addr)(n c L:Nat)(i:Int)(bs:List Nat)(w:World)(h:ie w L A n bs)(S:n≤1000000)(O:i≤9223372036854775807):
 Calls prog 88 #[.slice A n c,.int .i64 i] w fun e w'=>e= .returned (.bool (kH bs i))∧∃q,w'=w.drewN q:=by
 obtain⟨D,E,F⟩:=h;by_cases o:i<0∨(n:Int)≤i/8
 ·have r:=g' (Cf (bs:=bs) (i:=i) (by rw[D];exact o))
  have G:=g' (vH A n c i O o);clear D E F o;go_enter func88,ntmps88;go_wp2_with (go_at_call 158;refine hE (G.out _) ?_);go_ret;exact⟨by rw[r.out];rfl,0,rfl⟩
 obtain⟨m,rfl⟩:∃m:Nat,i=m:=⟨i.toNat,by omega⟩;have I:m/8<n:=by omega
 obtain⟨J,rfl,_,K⟩:=F (m/8) I;have T:w.cell? (J.add (m/8))=some (.int .u8 (iA bs (m/8))):=K;obtain⟨p,z⟩:=hk (2^(m%8));have Q:p<256:=by rw[z];exact tI (Nat.mod_lt _ (by omega))
 have G:=g' (vI (some J) n c m p z (by omega) I);have U:=u8_and_nat (iA bs (m/8)) p (E.iA _) Q;have r:(((iA bs (m/8)&&&p:Nat):Int) !=0)=kH bs m:=by
  rw[Ce];unfold bit;rw[←zE,←z];by_cases e:iA bs (m/8)&&&p=0
  ·rw[e];rfl
  simp[e]
 have R:=g' r;generalize iA bs (m/8)&&&p=x at*;clear F K z o D E r;go_enter func88,ntmps88;go_wp2_with (go_at_call 158;refine(G.out _).mono ?_;rintro e w' ⟨rfl,q,rfl⟩);go_ret;exact⟨by rw[←R.out];rfl,q,rfl⟩
theorem xu{v:Value}{bs:List Nat}(z:bs.length=n)(h:w.ownsRow b e 1 v n (bs.map jq))(o:0<n):
 ∃g c,v= .slice (some ⟨g,0,none⟩) n c∧b≤g∧(∀j,j<n→w.cell? ⟨g,j,none⟩=some (.int .u8 (iA bs j)))∧∀j,w.frozen? ⟨g,j,none⟩=false:=by
 obtain⟨g,c,rfl,r,_⟩:=h.form o;exact⟨g,c,rfl,r,fun j A=>by rw[h.cellAt j (by omega)];exact rb (by omega),fun j=>h.frozenAt j⟩
end hq
namespace hU
open RowKit
open hG kd h0
def pe(o:Nat)(W:World)(es:List Du)(x:Du)(p:Nat)(e:Ending)(w':World):Prop:=
 ∃r,e= .returned r∧w'.ownsRow o 57 3 r (es.length+1) (flat Du.enc (es.take p++x::es.drop p))∧Below o W w'
theorem pe.mk{es:List Du}{x:Du}{e:Ending}{w':World}(o:Value)(r:e= .returned o)(z:w'.ownsRow n 57 3 o (es.length+1) (flat Du.enc (es.take p++x::es.drop p)))(A:Below n W w'):pe n W es x p e w':=⟨o,r,z,A⟩
def uj(x:Du)(es:List Du)(p:Nat):Prop:=∀(W:World) (o:Nat) (v:Value),W.ownsRow o 57 3 v es.length (flat Du.enc es)→o≤W.heap.size→
 Calls prog 265 #[v,int i64 p,.slice (some ⟨W.heap.size,0,none⟩) 1 1] (W.alloc (.cells #[int i64 x.ac,int i64 x.ti,int u64 x.am] 57)) (pe o W es x p)
theorem Cg(W:World)(x:Du):hV (W.alloc (.cells #[int i64 x.ac,int i64 x.ti,int u64 x.am] 57)) (W.alloc (.cells #[int i64 x.ac,int i64 x.ti,int u64 x.am] 57)).heap.size (some ⟨W.heap.size,0,none⟩) 1 3 (flat Du.enc [x]):=
 ⟨rfl,fun j o=>⟨_,rfl,by simp,by
  have h:=kp W (Du.enc x) 57 W.heap.size rfl j (kN (flat Du.enc [x]) j) (by rw[mi];exact vJ (by simpa[Du.len]using o));exact h⟩⟩
theorem Ch(x:Du)(es:List Du)(D:es.length≤1000000):uj x es es.length:=by
 intro W z v o E;obtain⟨F,G,I,J,K⟩:=info_parts qz;obtain⟨n,r⟩:=ho es.length;obtain⟨O,Q⟩:=hg (show flat Du.enc (es.take n++x::es.drop n)=flat Du.enc es++flat Du.enc [x] by rw[←r,List.take_of_length_le hj,List.drop_of_length_le hj,ld]) r;rw[r]at o D⊢;have R:=Cg W x;have A:=o.alloc (.cells #[int i64 x.ac,int i64 x.ti,int u64 x.am] 57);have S:=o;have ab:((n:Int)==(n:Int))=true:=by simp
 rcases o.2 with⟨rfl,T⟩|⟨g,c,cur,rfl,_,_,ad,U,_⟩;focus
  subst T
 rotate_left;focus
  unfold maxLen at U;by_cases ae:c=n;rotate_left;all_goals
   clear r o S
 all_goals
  go_enter func265,ntmps265;go_wp2_with (at_builtin;refine mK _ rfl _ _ 42 rfl z 57 F _ 3 24 lT G I J K rfl (by decide) _ _ _ rfl A (some ⟨W.heap.size,0,none⟩) 1 1 _ rfl R (Du.one [x]) ?_ ?_ (by simp;omega) ?_)
  ·unfold maxLen;omega
  ·omega
  intro af V X Y;have Z:Below z W V:=(hz.alloc E (.cells #[int i64 x.ac,int i64 x.ti,int u64 x.am] 57)).grown Y (by simp;omega) (fun k aa=>(A.lt k aa).1);go_wp2;go_ret;exact pe.mk _ rfl (by rw[O.out,Q.out];exact X) Z
def nX(w:World)(es:List Du)(e:Ending)(w':World):Prop:=
 ∃v,e= .returned (.tuple #[v,int i64 0])∧w'.ownsRow w.heap.size 57 3 v es.length (flat Du.enc es)∧Below w.heap.size w w'
theorem nX.mk{es:List Du}{e:Ending}{w':World}(v:Value)(o:e= .returned (.tuple #[v,int i64 0]))(r:w'.ownsRow w.heap.size 57 3 v es.length (flat Du.enc es))(z:Below w.heap.size w w'):nX w es e w':=⟨v,o,r,z⟩
def pf(d:Du):Prop:=0≤d.ac∧d.ac≤63∧0≤d.ti
theorem Ci(A:Option Addr)(n c:Nat)(d:Du)(w:World)(h:¬pf d):
 Calls prog 238 #[.slice A n c,.agg #[int i64 d.ac,int i64 d.ti,int u64 d.am]] w fun e w'=>e= .returned (.tuple #[.slice none 0 0,int i64 2])∧Below w.heap.size w w':=by
 by_cases o:0≤d.ac∧d.ac≤63;focus
  have r:=g' (lf d.ac 0 63 o.1 o.2);have D:decide (d.ti<0)=true:=by
   rw[decide_eq_true_iff];exact Int.not_le.1 (fun z=>h ⟨o.1,o.2,z⟩)
 rotate_left;focus
  have r:=g' (tR d.ac 0 63 (by omega))
 all_goals
  go_enter func238,ntmps238;go_wp2_with fail;refine hE (r _) ?_;go_wp2;go_ret2;exact⟨rfl,hz.alloc hj _⟩
theorem Cj(A:Option Addr)(n c:Nat)(d:Du)(w:World)(h:pf d)(r:4611686018427387904<d.am):
 Calls prog 238 #[.slice A n c,.agg #[int i64 d.ac,int i64 d.ti,int u64 d.am]] w fun e w'=>e= .returned (.tuple #[.slice none 0 0,int i64 10])∧Below w.heap.size w w':=by
 have o:=g' (lf d.ac 0 63 h.1 h.2.1);have z:decide (d.ti<0)=false:=by rw[decide_eq_false_iff_not];have:=h.2.2;omega
 have D:decide ((4611686018427387904:Int)<d.am)=true:=by rw[decide_eq_true_iff];omega
 go_enter func238,ntmps238;go_wp2_with fail;refine hE (o _) ?_;go_wp2;go_ret2;exact⟨rfl,hz.alloc hj _⟩
theorem Ck(A:Option Addr)(n c:Nat)(ds:List Du)(d:Du)(w:World)(r:hV w w.heap.size A n 3 (flat Du.enc ds))(S:n≤900000)(D:A=none→n=0∧c=0)(h:pf d)(E:d.am=0):
 Calls prog 238 #[.slice A n c,.agg #[int i64 d.ac,int i64 d.ti,int u64 d.am]] w (nX w ds):=by
 have J:=g' (lf d.ac 0 63 h.1 h.2.1);have T:decide (d.ti<0)=false:=by rw[decide_eq_false_iff_not];have:=h.2.2;omega
 have U:decide ((4611686018427387904:Int)<d.am)=false:=by rw[decide_eq_false_iff_not];omega
 have V:((d.am:Int)==0)=true:=by rw[E];rfl
 have o:Below w.heap.size w (w.alloc (.cells #[int i64 d.ac,int i64 d.ti,int u64 d.am] 57)):=hz.alloc hj _;obtain⟨F,K⟩:=hg (pV A n c ds _ (r.to o) (by omega) D) (r.len Du.len (by omega));have z:=o.size;clear h E r D;go_enter func238,ntmps238;go_wp2_with fail;refine hE (J _) ?_;go_wp2_with fail;refine F.mono ?_;rintro e O ⟨v,rfl,G,I⟩;have Q:=o.trans (I.mono z);have R:=g' (show O.ownsRow w.heap.size 57 3 v ds.length (flat Du.enc ds) by rw[K.out];exact mL G z);clear I o G F z;go_wp2;go_ret2;exact nX.mk _ rfl R Q
theorem rr.uk{p:Du→Bool}{ds:List Du}{r:Int}{x:Du}(h:rr p ds r)(z:ds[k]?=some x)(A:p x=true)(D:∀(j:Nat) (y:Du),j<k→ds[j]?=some y→p y=false):r=(k:Int):=by
 rcases h with⟨k',E,rfl,o,F,G⟩|⟨_,o⟩
 ·rcases Nat.lt_trichotomy k k' with h|h|h
  ·have:=G k x h z;rw[A]at this;cases this
  ·rw[h]
  have:=D k' E h o;rw[F]at this;cases this
 have:=o k x z;rw[A]at this;cases this
theorem rr.Cl{p:Du→Bool}{ds:List Du}{r:Int}(h:rr p ds r)(o:∀(j:Nat) (y:Du),ds[j]?=some y→p y=false):r= -1:=by
 rcases h with⟨k',z,rfl,A,D,F⟩|⟨E,_⟩
 ·have:=o k' z A;rw[D]at this;cases this
 exact E
theorem Cm(ds:List Du)(k:Nat)(x:Du)(s:Nat)(r:ds[k]?=some x):(flat Du.enc ds).set (k*3+2) (int u64 s)=flat Du.enc (ds.set k ⟨x.ac,x.ti,s⟩):=by
 have D:k<ds.length:=(jh.1 r).1;apply List.ext_getElem?;intro j;have I:=mh Du.len ds;have E:=mh Du.len (ds.set k ⟨x.ac,x.ti,s⟩);rw[List.length_set]at E;by_cases J:j<ds.length*3
 ·obtain⟨i,m,o,rfl⟩:∃i m,m<3∧j=i*3+m:=⟨j/3,j%3,Nat.mod_lt _ (by omega),by omega⟩
  have A:i<ds.length:=by omega
  by_cases F:i=k
  ·subst F
   have z:=mJ Du.len (ds.set i ⟨x.ac,x.ti,s⟩) i m ⟨x.ac,x.ti,s⟩ (by rw[List.getElem?_set_self D]) o;rw[z];rcases(show m=0∨m=1∨m=2 by omega)with rfl|rfl|rfl
   ·rw[List.getElem?_set_ne (by omega),mJ Du.len ds i 0 x r o];rfl
   ·rw[List.getElem?_set_ne (by omega),mJ Du.len ds i 1 x r o];rfl
   rw[List.getElem?_set_self (by omega)];rfl
  rw[List.getElem?_set_ne (by omega)];have G:=mJ Du.len ds i m ds[i] (List.getElem?_eq_getElem A) o;have z:=mJ Du.len (ds.set k ⟨x.ac,x.ti,s⟩) i m ds[i] (by rw[List.getElem?_set_ne (by omega),List.getElem?_eq_getElem A]) o;rw[G,z]
 rw[List.getElem?_eq_none (by rw[List.length_set];omega),List.getElem?_eq_none (by omega)]
theorem Cn(A:Option Addr)(n c:Nat)(ds:List Du)(d:Du)(k:Nat)(x:Du)(w:World)(I:hV w w.heap.size A n 3 (flat Du.enc ds))(aK:n≤900000)(W:A=none→n=0∧c=0)(h:pf d)(aq:0<d.am∧d.am≤4611686018427387904)
 (O:ds[k]?=some x) (X:eqv d x=true) (Y:∀(j:Nat) (y:Du),j<k→ds[j]?=some y→eqv d y=false) (s:Nat) (z:s=x.am+d.am) (Z:s≤4611686018427387904):
 Calls prog 238 #[.slice A n c,.agg #[int i64 d.ac,int i64 d.ti,int u64 d.am]] w (nX w (ds.set k ⟨x.ac,x.ti,s⟩)):=by
 obtain⟨Q,ar,au⟩:=hs O X Y;have aL:k<n:=by rw[←I.len Du.len (by omega)];exact(jh.1 O).1
 clear O X Y;obtain⟨av,aa⟩:=hg z Z;clear z Z;have aw:=g' (lf d.ac 0 63 h.1 h.2.1);have aM:decide (d.ti<0)=false:=by rw[decide_eq_false_iff_not];have:=h.2.2;omega
 have aN:decide ((4611686018427387904:Int)<d.am)=false:=by rw[decide_eq_false_iff_not];omega
 have aO:((d.am:Int)==0)=false:=by
  rw[beq_eq_false_iff_ne];omega
 have E:Below w.heap.size w (w.alloc (.cells #[int i64 d.ac,int i64 d.ti,int u64 d.am] 57)):=hz.alloc hj _;obtain⟨R,ax⟩:=hg (pV A n c ds _ (I.to E) (by omega) W) (I.len Du.len (by omega));have z:=E.size;obtain⟨J,o⟩:=hk (w.alloc (.cells #[int i64 d.ac,int i64 d.ti,int u64 d.am] 57));have K:w.heap.size<J.heap.size:=by rw[o];simp
 have ab:J.cell? ⟨w.heap.size,0,none⟩=some (int i64 d.ac):=by rw[o,World.cell?_alloc_at _ _ _ _ rfl];rfl
 have ad:J.cell? ⟨w.heap.size,1,none⟩=some (int i64 d.ti):=by rw[o,World.cell?_alloc_at _ _ _ _ rfl];rfl
 have ae:J.cell? ⟨w.heap.size,2,none⟩=some (int u64 d.am):=by rw[o,World.cell?_alloc_at _ _ _ _ rfl];rfl
 rw[←o]at E R z;have ay:=g' o;clear h aq I W o;go_enter func238,ntmps238;go_wp2_with fail;rw[←ay.out];refine hE (aw.out _) ?_;go_wp2_with fail;refine R.mono ?_;rintro e af ⟨v,rfl,S,D⟩;have ag:=(D.cell (p:=⟨w.heap.size,0,none⟩) K).trans ab;have ah:=(D.cell (p:=⟨w.heap.size,1,none⟩) K).trans ad;have ai:=(D.cell (p:=⟨w.heap.size,2,none⟩) K).trans ae;have T:w.heap.size<af.heap.size:=Nat.lt_of_lt_of_le K D.size;obtain⟨az,aj,rfl,aP,aQ,_,ak⟩:=hV.own S;have al:=g' (sr az n aj ds d w.heap.size af ak (by omega) T ag ah);have U:=E.trans (D.mono z);clear ab ad ae D E R ak;go_wp2_with fail;refine al.mono ?_;rintro e V ⟨r,rfl,an,F⟩;have G:=mL (kl S F) z;have aA:=F.size;have aR:=(F.cell (p:=⟨w.heap.size,2,none⟩) T).trans ai;have ao:=U.trans (F.mono U.size);clear ag ah ai U F S al T;obtain rfl:=an.uk Q.out ar.out au.out;clear an;obtain⟨g,aS,aB,_⟩:=G.form (by omega);injection aB with aC _ aD;subst aC aD;have aE:k*3+2<n*3:=by omega
 have aT:V.cell? ⟨g,k*3+2,none⟩=some (int u64 x.am):=by
  rw[G.cellAt _ aE,mJ Du.len ds k 2 x Q.out (by omega)];rfl
 have aU:=G.frozenAt (k*3+2);obtain⟨ap,aF⟩:=hg G ao;clear G ao aA;have aG:=g' (fun m=>mj x.am d.am s av.out (by have:=aa.out;omega) (V.drewN m));have aV:decide ((4611686018427387904:Int)<s)=false:=by rw[decide_eq_false_iff_not];have:=aa.out;omega
 go_wp2;go_quiet ((go_at_call 85;with_reducible exact sb (aG.out _)))
 have aH:=g' ((show(V.drewN nq).ownsRow w.heap.size 57 3 (.slice (some ⟨g,0,none⟩) n aj) n (flat Du.enc ds)from ap.out).stored (k*3+2) (int u64 s)).1;have aI:=(ap.lt g rfl).1;have aJ:=g' ((below_drewN aF.out nq).setCell (p:=⟨g,k*3+2,none⟩) aI (int u64 s));go_wp2;go_ret2;exact nX.mk _ rfl (by rw[List.length_set,ax.out,←Cm ds k x s Q.out];exact aH.out) aJ.out
theorem Co(A:Option Addr)(n c:Nat)(ds:List Du)(d:Du)(k:Nat)(x:Du)(w:World)(J:hV w w.heap.size A n 3 (flat Du.enc ds))(aH:n≤900000)(U:A=none→n=0∧c=0)(h:pf d)(ap:0<d.am∧d.am≤4611686018427387904)
 (K:ds[k]?=some x) (V:eqv d x=true) (W:∀(j:Nat) (y:Du),j<k→ds[j]?=some y→eqv d y=false) (X:4611686018427387904<x.am+d.am) (Y:x.am+d.am<18446744073709551616):
 Calls prog 238 #[.slice A n c,.agg #[int i64 d.ac,int i64 d.ti,int u64 d.am]] w (fun e w'=>e= .returned (.tuple #[.slice none 0 0,int i64 10])∧Below w.heap.size w w'):=by
 obtain⟨Z,aq,ar⟩:=hs K V W;have aI:k<n:=by rw[←J.len Du.len (by omega)];exact(jh.1 K).1
 clear K V W;obtain⟨au,av⟩:=hg Y X;clear Y X;have aw:=g' (lf d.ac 0 63 h.1 h.2.1);have aJ:decide (d.ti<0)=false:=by rw[decide_eq_false_iff_not];have:=h.2.2;omega
 have aK:decide ((4611686018427387904:Int)<d.am)=false:=by rw[decide_eq_false_iff_not];omega
 have aL:((d.am:Int)==0)=false:=by
  rw[beq_eq_false_iff_ne];omega
 have E:Below w.heap.size w (w.alloc (.cells #[int i64 d.ac,int i64 d.ti,int u64 d.am] 57)):=hz.alloc hj _;have O:=g' (pV A n c ds _ (J.to E) (by omega) U);have z:=E.size;obtain⟨G,o⟩:=hk (w.alloc (.cells #[int i64 d.ac,int i64 d.ti,int u64 d.am] 57));have I:w.heap.size<G.heap.size:=by rw[o];simp
 have aa:G.cell? ⟨w.heap.size,0,none⟩=some (int i64 d.ac):=by rw[o,World.cell?_alloc_at _ _ _ _ rfl];rfl
 have ab:G.cell? ⟨w.heap.size,1,none⟩=some (int i64 d.ti):=by rw[o,World.cell?_alloc_at _ _ _ _ rfl];rfl
 have ad:G.cell? ⟨w.heap.size,2,none⟩=some (int u64 d.am):=by rw[o,World.cell?_alloc_at _ _ _ _ rfl];rfl
 rw[←o]at E O z;have ax:=g' o;clear h ap J U o;go_enter func238,ntmps238;go_wp2_with fail;rw[←ax.out];refine hE (aw.out _) ?_;go_wp2_with fail;refine O.mono ?_;rintro e ae ⟨v,rfl,Q,D⟩;have af:=(D.cell (p:=⟨w.heap.size,0,none⟩) I).trans aa;have ag:=(D.cell (p:=⟨w.heap.size,1,none⟩) I).trans ab;have ah:=(D.cell (p:=⟨w.heap.size,2,none⟩) I).trans ad;have R:w.heap.size<ae.heap.size:=Nat.lt_of_lt_of_le I D.size;obtain⟨ay,az,rfl,aM,aN,_,ai⟩:=hV.own Q;have aj:=g' (sr ay n az ds d w.heap.size ae ai (by omega) R af ag);have S:=E.trans (D.mono z);clear aa ab ad D E O ai;go_wp2_with fail;refine aj.mono ?_;rintro e ak ⟨r,rfl,al,F⟩;have T:=mL (kl Q F) z;have aA:=F.size;have aO:=(F.cell (p:=⟨w.heap.size,2,none⟩) R).trans ah;have an:=S.trans (F.mono S.size);clear af ag ah S F Q aj R;obtain rfl:=al.uk Z.out aq.out ar.out;clear al;obtain⟨g,aP,aB,_⟩:=T.form (by omega);injection aB with aC _ aD;subst aC aD;have aE:k*3+2<n*3:=by omega
 have aQ:ak.cell? ⟨g,k*3+2,none⟩=some (int u64 x.am):=by
  rw[T.cellAt _ aE,mJ Du.len ds k 2 x Z.out (by omega)];rfl
 have aF:=g' an;clear T an aA;have ao:=g' (fun m=>mj x.am d.am (x.am+d.am) rfl au.out (ak.drewN m));obtain⟨s,z⟩:=hk (x.am+d.am);rw[←z]at ao;have aR:decide ((4611686018427387904:Int)<s)=true:=by rw[decide_eq_true_iff];have:=av.out;omega
 clear z;go_wp2;go_quiet ((go_at_call 85;with_reducible exact sb (ao.out _)))
 have aG:=g' (below_drewN aF.out nq);go_wp2;go_ret2;exact⟨rfl,aG.out⟩
theorem Cp(A:Option Addr)(n c:Nat)(ds:List Du)(d:Du)(k:Nat)(x:Du)(w:World)(I:hV w w.heap.size A n 3 (flat Du.enc ds))(aI:n≤900000)(U:A=none→n=0∧c=0)(h:pf d)(V:0<d.am∧d.am≤4611686018427387904)
 (J:ds[k]?=some x) (W:eqv d x=true) (X:∀(j:Nat) (y:Du),j<k→ds[j]?=some y→eqv d y=false) (Y:18446744073709551616≤x.am+d.am) (Z:x.am<18446744073709551616):
 Calls prog 238 #[.slice A n c,.agg #[int i64 d.ac,int i64 d.ti,int u64 d.am]] w (fun e w'=>e= .returned (.tuple #[.slice none 0 0,int i64 10])∧Below w.heap.size w w'):=by
 obtain⟨aa,ap,aq⟩:=hs J W X;have aJ:k<n:=by rw[←I.len Du.len (by omega)];exact(jh.1 J).1
 clear J W X;obtain⟨ar,au,av⟩:=hs Z Y V.2;clear Z Y;have aw:=g' (lf d.ac 0 63 h.1 h.2.1);have aK:decide (d.ti<0)=false:=by rw[decide_eq_false_iff_not];have:=h.2.2;omega
 have aL:decide ((4611686018427387904:Int)<d.am)=false:=by rw[decide_eq_false_iff_not];omega
 have aM:((d.am:Int)==0)=false:=by
  rw[beq_eq_false_iff_ne];omega
 have D:Below w.heap.size w (w.alloc (.cells #[int i64 d.ac,int i64 d.ti,int u64 d.am] 57)):=hz.alloc hj _;have K:=g' (pV A n c ds _ (I.to D) (by omega) U);have O:=D.size;obtain⟨F,o⟩:=hk (w.alloc (.cells #[int i64 d.ac,int i64 d.ti,int u64 d.am] 57));have G:w.heap.size<F.heap.size:=by rw[o];simp
 have ab:F.cell? ⟨w.heap.size,0,none⟩=some (int i64 d.ac):=by rw[o,World.cell?_alloc_at _ _ _ _ rfl];rfl
 have ad:F.cell? ⟨w.heap.size,1,none⟩=some (int i64 d.ti):=by rw[o,World.cell?_alloc_at _ _ _ _ rfl];rfl
 have ae:F.cell? ⟨w.heap.size,2,none⟩=some (int u64 d.am):=by rw[o,World.cell?_alloc_at _ _ _ _ rfl];rfl
 rw[←o]at D K O;have ax:=g' o;clear h V I U o;go_enter func238,ntmps238;go_wp2_with fail;rw[←ax.out];refine hE (aw.out _) ?_;go_wp2_with fail;refine K.mono ?_;rintro e af ⟨v,rfl,Q,z⟩;have ag:=(z.cell (p:=⟨w.heap.size,0,none⟩) G).trans ab;have ah:=(z.cell (p:=⟨w.heap.size,1,none⟩) G).trans ad;have ai:=(z.cell (p:=⟨w.heap.size,2,none⟩) G).trans ae;have R:w.heap.size<af.heap.size:=Nat.lt_of_lt_of_le G z.size;obtain⟨ay,az,rfl,aN,aO,_,aj⟩:=hV.own Q;have ak:=g' (sr ay n az ds d w.heap.size af aj (by omega) R ag ah);have S:=D.trans (z.mono O);clear ab ad ae z D K aj;go_wp2_with fail;refine ak.mono ?_;rintro e al ⟨r,rfl,an,E⟩;have T:=mL (kl Q E) O;have aA:=E.size;have aP:=(E.cell (p:=⟨w.heap.size,2,none⟩) R).trans ai;have ao:=S.trans (E.mono S.size);clear ag ah ai S E Q ak R;obtain rfl:=an.uk aa.out ap.out aq.out;clear an;obtain⟨g,aQ,aB,_⟩:=T.form (by omega);injection aB with aC _ aD;subst aC aD;have aE:k*3+2<n*3:=by omega
 have aR:al.cell? ⟨g,k*3+2,none⟩=some (int u64 x.am):=by
  rw[T.cellAt _ aE,mJ Du.len ds k 2 x aa.out (by omega)];rfl
 have aF:=g' ao;clear T ao aA;have aG:=g' (fun m=>pQ x.am d.am ar.out (by have:=av.out;omega) au.out (al.drewN m));go_wp2;go_quiet ((go_at_call 85;with_reducible exact sb (aG.out _)))
 have aH:=g' (below_drewN aF.out nq);go_wp2;go_ret2;exact⟨rfl,aH.out⟩
def Place(ds:List Du)(d:Du)(p:Nat):Prop:=p≤ds.length∧(∀(j:Nat) (y:Du),p≤j→ds[j]?=some y→d.ti<y.ti)∧(p=0∨∃y,ds[p-1]?=some y∧y.ti≤d.ti)
theorem Cq(A:Option Addr)(n c:Nat)(ds:List Du)(d:Du)(p:Nat)(w:World)(X:hV w w.heap.size A n 3 (flat Du.enc ds))(a':n≤900000)(ay:A=none→n=0∧c=0)(h:pf d)(aS:0<d.am∧d.am≤4611686018427387904)
 (az:∀(j:Nat) (y:Du),ds[j]?=some y→eqv d y=false) (af:Place ds d p) (aA:uj d ds p):
 Calls prog 238 #[.slice A n c,.agg #[int i64 d.ac,int i64 d.ti,int .u64 d.am]] w (nX w (ds.take p++d::ds.drop p)):=by
 obtain⟨aT,aB⟩:=hg az aA;have aU:p≤n:=by rw[←X.len Du.len (by omega)];exact af.1
 have Y:=g' af;clear az af aA;have aV:=g' (lf d.ac 0 63 h.1 h.2.1);have ba:decide (d.ti<0)=false:=by rw[decide_eq_false_iff_not];have:=h.2.2;omega
 have bb:decide ((4611686018427387904:Int)<d.am)=false:=by rw[decide_eq_false_iff_not];omega
 have bc:((d.am:Int)==0)=false:=by
  rw[beq_eq_false_iff_ne];omega
 have I:Below w.heap.size w (w.alloc (.cells #[int i64 d.ac,int i64 d.ti,int .u64 d.am] 57)):=hz.alloc hj _;obtain⟨ag,ah⟩:=hg (pV A n c ds _ (X.to I) (by omega) ay) (X.len Du.len (by omega));have ai:=I.size;obtain⟨Z,z⟩:=hk (w.alloc (.cells #[int i64 d.ac,int i64 d.ti,int .u64 d.am] 57));have aa:w.heap.size<Z.heap.size:=by rw[z];simp
 have aC:Z.cell? ⟨w.heap.size,0,none⟩=some (int i64 d.ac):=by rw[z,World.cell?_alloc_at _ _ _ _ rfl];rfl
 have aD:Z.cell? ⟨w.heap.size,1,none⟩=some (int i64 d.ti):=by rw[z,World.cell?_alloc_at _ _ _ _ rfl];rfl
 have aE:Z.cell? ⟨w.heap.size,2,none⟩=some (int .u64 d.am):=by rw[z,World.cell?_alloc_at _ _ _ _ rfl];rfl
 rw[←z]at I ag ai;have aW:=g' z;clear h aS X ay z;go_enter func238,ntmps238;go_wp2_with fail;rw[←aW.out];refine hE (aV _) ?_;go_wp2_with fail;refine ag.mono ?_;rintro e aF ⟨v,rfl,aj,F⟩;have ak:=(F.cell (p:=⟨w.heap.size,0,none⟩) aa).trans aC;have J:=(F.cell (p:=⟨w.heap.size,1,none⟩) aa).trans aD;have aG:=(F.cell (p:=⟨w.heap.size,2,none⟩) aa).trans aE;have K:w.heap.size<aF.heap.size:=Nat.lt_of_lt_of_le aa F.size;obtain⟨ab,O,rfl,bd,be,_,Q⟩:=hV.own aj;have aH:=g' (sr ab n O ds d w.heap.size aF Q (by omega) K ak J);have al:=I.trans (F.mono ai);clear aC aD aE F I ag Q;go_wp2_with fail;refine aH.mono ?_;rintro e aI ⟨r,rfl,aJ,D⟩;have an:=mL (kl aj D) ai;have aX:=D.size;have aK:=(D.cell (p:=⟨w.heap.size,0,none⟩) K).trans ak;have aL:=(D.cell (p:=⟨w.heap.size,1,none⟩) K).trans J;have aM:=(D.cell (p:=⟨w.heap.size,2,none⟩) K).trans aG;have aN:=al.trans (D.mono al.size);clear ak J aG al D aj aH K;obtain rfl:=aJ.Cl aT;clear aJ;obtain⟨bf,bg,aY,bh,_,_,Q⟩:=hV.own an;injection aY with aZ _ a0;subst aZ a0;obtain⟨a1,aO,aP,a2,aQ,a3⟩:=ku Q an aN aK aL aM;clear an aN aK aL aM Q aX;go_wp2;go_loopw [10] (fun ao wr=>∃k:Nat,ao=int i64 k∧p≤k∧k≤n∧∃q,wr=aI.drewN q) (fun ao _=>(intOf ao).toNat)
 case atStart=>exact⟨n,rfl,aU,hj,0,rfl⟩
 case round=>
  obtain⟨k,rfl,bi,bj,ad⟩:=hrel;have J:wr.cell? ⟨w.heap.size,1,none⟩=some (int i64 d.ti):=by obtain⟨q,rfl⟩:=ad;exact aQ
  have R:hV wr aI.heap.size ab n 3 (flat Du.enc ds):=by obtain⟨q,rfl⟩:=ad;exact a1
  have ap:=g' ad;clear ad;by_cases bk:p<k
  ·obtain⟨j,rfl⟩:∃j,k=j+1:=⟨k-1,by omega⟩
   have ae:j<n:=by omega
   obtain⟨y,G⟩:∃y,ds[j]?=some y:=⟨_,iB (by rw[ah.out];exact ae)⟩;obtain⟨E,rfl,a4,S⟩:=R.cell Du.len ae G (by omega);have aR:wr.cell? ⟨(E.add (j*3)).block,(E.add (j*3)).off+1,none⟩=some (int i64 y.ti):=S 1 _ rfl;have a5:decide (d.ti<y.ti)=true:=by rw[decide_eq_true_iff];exact Y.2.1 j y (by omega) G
   have a6:i64.wrap ((j:Int))=j:=IntWalk.i64_in _ (by omega);clear S G R;go_wp2;go_quiet (fail)
   go_wp2;exact⟨⟨j,by first|rfl|go_num|simp,by omega,by omega,by obtain⟨q,o⟩:=ap;exact⟨_,by rw[o,World.drewN_drewN]⟩⟩,by simp[intOf]⟩
  obtain rfl:k=p:=by omega
  rcases k with _|j;focus
   clear R;go_wp2;go_quiet (fail)
   obtain⟨q,o⟩:=ap;obtain⟨aq,T⟩:=hg (show(wr.drewN nq).ownsRow w.heap.size 57 3 (.slice ab n O) ds.length (flat Du.enc ds) by rw[ah.out,o];exact aO) (show Below w.heap.size w (wr.drewN nq) by rw[o];exact below_drewN (below_drewN aP q) nq)
  rotate_left;focus
   have ae:j<n:=by omega
   obtain⟨y,G,a7⟩:∃y,ds[j]?=some y∧y.ti≤d.ti:=by
    rcases Y.2.2 with h|⟨y,a8,a9⟩
    ·omega
    exact⟨y,a8,a9⟩
   obtain⟨E,rfl,a4,S⟩:=R.cell Du.len ae G (by omega);have aR:wr.cell? ⟨(E.add (j*3)).block,(E.add (j*3)).off+1,none⟩=some (int i64 y.ti):=S 1 _ rfl;have a5:decide (d.ti<y.ti)=false:=by rw[decide_eq_false_iff_not];omega
   have a6:i64.wrap ((j:Int))=j:=IntWalk.i64_in _ (by omega);clear S G R a7;go_wp2;go_quiet (fail)
   clear aR;obtain⟨q,o⟩:=ap;obtain⟨aq,T⟩:=hg (show(wr.drewN nq).ownsRow w.heap.size 57 3 (.slice (some E) n O) ds.length (flat Du.enc ds) by rw[ah.out,o];exact aO) (show Below w.heap.size w (wr.drewN nq) by rw[o];exact below_drewN (below_drewN aP q) nq)
  rotate_left;all_goals
   have bl:(wr.drewN nq).cell? ⟨w.heap.size,0,none⟩=some (int i64 d.ac):=by rw[o];exact a2
   have bm:(wr.drewN nq).cell? ⟨w.heap.size,1,none⟩=some (int i64 d.ti):=by rw[o];exact aQ
   have bn:(wr.drewN nq).cell? ⟨w.heap.size,2,none⟩=some (int .u64 d.am):=by rw[o];exact a3
   clear o J;generalize wr.drewN nq=W at*
  ·have ar:=g' (aB W w.heap.size (.slice ab n O) aq T.size)
   go_wp2_with fail;refine ar.mono ?_;rintro e au ⟨av,rfl,U,V⟩;have aw:=g' (T.trans V);have ax:=g' (show au.ownsRow w.heap.size 57 3 av (ds.take 0++d::ds.drop 0).length (flat Du.enc (ds.take 0++d::ds.drop 0)) by
    have e:(ds.take 0++d::ds.drop 0).length=ds.length+1:=by
     rw[List.length_append,List.length_cons,List.length_take,List.length_drop];have:=Y.1;omega
    rw[e];exact U)
   clear V U;go_wp2;go_ret2;exact nX.mk _ rfl ax aw.out
  have ar:=g' (aB W w.heap.size (.slice (some E) n O) aq T.size);go_wp2_with fail;refine ar.mono ?_;rintro e au ⟨av,rfl,U,V⟩;have aw:=g' (T.trans V);have ax:=g' (show au.ownsRow w.heap.size 57 3 av (ds.take (j+1)++d::ds.drop (j+1)).length (flat Du.enc (ds.take (j+1)++d::ds.drop (j+1))) by
   have e:(ds.take (j+1)++d::ds.drop (j+1)).length=ds.length+1:=by
    rw[List.length_append,List.length_cons,List.length_take,List.length_drop];have:=Y.1;omega
   rw[e];exact U)
  clear V U;go_wp2;go_ret2;exact nX.mk _ rfl ax aw.out
end hU
end Go.Proofs.YtffbipddbnkdjaaGreat
