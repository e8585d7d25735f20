/- What functions compute at any arguments, and plain facts: What is asked of a state, second part: members; What is asked of a state, third part: motions; What is asked of a state, fourth part: marks; Dues as keys of a map; a map of bools of one's own. Conditions: those that each theorem names. -/
import Derived.Test.YtffbipddbnkdjaaGreatZ18
import Derived.DeepKeys4
import Derived.Maps.Keyed
set_option maxRecDepth 100000
set_option maxHeartbeats 40000000
set_option linter.all false
open Go Go.Proofs.Tryz
open Go.Value(int)
open Go.IntKind(i64 u64)
variable{A T:Option Addr}{n g b L k B i x a m j q c p s r d h u N y:Nat}{E z:Int}{P:Program}{w W X Z:World}{e t:TypeId}{f:Nat→Value}{l:List Bool}{V U:Value}{Y:List Nat}{S:List Value}{R:List Int}{Q:Array Value}{O:List (List Nat)}{M:Bool}{K:Ending}{J:Addr}{I:Nat→Nat}{H:Option Nat}
namespace Go.Proofs.YtffbipddbnkdjaaGreat
namespace hB
open RowKit
open hG hf hC h0 hU
def pC(s:hA)(c:hl):Bool:=decide (s.me.n≤128)&&(c.ms.all (fun m=>lX s.p m&&k9 s m.own)&&(mW c.ms c.es 1&&mW c.ms c.xs 3))
theorem Ep(s:hA)(c:hl)(w:World)(h:Lay s c w w.heap.size)(af:s.Ok)(ar:iG s.p=true)(au:∀m∈c.ms,my m)(av:s.me.n≤1000000)(aJ:s.pu.n≤1000000)(b:Bool)(z:b=pC s c):
 Calls prog 97 #[.agg s.cs] w fun e w'=>e= .returned (.bool b)∧Below w.heap.size w w':=by
 unfold pC at z;have aw:=g' (h.me.len Mem.len (by omega));obtain⟨ag,U⟩:=hk (decide (s.me.n≤128));have aZ:decide ((128:Int)<(s.me.n:Int))= !ag:=by rw[U];by_cases k:s.me.n≤128<;>simp[k]<;>omega
 have a0:decide (128<s.me.n)= !ag:=by rw[U];by_cases k:s.me.n≤128<;>simp[k]<;>omega
 rw[←U]at z;clear U;obtain⟨ah,Q⟩:=hk (mW c.ms c.es 1);obtain⟨ax,ai⟩:=hk (mW c.ms c.xs 3);obtain⟨aK,aL,aM,aN,aO⟩:=jg (fun(W:World) (A:Below w.heap.size w W)=>yi s c.ms s.en c.es 1 W ((h.me.below A).more A.size) ((h.en.below A).more A.size) af.en av ah Q) (fun(W:World) (A:Below w.heap.size w W)=>yi s c.ms s.ex c.xs 3 W ((h.me.below A).more A.size) ((h.ex.below A).more A.size) af.ex av ax ai) (fun(m:Mem) (R:my m) (W:World) (x:Bool) (D:x=lX s.p m)=>BX s.p ar m R W x D) (fun(i:Int) (W:World) (x:Bool) (D:x=k9 s i)=>uI s i aJ x D W) au;rw[←Q,←ai]at z;clear Q ai;have aP:=g' h.me;obtain⟨V,ay,I,az⟩:=iF w s.cs 166;obtain⟨X,aA⟩:=hg az ay;clear ay az;have aQ:=g' (fun(W:World) (z:Below w.heap.size w W)=>aP.below z);clear h af ar au;cases ag
 ·subst z
  go_enter func97,ntmps97;go_upto_region 1 with(fail)
  rw[aA.out];have aR:=X.all;go_wp2;go_ret;exact⟨by rfl,I⟩
 rw[Bool.true_and]at z;have aj:=g' z;clear z;go_enter func97,ntmps97;go_upto_region 1 with(fail)
 rw[aA.out];have aR:=X.all;go_wp2;go_loopw [14] (fun ak wr=>∃k:Nat,ak=int i64 k∧k≤s.me.n∧Below V.heap.size V wr∧∀j m,j<k→c.ms[j]?=some m→(lX s.p m&&k9 s m.own)=true) (fun ak _=>s.me.n-(intOf ak).toNat)
 case atStart=>exact⟨0,rfl,h6,hz,fun j _ Y=>absurd Y (by omega)⟩
 case round=>
  obtain⟨k,rfl,a1,K,Z⟩:=hrel;by_cases aa:k<s.me.n
  ·have aS:=hZ aa
   have S:Below w.heap.size w wr:=I.trans (K.mono I.size);obtain⟨d,ab⟩:∃d,c.ms[k]?=some d:=⟨_,iB (by rw[aw.out];exact aa)⟩;obtain⟨r,aT,_,J⟩:=(aQ wr S).cell Mem.len aa ab (by omega);have a2:wr.cell? (r.add (k*6))=some (int u64 d.hD):=by have:=J 0 _ rfl;rwa[hG.add_zero]at this
   have a3:wr.cell? ⟨(r.add (k*6)).block,(r.add (k*6)).off+1,none⟩=some (int u64 d.hP):=J 1 _ rfl;have a4:wr.cell? ⟨(r.add (k*6)).block,(r.add (k*6)).off+2,none⟩=some (int u64 d.h9):=J 2 _ rfl;have a5:wr.cell? ⟨(r.add (k*6)).block,(r.add (k*6)).off+3,none⟩=some (int i64 d.str):=J 3 _ rfl;have a6:wr.cell? ⟨(r.add (k*6)).block,(r.add (k*6)).off+4,none⟩=some (int i64 d.own):=J 4 _ rfl;have a7:wr.cell? ⟨(r.add (k*6)).block,(r.add (k*6)).off+5,none⟩=some (int i64 d.h3):=J 5 _ rfl;rw[aT];have aU:=K.size;have T:Below V.heap.size V (wr.alloc (.cells #[int u64 d.hD,int u64 d.hP,int u64 d.h9,int i64 d.str,int i64 d.own,int i64 d.h3] 98)):=K.alloc aU _;have al:ha (wr.alloc (.cells #[int u64 d.hD,int u64 d.hP,int u64 d.h9,int i64 d.str,int i64 d.own,int i64 d.h3] 98)) wr.heap.size 98 (hW d):=ha.new wr wr.heap.size _ _ rfl;obtain⟨aV,am⟩:=ho (wr.alloc (.cells #[int u64 d.hD,int u64 d.hP,int u64 d.h9,int i64 d.str,int i64 d.own,int i64 d.h3] 98));rw[am]at T al;have aB:=g' am;have aC:Below w.heap.size w aV:=I.trans (T.mono I.size);clear am;have an:=g' ab;obtain⟨x,D⟩:=hk (lX s.p d);have aD:=g' (fun W=>aM d (aO d (List.mem_of_getElem? ab)) W x D);obtain⟨y,ao⟩:=hk (k9 s d.own);obtain⟨aE,ap,F,ac,aW⟩:=jg (fun W=>aN d.own W y ao) (show(lX s.p d&&k9 s d.own)=(x&&y) by rw[←D,←ao]) (X.to T) al Z;clear J ab D ao al Z K S;cases x;focus
    have aq:=g' (show b=false from aj.trans (by rw[pB an.out (ap.trans (by first|rfl|(cases y<;>rfl)))];rfl))
   rotate_left;focus
    cases y
    ·have aq:=g' (show b=false from aj.trans (by rw[pB an.out (ap.trans (by first|rfl|(cases y<;>rfl)))];rfl))
     go_upto_region 6 with(fail)
     rw[aB.out];go_wp2_with (first|(refine mb 0 ((s.p.cs).toList) F rfl hQ rfl rfl rfl rfl rfl ?_)|(refine hR ac jY (j3 _) rfl rfl rfl rfl ?_));refine hI (aD _) fun aF o=>?_;have G:=hJ aC o;obtain⟨O,ad⟩:=hg (F.to o) (ac.to o);clear o;have aG:=ad.all;go_wp2_with (first|(refine iv O iZ (jm _) rfl rfl rfl rfl ?_));refine hI (aE _) fun aH E=>?_;have ae:=hJ G E;clear E;go_wp2;go_ret;exact⟨by rw[aq.out];rfl,ae⟩
    have aX:=g' (show∀j m,j<k+1→c.ms[j]?=some m→(lX s.p m&&k9 s m.own)=true from fun j m Y R=>by
     rcases Nat.lt_or_ge j k with h|h
     ·exact aW j m h R
     obtain rfl:j=k:=by omega
     rw[an.out]at R;cases R;exact ap)
   rotate_left;all_goals
    go_upto_region 6 with(fail)
    rw[aB.out];go_wp2_with (first|(refine mb 0 ((s.p.cs).toList) F rfl hQ rfl rfl rfl rfl rfl ?_)|(refine hR ac jY (j3 _) rfl rfl rfl rfl ?_));refine hI (aD _) fun aF o=>?_;have G:=hJ aC o;obtain⟨O,ad⟩:=hg (F.to o) (ac.to o)
   ·clear o
    have aG:=ad.all;go_wp2;go_ret;exact⟨by rw[aq.out];rfl,G⟩
   have aI:=T.trans (o.mono T.size);clear o;have aG:=ad.all;go_wp2_with (first|(refine iv O iZ (jm _) rfl rfl rfl rfl ?_));refine hI (aE _) fun aH E=>?_;have ae:=hJ G E;have aY:=aI.trans (E.mono aI.size);clear E;go_wp2;exact⟨⟨k+1,by go_num,by omega,aY,aX⟩,by simp[intOf];omega⟩
  have aS:=h1 aa;obtain rfl:k=s.me.n:=by omega
  have Q:b=(ah&&ax):=by
   rw[aj.out,rR (fun j x Y D=>Z j x (by rw[←aw.out];exact Y) D),Bool.true_and]
  have S:Below w.heap.size w wr:=I.trans (K.mono I.size);have F:=g' (X.to K);clear Z;cases ah;rotate_left;rotate_left;all_goals
   subst Q;have a8:=F.all;go_wp2_with (first|(refine hR F iZ (jm _) rfl rfl rfl rfl ?_));refine hI (aK _ S) fun aF o=>?_;have G:=hJ S o;have O:=g' (F.to o);clear o;have a9:=O.all
  ·go_wp2
   go_ret;exact⟨by rfl,G⟩
  go_wp2_with (first|(refine iv O iZ (jm _) rfl rfl rfl rfl ?_));refine hI (aL _ G) fun aH E=>?_;have ae:=hJ G E;clear E;go_wp2;go_ret;exact⟨by rfl,ae⟩
theorem rS{s:Sl}{α:Type}{enc:α→List Value}{ds:List α}(z:s.Ok)(h:hV w L s.A s.n b (flat enc ds))(D:∀d,(enc d).length=b)(E:i<s.n){d:α}(F:ds[i]?=some d)(G:0<b):
 ∃g,s.A=some ⟨g,0,none⟩∧w.rangeAt g (i*b) (enc d):=by
 obtain⟨K,o,_,I⟩:=h.cell D E F G;rcases z with⟨r,_⟩|⟨g,r,_⟩
 ·rw[r]at o;cases o
 rw[r]at o;cases o;refine⟨g,r,fun j v J=>?_⟩;have:=I j v J;rw[hG.k1]at this;have e:(⟨g,i*b,none⟩:Addr).add j=⟨g,i*b+j,none⟩:=by unfold Addr.add;split<;>simp_all
 rw[e]at this;exact this
noncomputable def p6(s:hA)(m:hp):Bool:=nZ m&&(k9 s m.ac&&k9 s m.ta)
noncomputable def oN(s:hA)(c:hl):Bool:=decide (s.mo.n≤32)&&c.mo.all (p6 s)
theorem Er(s:hA)(c:hl)(w:World)(h:Lay s c w w.heap.size)(av:s.Ok)(ak:∀m∈c.mo,m.yh.n≤1000000∧m.nh.n≤1000000)(a1:s.mo.n≤1000000)(aM:s.pu.n≤1000000)(b:Bool)(D:b=oN s c):
 Calls prog 99 #[.agg s.cs] w fun e w'=>e= .returned (.bool b)∧Below w.heap.size w w':=by
 unfold oN at D;have aw:=g' (h.mo.len hp.len (by omega));obtain⟨al,T⟩:=hk (decide (s.mo.n≤32));have a2:decide ((32:Int)<(s.mo.n:Int))= !al:=by rw[T];by_cases k:s.mo.n≤32<;>simp[k]<;>omega
 have a3:decide (32<s.mo.n)= !al:=by rw[T];by_cases k:s.mo.n≤32<;>simp[k]<;>omega
 rw[←T]at D;clear T;obtain⟨aN,ax,aO,aP⟩:=h5 (fun(m:hp) (G:m∈c.mo) (W:World) (ay:Below w.heap.size w W) (x:Bool) (A:x=nZ m)=>DF m W (((h.mv m G).below ay).more ay.size) (ak m G).1 (ak m G).2 x A) (fun(i:Int) (W:World) (x:Bool) (A:x=k9 s i)=>uI s i aM x A W) h.mo av.mo;obtain⟨U,az,I,aA⟩:=iF w s.cs 166;obtain⟨am,aB⟩:=hg aA az;clear az aA;have aQ:=g' (fun(W:World) (D:Below w.heap.size w W)=>aO.below D);clear h ak av;cases al
 ·subst D
  go_enter func99,ntmps99;go_upto_region 1 with(fail)
  rw[aB.out];have aR:=am.all;go_wp2;go_ret;exact⟨by rfl,I⟩
 rw[Bool.true_and]at D;have V:=g' D;clear D;go_enter func99,ntmps99;go_upto_region 1 with(fail)
 rw[aB.out];have aR:=am.all;go_wp2;go_loopw [14] (fun an wr=>∃k:Nat,an= .int .i64 k∧k≤s.mo.n∧Below U.heap.size U wr∧∀j m,j<k→c.mo[j]?=some m→p6 s m=true) (fun an _=>s.mo.n-(intOf an).toNat)
 case atStart=>exact⟨0,rfl,h6,hz,fun j _ X=>absurd X (by omega)⟩
 case round=>
  obtain⟨k,rfl,a4,R,Y⟩:=hrel;by_cases Z:k<s.mo.n
  ·have aS:=hZ Z
   have aa:Below w.heap.size w wr:=I.trans (R.mono I.size);obtain⟨d,ab⟩:∃d,c.mo[k]?=some d:=⟨_,iB (by rw[aw.out];exact Z)⟩;obtain⟨g,aT,aC⟩:=rS aP (aQ wr aa) hp.len Z ab (by omega);have aU:=g' aC;rw[aT];have aV:=R.size;go_upto_region 5 with(fail)
   go_upto_region 6 with(first|(refine wpList_load_mid rfl 59 (.tmp 16) (by rfl) g (k*33) (by first|rfl|(simp only[hG.k1];rfl)) d.enc _ aU nE rfl (by kernel_rfl) ?_)|(refine jD rfl 59 (.tmp 4) (.tmp 17) rfl d.cs rfl rfl (nD _) rfl (qK _) ?_;intro ao aD aE _))
   have ad:Below U.heap.size U ao:=R.trans (aE.mono aV);have S:Below w.heap.size w ao:=I.trans (ad.mono I.size);have ae:=g' ab;obtain⟨x,A⟩:=hk (nZ d);have af:=g' (aN d (List.mem_of_getElem? ab) ao S x A);obtain⟨y,ap⟩:=hk (k9 s d.ac);have aF:=g' (fun W=>ax d.ac W y ap);obtain⟨z,aq⟩:=hk (k9 s d.ta);obtain⟨aG,ag,ah,E,aW⟩:=jg (fun W=>ax d.ta W z aq) (show p6 s d=(x&&(y&&z)) by unfold p6;rw[←A,←ap,←aq]) (am.to ad) aD Y;clear aC ab A ap aq aD Y R aa aE;cases x
   ·have J:=g' (show b=false from V.trans (pB ae (ag.trans (by first|rfl|(cases y<;>cases z<;>rfl)|(cases z<;>rfl)))))
    go_wp2_with (first|(refine hR E nE (nD _) rfl rfl rfl rfl ?_));refine af.mono ?_;rintro e ar ⟨rfl,o⟩;have O:=hJ S o;obtain⟨K,F⟩:=hg (ah.to o) (E.to o);clear o;have aH:=F.all;go_wp2;go_ret;exact⟨by rw[J.out];rfl,O⟩
   cases y;focus
    have J:=g' (show b=false from V.trans (pB ae (ag.trans (by first|rfl|(cases y<;>cases z<;>rfl)|(cases z<;>rfl)))));go_wp2_with (first|(refine hR E nE (nD _) rfl rfl rfl rfl ?_));refine af.mono ?_;rintro e ar ⟨rfl,o⟩;have O:=hJ S o;obtain⟨K,F⟩:=hg (ah.to o) (E.to o)
   rotate_left;focus
    cases z
    ·have J:=g' (show b=false from V.trans (pB ae (ag.trans (by first|rfl|(cases y<;>cases z<;>rfl)|(cases z<;>rfl)))))
     go_wp2_with (first|(refine hR E nE (nD _) rfl rfl rfl rfl ?_));refine af.mono ?_;rintro e ar ⟨rfl,o⟩;have O:=hJ S o;obtain⟨K,F⟩:=hg (ah.to o) (E.to o);clear o;have aH:=F.all;go_wp2_with (first|(refine iv K iZ (jm _) rfl rfl rfl rfl ?_));refine hI (aF _) fun aX r=>?_;have ai:=hJ O r;obtain⟨au,aj⟩:=hg (K.to r) (F.to r);clear r;have aI:=aj.all;go_wp2_with (first|(refine iv au iZ (jm _) rfl rfl rfl rfl ?_));refine hI (aG _) fun aY Q=>?_;have aJ:=hJ ai Q;clear Q;go_wp2;go_ret;exact⟨by rw[J.out];rfl,aJ⟩
    have aZ:=g' (show∀j m,j<k+1→c.mo[j]?=some m→p6 s m=true from fun j m X G=>by
     rcases Nat.lt_or_ge j k with h|h
     ·exact aW j m h G
     obtain rfl:j=k:=by omega
     rw[ae.out]at G;cases G;exact ag)
    go_wp2_with (first|(refine hR E nE (nD _) rfl rfl rfl rfl ?_));refine af.mono ?_;rintro e ar ⟨rfl,o⟩;have O:=hJ S o;obtain⟨K,F⟩:=hg (ah.to o) (E.to o);have aK:=ad.trans (o.mono ad.size)
   rotate_left;all_goals
    clear o;have aH:=F.all;go_wp2_with (first|(refine iv K iZ (jm _) rfl rfl rfl rfl ?_));refine hI (aF _) fun aX r=>?_;have ai:=hJ O r;obtain⟨au,aj⟩:=hg (K.to r) (F.to r)
   ·clear r
    have aI:=aj.all;go_wp2;go_ret;exact⟨by rw[J.out];rfl,ai⟩
   have aL:=aK.trans (r.mono aK.size);clear r;have aI:=aj.all;go_wp2_with (first|(refine iv au iZ (jm _) rfl rfl rfl rfl ?_));refine hI (aG _) fun aY Q=>?_;have aJ:=hJ ai Q;have a0:=aL.trans (Q.mono aL.size);clear Q;go_wp2;exact⟨⟨k+1,by go_num,by omega,a0,aZ⟩,by simp[intOf];omega⟩
  have aS:=h1 Z;obtain rfl:k=s.mo.n:=by omega
  have J:=g' (show b=true from V.trans (rR (fun j x X A=>Y j x (by rw[←aw.out];exact X) A)));have aa:Below w.heap.size w wr:=I.trans (R.mono I.size);clear Y;go_wp2;go_ret;exact⟨by rw[J.out];rfl,aa⟩
open Classical in
noncomputable def qP(xs:List Nat)(rs:List (List Nat)):Bool:=decide (hq.qI xs rs)
theorem Es(A B:Option Addr)(n c f d:Nat)(rs:List (List Nat))(xs:List Nat)(w:World)(r:hq.ki w w.heap.size A n rs)(z:hq.ie w w.heap.size B f xs)(D:f≤1000000)(E:∀i,i<n→(hq.ro rs i).length≤1000000)(b:Bool)(o:b=qP xs rs):
 Calls prog 165 #[.slice A n c,.slice B f d] w fun e w'=>e= .returned (.int .i64 (if b=true then 0 else 60))∧w=w':=by
 unfold qP at o;by_cases h:hq.qI xs rs
 ·obtain rfl:b=true:=by rw[o];simpa using h
  exact hq.lV A B n c f d rs xs h w r z D
 obtain rfl:b=false:=by rw[o];simpa using h
 exact hq.pW A B n c f d rs xs h w r z D E
noncomputable def p7(s:hA)(c:hl):Bool:=qP c.mm c.rs&&(List.range 128).all (fun j=>decide (j<s.me.n)|| !(hq.kH c.mm (j:Nat)))
theorem Et(s:hA)(c:hl)(w:World)(h:Lay s c w w.heap.size)(S:∀i,i<s.ri.n→(hq.ro c.rs i).length≤1000000)(T:s.ma.n≤1000000)(ap:s.me.n≤1000000)(b:Bool)(o:b=p7 s c):
 Calls prog 100 #[.agg s.cs] w fun e w'=>e= .returned (.bool b)∧Below w.heap.size w w':=by
 unfold p7 at o;obtain⟨U,F⟩:=hk (qP c.mm c.rs);have V:=g' (fun(W:World) (D:Below w.heap.size w W)=>Es s.ri.A s.ma.A s.ri.n s.ri.c s.ma.n s.ma.c c.rs c.mm W ((h.ri.below D).more D.size) ((h.ma.below D).more D.size) T S U F);rw[←F]at o;clear F;have ag:=g' h.ma;obtain⟨X,Y,r,Z⟩:=iF w s.cs 166;obtain⟨G,aa⟩:=hg Z Y;clear Y Z;clear h S;cases U
 ·subst o
  go_enter func100,ntmps100;go_upto_region 1 with(fail)
  rw[aa.out];have ah:=G.all;go_wp2_with fail;refine hE (V _ r) ?_;go_wp2;go_ret;exact⟨by rfl,r⟩
 rw[Bool.true_and]at o;have ab:=g' o;clear o;go_enter func100,ntmps100;go_upto_region 1 with(fail)
 rw[aa.out];have ah:=G.all;go_wp2_with fail;refine hE (V _ r) ?_;go_wp2;go_loopw [3] (fun I wr=>∃k:Nat,I= .int .i64 k∧s.me.n≤k∧k≤s.me.n+128∧Below X.heap.size X wr∧∀j,s.me.n≤j→j<k→hq.kH c.mm (j:Nat)=false) (fun I _=>s.me.n+128-(intOf I).toNat)
 case atStart=>exact⟨s.me.n,rfl,hj,by omega,hz,fun j z ai=>absurd z (by omega)⟩
 case round=>
  obtain⟨k,rfl,aq,ar,J,E⟩:=hrel;have K:Below w.heap.size w wr:=r.trans (J.mono r.size);by_cases O:k<128
  ·have aj:=hZ O
   have ak:decide ((k:Int)<128)=true:=by simp;omega
   obtain⟨al,ac,am⟩:=hs (G.to J) (hq.qE s.ma.A s.ma.n s.ma.c w.heap.size k c.mm wr (ag.below K) T (by omega)) (show∀y,hq.kH c.mm (k:Nat)=y→hq.kH c.mm (k:Nat)=y from fun _ h=>h);obtain⟨y,Q⟩:=hk (hq.kH c.mm (k:Nat));rw[←Q]at ac;obtain⟨ad,an⟩:=hg Q E;have au:=al.all;clear Q E am;go_wp2_with fail;refine ac.mono ?_;rintro e av ⟨rfl,q,rfl⟩;cases y
   ·have ao:=g' (show∀j,s.me.n≤j→j<k+1→hq.kH c.mm (j:Nat)=false from fun j z ai=>by
     rcases Nat.lt_or_ge j k with h|h
     ·exact an j z h
     obtain rfl:j=k:=by omega
     exact ad.symm)
    go_wp2;exact⟨⟨k+1,by go_num,by omega,by omega,below_drewN J q,ao⟩,by simp[intOf];omega⟩
   have R:=g' (show b=false from ab.trans (pB (l:=List.range 128) (x:=k) (k:=k) (List.getElem?_range O) (by rw[←ad.out];simp;omega)));go_wp2;go_ret;exact⟨by rw[R.out];rfl,below_drewN K q⟩
  have aj:=h1 O;have ak:decide ((k:Int)<128)=false:=by simp;omega
  have R:=g' (show b=true from ab.trans (rR fun j x ae af=>by
   rw[List.length_range]at ae;rw[List.getElem?_range ae]at af;cases af;by_cases z:j<s.me.n
   ·simp[z]
   have:=E j (by omega) (by omega);simp[this]))
  clear E;go_wp2;go_ret;exact⟨by rw[R.out];rfl,K⟩
open Maps
theorem Eu:laidOutB prog=true:=by kernel_rfl
theorem Ev:(57:TypeId)<prog.types.size:=of_decide_eq_true (by kernel_rfl)
theorem Ew:(match prog.underlying 57 with|some (.array _ _)|some (.struct _)=>true|_=>false)=true:=by rw[nF]
theorem lY:Keyed prog 57:=Keyed.of_law (deep_law_laid Eu (m:=2) (by omega) Ev (by kernel_rfl) Ew)
theorem Ex:prog.keyType 57=true:=by kernel_rfl
theorem yj:prog.cellsOf 57=3:=by kernel_rfl
theorem Ey(a t:Int)(F: -9223372036854775808≤a∧a≤9223372036854775807)(G: -9223372036854775808≤t∧t≤9223372036854775807):
 keyOf prog 57 (.agg #[.int .i64 a,.int .i64 t,.int .u64 0])=some (.string (keyBytes [.int .i64 a,.int .i64 t,.int .u64 0])):=by
 have o:(Lit.int .i64 a).wf=true:=by simp[Lit.wf,IntKind.min,IntKind.max,IntKind.signed,IntKind.bits];omega
 have r:(Lit.int .i64 t).wf=true:=by simp[Lit.wf,IntKind.min,IntKind.max,IntKind.signed,IntKind.bits];omega
 have z:(Lit.int .u64 0).wf=true:=by decide
 obtain⟨m,A⟩:∃m,prog.types.size=m+2:=⟨prog.types.size-2,by have:2≤prog.types.size:=of_decide_eq_true (by kernel_rfl);omega⟩;unfold keyOf;simp only[nF];rw[if_pos (by simp[Ex,Value.formed,nF,yj]),A];unfold Program.keyLits;simp only[nF,Value.cells];rw[if_pos (by rw[yj];exact⟨rfl,by simp⟩)];have D:prog.cellsOf 3=1:=by kernel_rfl
 have E:prog.cellsOf 22=1:=by kernel_rfl
 simp[Program.keyLits,j9,ky,D,E,o,r,z]
def p8(D:DataW Unit):Prop:=IsMap D∧∀o,∃r,D.atKey o (.lit (.bool false))= .lit (.bool r)
theorem p8.nil:p8 (.map []):=⟨⟨[],rfl⟩,fun _=>⟨false,rfl⟩⟩
theorem p8.put{D:DataW Unit}(h:p8 D){k:Lit}(r:WideAt.IsKeyLit k):p8 (D.put k (.lit (.bool true))):=
 ⟨h.1.put k _,fun o=>by
   by_cases e:o=k
   ·subst e;exact⟨true,atKey_put_same h.1 r _ _⟩
   rw[atKey_put_other e];exact h.2 o⟩
theorem mX{H:Type}(w:World){k:TypeId}(K:Keyed P k)(F:P.underlying t=some (.map k e))(z:P.underlying e=some .bool)(G:(zeroValue e).run P w= .ok (.bool false) w)(b n:Nat)(D:DataW H)(I:w.ownsMap P k (plainElem P e) b n D)(A:Value)(E:Lit)(J:keyOf P k A=some E)
 (r:Bool) (O:D.atKey E (.lit (.bool false))= .lit (.bool r)):(Instr.lookup t (.map (some b)) A false).run P w= .ok (.bool r) w:=by
 obtain⟨v,R,Q,o⟩:=I.lookup K F G (zd:= .lit (.bool false)) (zp:=[]) (by simp[plainElem,z]) J;rw[O]at o;obtain rfl:v= .bool r:=by
  cases v<;>simp[plainElem,z]at o
  rw[o.1]
 exact Q
theorem lr{w':World}{k:TypeId}{r:Value→Option (DataW Unit×List MemPlace)}{D:DataW Unit}(h:w.ownsMap P k r b n D)(o:Below w.heap.size w w'):w'.ownsMap P k r b n D:=
 h.kept (row:=none) ⟨o.os,o.tape,o.output,o.size,fun i z _=>o.block i z⟩ (by simp)
end hB
end Go.Proofs.YtffbipddbnkdjaaGreat
