/- What functions compute at any arguments, and plain facts: which fields a deed's kind has; a deed's bytes; Whether a motion's deed has the fields alone that its kind uses: bare, same; Whether a motion's deed is its bare one: same. Conditions: those that each theorem names. -/
import Derived.Test.YtffbipddbnkdjaaGreatZ09
import Derived.Test.YtffbipddbnkdjaaGreatZ16
set_option maxRecDepth 100000
set_option maxHeartbeats 40000000
set_option linter.all false
open Go Go.Proofs.Tryz
open Go.Value(int)
open Go.IntKind(i64 u64)
variable{A T:Option Addr}{n g b L k B i x a m j q c p s r d h u N y:Nat}{E z:Int}{P:Program}{w W X Z:World}{e t:TypeId}{f:Nat→Value}{l:List Bool}{V U:Value}{Y:List Nat}{S:List Value}{R:List Int}{Q:Array Value}{O:List (List Nat)}{M:Bool}{K:Ending}{J:Addr}{I:Nat→Nat}{H:Option Nat}
namespace Go.Proofs.YtffbipddbnkdjaaGreat
namespace hB
open RowKit
open hG hf hU
def j'(k o f:Int):Bool:=
 if k=1 then f==1||(f==3||f==4)else if k=2 then f==1||f==4 else if k=3 then f==1||(f==2||f==4)else if k=4 then f==1||f==2 else if k=5 then f==5
 else if k=6 then f==1||(f==6||((o==1&&f==7)||(o==2&&(f==3||f==4))))else if k=7 then f==1||(f==2||f==8)else false
def k8(d:DD)(f:Int):Prop:=∀w:World,Calls prog 72 #[.agg d.cs,.int .i64 f] w fun e w'=>e= .returned (.bool (j' d.k d.wh f))∧Below w.heap.size w w'
theorem DU(d:DD)(f:Int)(r:Hid (d.k=1)):k8 d f:=fun w=>by
 obtain⟨O,z,A,o⟩:=iF w d.cs 112;obtain⟨Q,G,I⟩:=hs o A z;have J:=o.all;clear o A z;rw[r.out]at J;obtain⟨a,D⟩:=ho (f==1);obtain⟨b,E⟩:=ho (f==3);obtain⟨c,F⟩:=ho (f==4);have K:=g' (show j' d.k d.wh f=(a||(b||c)) by rw[r.out,←D,←E,←F];rfl);have R:decide (f=1)=a:=D;have S:decide (f=3)=b:=E;have T:decide (f=4)=c:=F;cases a<;>cases b<;>cases c
 all_goals
  go_enter func72,ntmps72;go_upto_region 1 with(fail)
  rw[I.out];go_wp2;go_ret;exact⟨by rw[K.out];rfl,G.out⟩
theorem DV(d:DD)(f:Int)(r:Hid (d.k=2)):k8 d f:=fun w=>by
 obtain⟨K,z,A,o⟩:=iF w d.cs 112;obtain⟨O,F,G⟩:=hs o A z;have I:=o.all;clear o A z;rw[r.out]at I;obtain⟨a,D⟩:=ho (f==1);obtain⟨b,E⟩:=ho (f==4);have J:=g' (show j' d.k d.wh f=(a||b) by rw[r.out,←D,←E];rfl);have Q:decide (f=1)=a:=D;have R:decide (f=4)=b:=E;cases a<;>cases b
 all_goals
  go_enter func72,ntmps72;go_upto_region 1 with(fail)
  rw[G.out];go_wp2;go_ret;exact⟨by rw[J.out];rfl,F.out⟩
theorem DW(d:DD)(f:Int)(r:Hid (d.k=3)):k8 d f:=fun w=>by
 obtain⟨O,z,A,o⟩:=iF w d.cs 112;obtain⟨Q,G,I⟩:=hs o A z;have J:=o.all;clear o A z;rw[r.out]at J;obtain⟨a,D⟩:=ho (f==1);obtain⟨b,E⟩:=ho (f==2);obtain⟨c,F⟩:=ho (f==4);have K:=g' (show j' d.k d.wh f=(a||(b||c)) by rw[r.out,←D,←E,←F];rfl);have R:decide (f=1)=a:=D;have S:decide (f=2)=b:=E;have T:decide (f=4)=c:=F;cases a<;>cases b<;>cases c
 all_goals
  go_enter func72,ntmps72;go_upto_region 1 with(fail)
  rw[I.out];go_wp2;go_ret;exact⟨by rw[K.out];rfl,G.out⟩
theorem DX(d:DD)(f:Int)(r:Hid (d.k=4)):k8 d f:=fun w=>by
 obtain⟨K,z,A,o⟩:=iF w d.cs 112;obtain⟨O,F,G⟩:=hs o A z;have I:=o.all;clear o A z;rw[r.out]at I;obtain⟨a,D⟩:=ho (f==1);obtain⟨b,E⟩:=ho (f==2);have J:=g' (show j' d.k d.wh f=(a||b) by rw[r.out,←D,←E];rfl);have Q:decide (f=1)=a:=D;have R:decide (f=2)=b:=E;cases a<;>cases b
 all_goals
  go_enter func72,ntmps72;go_upto_region 1 with(fail)
  rw[G.out];go_wp2;go_ret;exact⟨by rw[J.out];rfl,F.out⟩
theorem DY(d:DD)(f:Int)(r:Hid (d.k=5)):k8 d f:=fun w=>by
 obtain⟨J,z,A,o⟩:=iF w d.cs 112;obtain⟨K,E,F⟩:=hs o A z;have G:=o.all;clear o A z;rw[r.out]at G;obtain⟨a,D⟩:=ho (f==5);have I:=g' (show j' d.k d.wh f=(a) by rw[r.out,←D];rfl);have O:decide (f=5)=a:=D;cases a;all_goals
  go_enter func72,ntmps72;go_upto_region 1 with(fail)
  rw[F.out];go_wp2;go_ret;exact⟨by rw[I.out];rfl,E.out⟩
theorem DZ(d:DD)(f:Int)(r:Hid (d.k=6)):k8 d f:=fun w=>by
 obtain⟨T,z,A,o⟩:=iF w d.cs 112;obtain⟨U,O,Q⟩:=hs o A z;have R:=o.all;clear o A z;rw[r.out]at R;obtain⟨a,D⟩:=ho (f==1);obtain⟨b,E⟩:=ho (f==6);obtain⟨c,F⟩:=ho (d.wh==1);obtain⟨e,G⟩:=ho (f==7);obtain⟨g,I⟩:=ho (d.wh==2);obtain⟨h,J⟩:=ho (f==3);obtain⟨i,K⟩:=ho (f==4);have S:=g' (show j' d.k d.wh f=(a||(b||((c&&e)||(g&&(h||i))))) by rw[r.out,←D,←E,←F,←G,←I,←J,←K];rfl);have V:decide (f=1)=a:=D;have W:decide (f=6)=b:=E;have X:decide (d.wh=1)=c:=F;have Y:decide (f=7)=e:=G;have Z:decide (d.wh=2)=g:=I;have aa:decide (f=3)=h:=J;have ab:decide (f=4)=i:=K;cases a<;>cases b<;>cases c<;>cases e<;>cases g<;>cases h<;>cases i
 all_goals
  go_enter func72,ntmps72;go_upto_region 1 with(fail)
  rw[Q.out];go_wp2;go_ret;exact⟨by rw[S.out];rfl,O.out⟩
theorem D0(d:DD)(f:Int)(r:Hid (d.k=7)):k8 d f:=fun w=>by
 obtain⟨O,z,A,o⟩:=iF w d.cs 112;obtain⟨Q,G,I⟩:=hs o A z;have J:=o.all;clear o A z;rw[r.out]at J;obtain⟨a,D⟩:=ho (f==1);obtain⟨b,E⟩:=ho (f==2);obtain⟨c,F⟩:=ho (f==8);have K:=g' (show j' d.k d.wh f=(a||(b||c)) by rw[r.out,←D,←E,←F];rfl);have R:decide (f=1)=a:=D;have S:decide (f=2)=b:=E;have T:decide (f=8)=c:=F;cases a<;>cases b<;>cases c
 all_goals
  go_enter func72,ntmps72;go_upto_region 1 with(fail)
  rw[I.out];go_wp2;go_ret;exact⟨by rw[K.out];rfl,G.out⟩
theorem D1(d:DD)(f:Int)(h:d.k≠1∧d.k≠2∧d.k≠3∧d.k≠4∧d.k≠5∧d.k≠6∧d.k≠7):k8 d f:=fun w=>by
 have r:Below w.heap.size w (w.alloc (.cells d.cs 112)):=hz.alloc hj _;have o:ha (w.alloc (.cells d.cs 112)) w.heap.size 112 d.cs:=ha.new w _ _ _ rfl;obtain⟨A,z⟩:∃A,w.alloc (.cells d.cs 112)=A:=⟨_,rfl⟩;rw[z]at o r;obtain⟨I,E,F⟩:=hs o r z;have J:=o.all;clear o r z;have D:j' d.k d.wh f=false:=by unfold j';simp[h]
 have G:=g' (show Ending.returned (.bool false)=Ending.returned (.bool (j' d.k d.wh f)) by rw[D]);have K:(d.k==1)=false:=by simpa using h.1
 have O:(d.k==2)=false:=by simpa using h.2.1
 have Q:(d.k==3)=false:=by simpa using h.2.2.1
 have R:(d.k==4)=false:=by simpa using h.2.2.2.1
 have S:(d.k==5)=false:=by simpa using h.2.2.2.2.1
 have T:(d.k==6)=false:=by simpa using h.2.2.2.2.2.1
 have U:(d.k==7)=false:=by simpa using h.2.2.2.2.2.2
 have V:decide (d.k=1)=false:=by simpa using h.1
 have W:decide (d.k=2)=false:=by simpa using h.2.1
 have X:decide (d.k=3)=false:=by simpa using h.2.2.1
 have Y:decide (d.k=4)=false:=by simpa using h.2.2.2.1
 have Z:decide (d.k=5)=false:=by simpa using h.2.2.2.2.1
 have aa:decide (d.k=6)=false:=by simpa using h.2.2.2.2.2.1
 have ab:decide (d.k=7)=false:=by simpa using h.2.2.2.2.2.2
 clear h D;go_enter func72,ntmps72;go_upto_region 1 with(fail)
 rw[F.out];go_wp2;go_ret;exact⟨G.out,E.out⟩
theorem lp(d:DD)(f:Int):k8 d f:=by
 by_cases o:d.k=1
 ·exact DU d f (g' o)
 by_cases r:d.k=2
 ·exact DV d f (g' r)
 by_cases z:d.k=3
 ·exact DW d f (g' z)
 by_cases A:d.k=4
 ·exact DX d f (g' A)
 by_cases D:d.k=5
 ·exact DY d f (g' D)
 by_cases E:d.k=6
 ·exact DZ d f (g' E)
 by_cases F:d.k=7
 ·exact D0 d f (g' F)
 exact D1 d f ⟨o,r,z,A,D,E,F⟩
theorem kX(d:DD):(prog.info? 112).map (·.size)=some d.cs.size:=by kernel_rfl
theorem s3(d:DD):∀(j:Nat) (v:Value),(d.p.cs.toList)[j]?=some v→d.cs[8+j]?=some v:=oz (M:=d.cs) 8 (by kernel_rfl)
def BI(L m:Nat)(o:World)(v:Value)(w:World):Prop:=jI L m v w∧Below L o w
theorem D6(d:DD)(av:d.p.jE)(aw:d.am<18446744073709551616)(w:World)(bs:List Nat)(ax:hq.ie w w.heap.size d.bi.A d.bi.n bs)(ay:d.bi.n≤100):Calls prog 75 #[.agg d.cs] w (BQ 1000 w):=by
 obtain⟨o,az,W,ag⟩:=iF w d.cs 112;obtain⟨L,T⟩:=hk o.heap.size;obtain⟨aA,D,bA,aB,bB,bC,bD,cu,aC⟩:=og (show w.heap.size≤L from by rw[T];exact W.size) (fun(wr:World) (U:Below L o wr)=>ag.below U (by rw[T];exact ag.lt)) (fun(wr:World) (U:Below L o wr)=>(show hq.ie wr wr.heap.size d.bi.A d.bi.n bs from(ax.to W).to (by rw[←T];exact U))) az W av aw T ay;obtain⟨X,z⟩:=hg (show BI L 0 o (.slice none 0 0) o from⟨jI.nil _ _,hz⟩) (fun(wr:World) (U:Below L o wr)=>show L≤wr.heap.size by have:=U.size;omega);clear W ag az ax av aw ay T;go_enter func75,ntmps75;go_upto_region 1 with(fail)
 rw[aB.out];clear aB;have bE:=(D.out _ X.2).all;go_wp2_with fail;refine(oJ _ L 0 _ _ X.1 (z.out _ X.2) (by omega)).mono ?_;rintro e bF ⟨bG,rfl,aD,aE⟩;have Y:=g' (show BI L 10 o bG bF from⟨aD,X.2.trans aE⟩);clear aD aE;clear bE;have aF:=D.out _ Y.2;go_wp2_with (first|(refine hR aF kj (kX d) rfl rfl rfl rfl ?_));refine hI (lp d 1 _) fun bH ah=>?_;have G:=g' (show BI L 10 o _ bH from⟨Y.1.to ah,Y.2.trans (ah.mono (z.out _ Y.2))⟩);clear aF ah;obtain⟨bI,aG⟩:=ho (j' d.k d.wh 1);rw[aG];clear aG;go_upto_if 10 with(fail)
 go_cut [3] (fun E r=>BI L 20 o E r)
 case first=>
  cases bI
  ·go_wp2
   go_meet;exact⟨G.1.more (by omega),G.2⟩
  have cv:=(D.out _ G.2).all;go_wp2_with fail;refine(oJ _ L 10 _ _ G.1 (z.out _ G.2) (by omega)).mono ?_;rintro e bJ ⟨bK,rfl,aH,aI⟩;have aJ:=g' (show BI L 20 o bK bJ from⟨aH,G.2.trans aI⟩);clear aH aI;go_wp2;go_meet;exact⟨aJ.1.more (by omega),aJ.2⟩
 case rest=>
  obtain⟨cw,rfl⟩:∃r:World,r=wc:=⟨_,rfl⟩;have Z:=g' hcut;clear hcut;have aK:=D.out _ Z.2;go_wp2_with (first|(refine hR aK kj (kX d) rfl rfl rfl rfl ?_));refine hI (lp d 2 _) fun bL ai=>?_;have I:=g' (show BI L 20 o _ bL from⟨Z.1.to ai,Z.2.trans (ai.mono (z.out _ Z.2))⟩);clear aK ai;obtain⟨bM,aL⟩:=ho (j' d.k d.wh 2);rw[aL];clear aL;go_upto_if 16 with(fail)
  go_cut [3] (fun E r=>BI L 30 o E r)
  case first=>
   cases bM
   ·go_wp2
    go_meet;exact⟨I.1.more (by omega),I.2⟩
   have cx:=(D.out _ I.2).all;go_wp2_with fail;refine(oJ _ L 20 _ _ I.1 (z.out _ I.2) (by omega)).mono ?_;rintro e bN ⟨bO,rfl,aM,aN⟩;have aO:=g' (show BI L 30 o bO bN from⟨aM,I.2.trans aN⟩);clear aM aN;go_wp2;go_meet;exact⟨aO.1.more (by omega),aO.2⟩
  case rest=>
   obtain⟨cy,rfl⟩:∃r:World,r=wc:=⟨_,rfl⟩;have aa:=g' hcut;clear hcut;have aP:=D.out _ aa.2;go_wp2_with (first|(refine hR aP kj (kX d) rfl rfl rfl rfl ?_));refine hI (lp d 5 _) fun bP aj=>?_;have J:=g' (show BI L 30 o _ bP from⟨aa.1.to aj,aa.2.trans (aj.mono (z.out _ aa.2))⟩);clear aP aj;obtain⟨bQ,aQ⟩:=ho (j' d.k d.wh 5);rw[aQ];clear aQ;go_upto_if 22 with(fail)
   go_cut [3] (fun E r=>BI L 150 o E r)
   case first=>
    cases bQ
    ·go_wp2
     go_meet;exact⟨J.1.more (by omega),J.2⟩
    have cz:=(D.out _ J.2).all;go_wp2_with fail;refine(oJ _ L 30 _ _ J.1 (z.out _ J.2) (by omega)).mono ?_;rintro e bR ⟨bS,rfl,aR,aS⟩;have V:=g' (show BI L 40 o bS bR from⟨aR,J.2.trans aS⟩);clear aR aS;have bT:=(D.out _ V.2).all;go_wp2_with fail;refine(D2 _ _ _ bs _ (bA.out _ V.2) (by have:=aC.out;omega)).mono ?_;rintro e cA ⟨cB,rfl,aT,ak⟩;obtain⟨bU,bV,aU⟩:=hs (V.1.to ak) (aT.more (show 10+d.bi.n≤110 by have:=aC.out;omega)) (V.2.trans (ak.mono (z.out _ V.2)));clear aT ak bT;go_wp2_with (at_builtin;refine oq rfl _ _ rfl _ _ rfl rfl bU.out bV.out (z.out _ aU.out) (by omega) ?_);intro bW bX aV aW;have aX:=g' (show BI L 150 o bW bX from⟨aV,aU.trans aW⟩);clear aV aW;go_wp2;go_meet;exact⟨aX.1.more (by omega),aX.2⟩
   case rest=>
    obtain⟨cC,rfl⟩:∃r:World,r=wc:=⟨_,rfl⟩;have ab:=g' hcut;clear hcut;have aY:=D.out _ ab.2;go_wp2_with (first|(refine hR aY kj (kX d) rfl rfl rfl rfl ?_));refine hI (lp d 6 _) fun bY al=>?_;have K:=g' (show BI L 150 o _ bY from⟨ab.1.to al,ab.2.trans (al.mono (z.out _ ab.2))⟩);clear aY al;obtain⟨bZ,aZ⟩:=ho (j' d.k d.wh 6);rw[aZ];clear aZ;go_upto_if 33 with(fail)
    go_cut [3] (fun E r=>BI L 160 o E r)
    case first=>
     cases bZ
     ·go_wp2
      go_meet;exact⟨K.1.more (by omega),K.2⟩
     have cD:=(D.out _ K.2).all;go_wp2_with fail;refine(oJ _ L 150 _ _ K.1 (z.out _ K.2) (by omega)).mono ?_;rintro e b0 ⟨b1,rfl,a0,a1⟩;have a2:=g' (show BI L 160 o b1 b0 from⟨a0,K.2.trans a1⟩);clear a0 a1;go_wp2;go_meet;exact⟨a2.1.more (by omega),a2.2⟩
    case rest=>
     obtain⟨cE,rfl⟩:∃r:World,r=wc:=⟨_,rfl⟩;have ac:=g' hcut;clear hcut;have a3:=D.out _ ac.2;go_wp2_with (first|(refine hR a3 kj (kX d) rfl rfl rfl rfl ?_));refine hI (lp d 7 _) fun b2 an=>?_;have O:=g' (show BI L 160 o _ b2 from⟨ac.1.to an,ac.2.trans (an.mono (z.out _ ac.2))⟩);clear a3 an;obtain⟨b3,a4⟩:=ho (j' d.k d.wh 7);rw[a4];clear a4;go_upto_if 39 with(fail)
     go_cut [3] (fun E r=>BI L 400 o E r)
     case first=>
      cases b3
      ·go_wp2
       go_meet;exact⟨O.1.more (by omega),O.2⟩
      have b4:=D.out _ O.2;go_wp2_with (first|(refine wpList_load_mid rfl 110 (.tmp 41) rfl w.heap.size 8 rfl d.p.cs.toList _ (fun j v b5=>b4.cell (s3 d j v b5)) rO rfl (by kernel_rfl) ?_));refine(D5 d.p bC.out _).mono ?_;rintro e cF ⟨cG,rfl,a5,ao⟩;obtain⟨b6,b7,a6⟩:=hs (O.1.to ao) a5 (O.2.trans (ao.mono (z.out _ O.2)));clear a5 ao;go_wp2_with (at_builtin;refine oq rfl _ _ rfl _ _ rfl rfl b6.out b7.out (z.out _ a6.out) (by omega) ?_);intro b8 b9 a7 a8;have a9:=g' (show BI L 400 o b8 b9 from⟨a7,a6.trans a8⟩);clear a7 a8;go_wp2;go_meet;exact⟨a9.1.more (by omega),a9.2⟩
     case rest=>
      obtain⟨cH,rfl⟩:∃r:World,r=wc:=⟨_,rfl⟩;have ad:=g' hcut;clear hcut;have a':=D.out _ ad.2;go_wp2_with (first|(refine hR a' kj (kX d) rfl rfl rfl rfl ?_));refine hI (lp d 3 _) fun b' ap=>?_;have Q:=g' (show BI L 400 o _ b' from⟨ad.1.to ap,ad.2.trans (ap.mono (z.out _ ad.2))⟩);clear a' ap;obtain⟨ca,ba⟩:=ho (j' d.k d.wh 3);rw[ba];clear ba;go_upto_if 46 with(fail)
      go_cut [3] (fun E r=>BI L 410 o E r)
      case first=>
       cases ca
       ·go_wp2
        go_meet;exact⟨Q.1.more (by omega),Q.2⟩
       have cI:=(D.out _ Q.2).all;go_wp2_with fail;refine(oJ _ L 400 _ _ Q.1 (z.out _ Q.2) (by omega)).mono ?_;rintro e cb ⟨cc,rfl,bb,bc⟩;have bd:=g' (show BI L 410 o cc cb from⟨bb,Q.2.trans bc⟩);clear bb bc;go_wp2;go_meet;exact⟨bd.1.more (by omega),bd.2⟩
      case rest=>
       obtain⟨cJ,rfl⟩:∃r:World,r=wc:=⟨_,rfl⟩;have ae:=g' hcut;clear hcut;have be:=D.out _ ae.2;go_wp2_with (first|(refine hR be kj (kX d) rfl rfl rfl rfl ?_));refine hI (lp d 4 _) fun cd aq=>?_;have R:=g' (show BI L 410 o _ cd from⟨ae.1.to aq,ae.2.trans (aq.mono (z.out _ ae.2))⟩);clear be aq;obtain⟨ce,bf⟩:=ho (j' d.k d.wh 4);rw[bf];clear bf;go_upto_if 52 with(fail)
       go_cut [3] (fun E r=>BI L 420 o E r)
       case first=>
        cases ce
        ·go_wp2
         go_meet;exact⟨R.1.more (by omega),R.2⟩
        have cK:=(D.out _ R.2).all;go_wp2_with fail;refine(qy d.am bD.out _).mono ?_;rintro e cL ⟨cM,rfl,bg,ar⟩;obtain⟨cf,cg,bh⟩:=hs (R.1.to ar) bg (R.2.trans (ar.mono (z.out _ R.2)));clear bg ar;go_wp2_with (at_builtin;refine oq rfl _ _ rfl _ _ rfl rfl cf.out cg.out (z.out _ bh.out) (by omega) ?_);intro ch ci bj bk;have bl:=g' (show BI L 420 o ch ci from⟨bj,bh.trans bk⟩);clear bj bk;go_wp2;go_meet;exact⟨bl.1.more (by omega),bl.2⟩
       case rest=>
        obtain⟨cN,rfl⟩:∃r:World,r=wc:=⟨_,rfl⟩;have af:=g' hcut;clear hcut;have bm:=D.out _ af.2;go_wp2_with (first|(refine hR bm kj (kX d) rfl rfl rfl rfl ?_));refine hI (lp d 8 _) fun cj au=>?_;have S:=g' (show BI L 420 o _ cj from⟨af.1.to au,af.2.trans (au.mono (z.out _ af.2))⟩);clear bm au;obtain⟨ck,bn⟩:=ho (j' d.k d.wh 8);rw[bn];clear bn;go_upto_if 59 with(fail)
        go_cut [3] (fun E r=>BI L 440 o E r)
        case first=>
         cases ck
         ·go_wp2
          go_meet;exact⟨S.1.more (by omega),S.2⟩
         have cO:=(D.out _ S.2).all;go_wp2_with fail;refine(oJ _ L 420 _ _ S.1 (z.out _ S.2) (by omega)).mono ?_;rintro e cl ⟨cm,rfl,bo,bp⟩;have F:=g' (show BI L 430 o cm cl from⟨bo,S.2.trans bp⟩);clear bo bp;have cn:=(D.out _ F.2).all;obtain⟨co,bq⟩:=ho d.ye;rw[bq]at cn;clear bq;cases co
         ·go_wp2_with fail
          refine(oJ _ L 430 _ _ F.1 (z.out _ F.2) (by omega)).mono ?_;rintro e cp ⟨cq,rfl,br,bt⟩;have bu:=g' (show BI L 440 o cq cp from⟨br,F.2.trans bt⟩);clear br bt;go_wp2;go_meet;exact⟨bu.1.more (by omega),bu.2⟩
         go_wp2_with fail;refine(oJ _ L 430 _ _ F.1 (z.out _ F.2) (by omega)).mono ?_;rintro e cr ⟨ct,rfl,bv,bw⟩;have bx:=g' (show BI L 440 o ct cr from⟨bv,F.2.trans bw⟩);clear bv bw;go_wp2;go_meet;exact⟨bx.1.more (by omega),bx.2⟩
        case rest=>
         obtain⟨cP,rfl⟩:∃r:World,r=wc:=⟨_,rfl⟩;have bz:=g' hcut;clear hcut;go_wp2;go_ret;exact⟨_,rfl,(bz.1.more (by omega)).low aA.out,bB.trans (bz.2.mono aA.out)⟩
open hC h0
section
variable {P:Program}
theorem qL{D:Array Oper}{E:List Oper}{r:Oper}{a:Act}{Q:Exit→Act→World→Prop}(F:Region.wanted r (yielded D a.tmps)=true)(z:TypeId)(x:Operand)(G:r.op= .load z x)
 (b o:Nat) (I:a.eval x= .pointer (some ⟨b,o,none⟩)) (A:List Value) (d:TypeDesc) (J:w.rangeAt b o A)
 (K:P.underlying z=some d) (O:d.isRow=true) (R:(P.info? z).map (·.size)=some A.length)
 (h:wpList P D Q E (a.put r.dst (.agg A.toArray)) w):wpList P D Q (r::E) a w:=
 BigFrame.wpList_want F fun _ S=>wp_load_mid z x G b o I A d J K O R (S _ _ h)
end
theorem DD.par(d:DD):∀(j:Nat) (v:Value),(d.p.cs.toList)[j]?=some v→d.cs[8+j]?=some v:=oz (M:=d.cs) 8 rfl
structure oK (w:World) (d o:DD) (W:World):Prop where
 hb:Below w.heap.size w W
 b0:ha W w.heap.size 70 d.cs
 b1:ha W (w.heap.size+1) 70 DD.zero.cs
 b2:ha W (w.heap.size+2) 70 o.cs
theorem oK.drew{d o:DD}(h:oK w d o W):oK w d o W.drew:=⟨h.hb.drew,h.b0.drew,h.b1.drew,h.b2.drew⟩
theorem oK.put{d o o':DD}(h:oK w d o W)(j:Nat)(v:Value)(r:o'.cs=o.cs.setIfInBounds j v):oK w d o' (W.setCell ⟨w.heap.size+2,j,none⟩ v):=
 ⟨h.hb.setCell (p:=⟨w.heap.size+2,j,none⟩) (by simp) v,h.b0.other (by simp) v,h.b1.other (by simp) v,by rw[r];exact h.b2.set j v⟩
def DD.base(d:DD):DD:={DD.zero with k:=d.k,ac:=d.ac}
def qM(d:DD)(w:World)(e:Ending)(w':World):Prop:=∃x:Nat,e= .returned (.agg ({d with am:=x}:DD).cs)∧Below w.heap.size w w'
theorem qM.mk{d o:DD}{w':World}(r:o={d with am:=x})(z:Below w.heap.size w w'):qM d w (.returned (.agg o.cs)) w':=⟨x,by rw[r],z⟩
theorem Ed(d:DD)(ai:d.k=6)(au:mT d)(w:World):Calls prog 268 #[.agg d.cs] w (qM d w):=by
 have aj:Below w.heap.size w ((w.alloc (.cells d.cs 70)).alloc (.cells DD.zero.cs 70)):=(hz.alloc hj _).alloc (by simp) _;have ae:ha ((w.alloc (.cells d.cs 70)).alloc (.cells DD.zero.cs 70)) w.heap.size 70 d.cs:=(ha.new w _ _ _ rfl).alloc _;have ak:ha ((w.alloc (.cells d.cs 70)).alloc (.cells DD.zero.cs 70)) (w.heap.size+1) 70 DD.zero.cs:=ha.new _ _ _ _ (by simp);have al:((w.alloc (.cells d.cs 70)).alloc (.cells DD.zero.cs 70)).heap.size=w.heap.size+2:=by simp
 obtain⟨aJ,an⟩:=ho ((w.alloc (.cells d.cs 70)).alloc (.cells DD.zero.cs 70));rw[an]at aj ae ak al;have U:Hid ((w.alloc (.cells d.cs 70)).alloc (.cells o0 70)=aJ):=g' an;have aK:=ae.all;obtain⟨I,r⟩:=hg (And.intro aj (And.intro ae (And.intro ak al))) (And.intro ai (au ai));clear an aj ae ak al au ai;go_enter func268,ntmps268;go_upto_region 1 with(fail)
 rw[U.out];clear U;go_upto_region 2 with(first|refine wpList_build rfl 70 #[(0,.tmp 5),(1,.tmp 7)] rfl (.agg d.base.cs) (fun w'=>by kernel_rfl) ?_|(refine jD rfl 70 (.tmp 3) (.tmp 8) rfl d.base.cs rfl rfl (jo _) rfl (k7 _) ?_;intro ao av af aL))
 have aw:ha ao (w.heap.size+2) 70 d.base.cs:=by rw[←I.2.2.2];exact av
 have V:=g' (show oK w d d.base ao from⟨I.1.trans (af.mono I.1.size),I.2.1.to af,I.2.2.1.to af,aw⟩);rw[I.2.2.2];clear av af aL aw aK I;have aM:=V.b0.all;have aN:(d.k==1)=false:=by rw[r.1];rfl
 have aO:(d.k==2)=false:=by rw[r.1];rfl
 have aP:(d.k==3)=false:=by rw[r.1];rfl
 have aQ:(d.k==4)=false:=by rw[r.1];rfl
 have aR:(d.k==5)=false:=by rw[r.1];rfl
 have aS:(d.k==7)=false:=by rw[r.1];rfl
 have aT:(d.k==6)=true:=by rw[r.1];rfl
 have ag:=V.b0.all;have aU:=V.b2.all;have aV:=V.b2.frozen 7;have o:=g' (V.put (o':={d.base with wh:=d.wh}) 7 (int i64 d.wh) rfl);go_upto_region 17 with(fail)
 obtain⟨z,ax⟩:=ho (ao.setCell ⟨w.heap.size+2,7,none⟩ (int i64 d.wh));rw[ax]at o⊢;clear ax ag aU aV aM aN aO aP aQ aR aT aS;have ag:=o.b0.all;by_cases R:d.wh=1
 case pos=>
  have aW:=g' R;have aX:=jU R;have ay:(d.wh==2)=false:=by simp;omega
  clear R;have az:=o.b2.there 8 24 (by show 8+24≤34;decide);have S:=g' (show oK w d ({d.base with wh:=d.wh,p:=d.p}) (z.setCells (w.heap.size+2) 8 d.p.cs.toList)from⟨iC o.hb (hn.setCells d.p.cs.toList 8 z (hn.refl (w.heap.size+2) z)) (by omega) o.hb.size,o.b0.hT (hn.setCells d.p.cs.toList 8 z (hn.refl (w.heap.size+2) z)) (by omega),o.b1.hT (hn.setCells d.p.cs.toList 8 z (hn.refl (w.heap.size+2) z)) (by omega),by have h:=ha.setCells d.p.cs.toList 8 z _ o.b2;rw[DD.x5]at h;exact h⟩);go_upto_region 19 with(first|(refine wpList_load_mid rfl 24 (.tmp 65) rfl w.heap.size 8 rfl d.p.cs.toList _ (fun j v aY=>o.b0.cell (DD.par d j v aY)) hQ rfl (by kernel_rfl) ?_)|(refine wpList_store_mid rfl 24 (.tmp 67) (.tmp 66) rfl (w.heap.size+2) 8 d.p.cs rfl rfl az (jb _) (mq _) ?_))
  obtain⟨a0,aA⟩:=ho (z.setCells (w.heap.size+2) 8 d.p.cs.toList);rw[aA]at S⊢;clear aA az ag;have ag:=S.b0.all;have W:=S.b2;have X:=S.b1;go_wp2_with (first|refine hR W ja (jo _) rfl rfl rfl rfl ?_|(refine iL rfl 70 (.tmp 2) (.tmp 77) rfl (w.heap.size+1) ({d.base with wh:=d.wh,p:=d.p}:DD).cs rfl rfl 70 _ X (jo _) rfl (k7 _) ?_;intro aB Y Z));exact bodyPost_ret (v:= .agg ({d.base with wh:=d.wh,p:=d.p}:DD).cs) (l9 results268 _ _ _ _ _ _ rfl Y ja rfl (jo _)) rfl (qM.mk (x:=0) (by obtain⟨A,D,E,F,G,J,O⟩:=r.2;obtain⟨k,aC,me,h8,am,aD,aE,wh,p,aF,aG⟩:=d;simp only at A D E F G J O;subst A D E F G;have ap:=J (by have:=aW.out;simp only at this;omega);subst ap;simp only[DD.base,DD.zero]) (iC S.hb Z (by omega) S.hb.size))
 case neg=>
  have U:=g' R;have aX:=iM R;clear R;by_cases T:d.wh=2
  case pos=>
   have aH:=g' T;have ay:=jU T;clear T;go_wp2;have aa:=g' o.drew;have a1:=aa.b2.all;have a2:=aa.b2.frozen 3;have a3:=o.b2.all;have a4:=o.b2.frozen 4;refine gZ.rg (fun w'=>ha w' w.heap.size 70 d.cs) (fun w'=>oK w d ({d.base with wh:=d.wh}) w') 5 8 (by kernel_rfl) (by rintro _ _ (_|_) _ _ h<;>exact h) aa.b0 aa fun aI Q=>?_;refine gZ.tq aI 3 [(0,true),(1,true),(2,false),(3,false),(4,true)] (by kernel_rfl) Q ?_;iterate 5(refine gZ.t1 rfl rfl (fun w' ab=>by try simp only[S3];first|(have⟨hS,aZ⟩:=ab;have aq:=hS.all;go_simp;try rfl)|(have aq:=ab.all;go_simp;try rfl)) ?_;try simp only[S4,S3])
   refine gZ.hH (fun Q=>?_);refine gZ.jc 5 (n:=2) rfl rfl (by kernel_rfl) (by kernel_rfl) (fun K ac=>?_);(try simp only[S3])
   have ah:=g' (aa.put (o':={d.base with wh:=d.wh,h8:=d.h8}) 3 (int i64 d.h8) rfl);go_simp;refine ac.out _ _ ah.b0 (fun Q=>?_);clear ac K;refine gZ.tq aI 1 [(6,false)] (by kernel_rfl) Q ?_;iterate 1(refine gZ.t1 rfl rfl (fun w' ab=>by try simp only[S3];first|(have⟨hS,aZ⟩:=ab;have aq:=hS.all;go_simp;try rfl)|(have aq:=ab.all;go_simp;try rfl)) ?_;try simp only[S4,S3])
   refine gZ.hH (fun Q=>?_);refine gZ.jc 7 (n:=0) rfl rfl (by kernel_rfl) (by kernel_rfl) (fun K ac=>?_);(try simp only[S3])
   have a5:=ah.b2.all;have a6:=ah.b2.frozen 4;have ad:=g' (ah.put (o':={d.base with wh:=d.wh,h8:=d.h8,am:=d.am}) 4 (int u64 d.am) rfl);go_simp;refine ac.out _ _ ad.b0 (fun Q=>?_);clear ac K;clear Q;refine gZ.ia rfl ?_;have W:=ad.b2;have X:=ad.b1;go_wp2_with (first|refine hR W ja (jo _) rfl rfl rfl rfl ?_|(refine iL rfl 70 (.tmp 2) (.tmp 77) rfl (w.heap.size+1) ({d.base with wh:=d.wh,h8:=d.h8,am:=d.am}:DD).cs rfl rfl 70 _ X (jo _) rfl (k7 _) ?_;intro aB Y Z));exact bodyPost_ret (v:= .agg ({d.base with wh:=d.wh,h8:=d.h8,am:=d.am}:DD).cs) (l9 results268 _ _ _ _ _ _ rfl Y ja rfl (jo _)) rfl (qM.mk (x:=d.am) (by obtain⟨A,D,E,F,G,J,O⟩:=r.2;obtain⟨k,aC,me,h8,am,aD,aE,wh,p,aF,aG⟩:=d;simp only at A D E F G J O;subst A D E F G;have ar:=O (by have:=U.out;exact this);subst ar;simp only[DD.base,DD.zero]) (iC ad.hb Z (by omega) ad.hb.size))
  case neg=>
   have aH:=g' T;have ay:=iM T;clear T;have W:=o.b2;have X:=o.b1;go_wp2_with (first|refine hR W ja (jo _) rfl rfl rfl rfl ?_|(refine iL rfl 70 (.tmp 2) (.tmp 77) rfl (w.heap.size+1) ({d.base with wh:=d.wh}:DD).cs rfl rfl 70 _ X (jo _) rfl (k7 _) ?_;intro aB Y Z));exact bodyPost_ret (v:= .agg ({d.base with wh:=d.wh}:DD).cs) (l9 results268 _ _ _ _ _ _ rfl Y ja rfl (jo _)) rfl (qM.mk (x:=0) (by obtain⟨A,D,E,F,G,J,O⟩:=r.2;obtain⟨k,aC,me,h8,am,aD,aE,wh,p,aF,aG⟩:=d;simp only at A D E F G J O;subst A D E F G;have ap:=J (by have:=aH.out;exact this);have ar:=O (by have:=U.out;exact this);subst ap ar;simp only[DD.base,DD.zero]) (iC o.hb Z (by omega) o.hb.size))
theorem Ee(d:DD)(x:Nat)(w:World):Calls prog 267 #[.agg d.cs,.agg ({d with am:=x}:DD).cs] w fun e w'=>∃b:Bool,e= .returned (.bool b)∧Below w.heap.size w w':=by
 have z:Below w.heap.size w ((w.alloc (.cells d.cs 70)).alloc (.cells ({d with am:=x}:DD).cs 70)):=(hz.alloc hj _).alloc (by simp) _;have D:ha ((w.alloc (.cells d.cs 70)).alloc (.cells ({d with am:=x}:DD).cs 70)) w.heap.size 70 d.cs:=(ha.new w _ _ _ rfl).alloc _;have E:ha ((w.alloc (.cells d.cs 70)).alloc (.cells ({d with am:=x}:DD).cs 70)) (w.heap.size+1) 70 ({d with am:=x}:DD).cs:=ha.new _ _ _ _ (by simp);obtain⟨O,F⟩:=ho ((w.alloc (.cells d.cs 70)).alloc (.cells ({d with am:=x}:DD).cs 70));rw[F]at z D E;obtain⟨I,o,r,J⟩:=h5 F D E z;clear F z D E;have Q:=o.cell (j:=0) (v:= .int .i64 d.k) rfl;have R:=r.cell (j:=0) (v:= .int .i64 d.k) rfl;have S:=o.cell (j:=1) (v:= .int .i64 d.ac) rfl;have T:=r.cell (j:=1) (v:= .int .i64 d.ac) rfl;have U:=o.cell (j:=2) (v:= .int .i64 d.me) rfl;have V:=r.cell (j:=2) (v:= .int .i64 d.me) rfl;have X:=o.cell (j:=3) (v:= .int .i64 d.h8) rfl;have Y:=r.cell (j:=3) (v:= .int .i64 d.h8) rfl;have Z:=o.cell (j:=4) (v:= .int .u64 d.am) rfl;have aa:=r.cell (j:=4) (v:= .int .u64 x) rfl;have ab:=o.cell (j:=5) (v:= .int .i64 d.ep) rfl;have ad:=r.cell (j:=5) (v:= .int .i64 d.ep) rfl;have ae:=o.cell (j:=7) (v:= .int .i64 d.wh) rfl;have af:=r.cell (j:=7) (v:= .int .i64 d.wh) rfl;have ag:=o.cell (j:=32) (v:= .int .i64 d.mo) rfl;have ah:=r.cell (j:=32) (v:= .int .i64 d.mo) rfl;have ai:=o.cell (j:=33) (v:= .bool d.ye) rfl;have aj:=r.cell (j:=33) (v:= .bool d.ye) rfl;have ak:=o.cell (j:=6) (v:= .slice d.bi.A d.bi.n d.bi.c) rfl;have al:=r.cell (j:=6) (v:= .slice d.bi.A d.bi.n d.bi.c) rfl;have an:=fun W=>qD d.p d.p true (by simp) W;obtain⟨K,ao⟩:∃b,((d.am:Int)==(x:Int))=b:=⟨_,rfl⟩;go_enter func267,ntmps267;go_upto_region 1 with(fail)
 rw[I.out];clear I;cases K;rotate_left;all_goals
  go_wp2_with (first|(refine qL (by rfl) 24 (.tmp 53) rfl w.heap.size 8 rfl d.p.cs.toList _ (fun j v G=>o.cell (DD.par d j v G)) hQ rfl (by kernel_rfl) ?_)|(refine qL (by rfl) 24 (.tmp 55) rfl (w.heap.size+1) 8 rfl d.p.cs.toList _ (fun j v G=>r.cell (DD.par {d with am:=x} j v G)) hQ rfl (by kernel_rfl) ?_));go_ret;exact⟨_,rfl,J⟩
end hB
end Go.Proofs.YtffbipddbnkdjaaGreat
