/- What functions compute at any arguments, and plain facts: bullionref08.Right comes to an end; a deed plainly, the form of some deeds and others. Conditions: those that each theorem names. -/
import Derived.Test.YtffbipddbnkdjaaGreatZ17
set_option maxRecDepth 100000
set_option maxHeartbeats 40000000
set_option linter.all false
open Go Go.Proofs.Tryz
open Go.Value(int)
open Go.IntKind(i64 u64)
variable{A T:Option Addr}{n g b L k B i x a m j q c p s r d h u N y:Nat}{E z:Int}{P:Program}{w W X Z:World}{e t:TypeId}{f:Nat→Value}{l:List Bool}{V U:Value}{Y:List Nat}{S:List Value}{R:List Int}{Q:Array Value}{O:List (List Nat)}{M:Bool}{K:Ending}{J:Addr}{I:Nat→Nat}{H:Option Nat}
namespace Go.Proofs.YtffbipddbnkdjaaGreat
namespace hB
open RowKit
open hG hf hU
theorem Ef:prog.stoodInHeld 110=false:=by kernel_rfl
theorem Eg(s t:hx)(b:Bool)(o:b=true↔s=t)(w:World):(Op.equalIn 10000 110 (.agg s.cs) (.agg t.cs)).run prog w= .ok b w:=by
 have u3:=j9;have ae:=isAgg3;have af:=sizeOf3;have u4:=ky;have ag:=isAgg22;have ah:=sizeOf22;have ad:prog.underlying 110=some (.struct (prog.fieldsOf 110)):=by kernel_rfl
 rw[show(10000:Nat)=9999+1 from rfl,run_equalIn_agg w 9999 110 _ _ ad Ef];simp only[Program.fieldsOf,rO];unfold hx.cs;go_simp;by_cases r:(s.inc:Int)=(t.inc:Int)
 case neg=>
  rw[if_neg r];cases b
  ·rfl
  exact absurd (congrArg (fun x:hx=>(x.inc:Int)) (o.1 rfl)) r
 rw[if_pos r];by_cases z:(s.ix:Int)=(t.ix:Int)
 case neg=>
  rw[if_neg z];cases b
  ·rfl
  exact absurd (congrArg (fun x:hx=>(x.ix:Int)) (o.1 rfl)) z
 rw[if_pos z];by_cases A:(s.floor:Int)=(t.floor:Int)
 case neg=>
  rw[if_neg A];cases b
  ·rfl
  exact absurd (congrArg (fun x:hx=>(x.floor:Int)) (o.1 rfl)) A
 rw[if_pos A];by_cases D:(s.cap:Int)=(t.cap:Int)
 case neg=>
  rw[if_neg D];cases b
  ·rfl
  exact absurd (congrArg (fun x:hx=>(x.cap:Int)) (o.1 rfl)) D
 rw[if_pos D];by_cases E:(s.up:Int)=(t.up:Int)
 case neg=>
  rw[if_neg E];cases b
  ·rfl
  exact absurd (congrArg (fun x:hx=>(x.up:Int)) (o.1 rfl)) E
 rw[if_pos E];by_cases F:(s.down:Int)=(t.down:Int)
 case neg=>
  rw[if_neg F];cases b
  ·rfl
  exact absurd (congrArg (fun x:hx=>(x.down:Int)) (o.1 rfl)) F
 rw[if_pos F];by_cases G:(s.ih:Int)=(t.ih:Int)
 case neg=>
  rw[if_neg G];cases b
  ·rfl
  exact absurd (congrArg (fun x:hx=>(x.ih:Int)) (o.1 rfl)) G
 rw[if_pos G];by_cases I:(s.quot:Int)=(t.quot:Int)
 case neg=>
  rw[if_neg I];cases b
  ·rfl
  exact absurd (congrArg (fun x:hx=>(x.quot:Int)) (o.1 rfl)) I
 rw[if_pos I];by_cases J:(s.iR:Int)=(t.iR:Int)
 case neg=>
  rw[if_neg J];cases b
  ·rfl
  exact absurd (congrArg (fun x:hx=>(x.iR:Int)) (o.1 rfl)) J
 rw[if_pos J];by_cases K:(s.iS:Int)=(t.iS:Int)
 case neg=>
  rw[if_neg K];cases b
  ·rfl
  exact absurd (congrArg (fun x:hx=>(x.iS:Int)) (o.1 rfl)) K
 rw[if_pos K];by_cases O:(s.recover:Int)=(t.recover:Int)
 case neg=>
  rw[if_neg O];cases b
  ·rfl
  exact absurd (congrArg (fun x:hx=>(x.recover:Int)) (o.1 rfl)) O
 rw[if_pos O];by_cases Q:(s.ig:Int)=(t.ig:Int)
 case neg=>
  rw[if_neg Q];cases b
  ·rfl
  exact absurd (congrArg (fun x:hx=>(x.ig:Int)) (o.1 rfl)) Q
 rw[if_pos Q];by_cases R:(s.iT:Int)=(t.iT:Int)
 case neg=>
  rw[if_neg R];cases b
  ·rfl
  exact absurd (congrArg (fun x:hx=>(x.iT:Int)) (o.1 rfl)) R
 rw[if_pos R];by_cases S:(s.iU:Int)=(t.iU:Int)
 case neg=>
  rw[if_neg S];cases b
  ·rfl
  exact absurd (congrArg (fun x:hx=>(x.iU:Int)) (o.1 rfl)) S
 rw[if_pos S];by_cases T:s.iV=t.iV
 case neg=>
  rw[if_neg T];cases b
  ·rfl
  exact absurd (congrArg (fun x:hx=>(x.iV:Int)) (o.1 rfl)) T
 rw[if_pos T];by_cases U:s.ic=t.ic
 case neg=>
  rw[if_neg U];cases b
  ·rfl
  exact absurd (congrArg (fun x:hx=>(x.ic:Int)) (o.1 rfl)) U
 rw[if_pos U];by_cases V:s.iE=t.iE
 case neg=>
  rw[if_neg V];cases b
  ·rfl
  exact absurd (congrArg (fun x:hx=>(x.iE:Int)) (o.1 rfl)) V
 rw[if_pos V];by_cases W:s.iN=t.iN
 case neg=>
  rw[if_neg W];cases b
  ·rfl
  exact absurd (congrArg (fun x:hx=>(x.iN:Int)) (o.1 rfl)) W
 rw[if_pos W];by_cases X:s.iI=t.iI
 case neg=>
  rw[if_neg X];cases b
  ·rfl
  exact absurd (congrArg (fun x:hx=>(x.iI:Int)) (o.1 rfl)) X
 rw[if_pos X];by_cases Y:s.iy=t.iy
 case neg=>
  rw[if_neg Y];cases b
  ·rfl
  exact absurd (congrArg (fun x:hx=>(x.iy:Int)) (o.1 rfl)) Y
 rw[if_pos Y];by_cases Z:s.wait=t.wait
 case neg=>
  rw[if_neg Z];cases b
  ·rfl
  exact absurd (congrArg (fun x:hx=>(x.wait:Int)) (o.1 rfl)) Z
 rw[if_pos Z];by_cases aa:s.iW=t.iW
 case neg=>
  rw[if_neg aa];cases b
  ·rfl
  exact absurd (congrArg (fun x:hx=>(x.iW:Int)) (o.1 rfl)) aa
 rw[if_pos aa];by_cases ab:s.iK=t.iK
 case neg=>
  rw[if_neg ab];cases b
  ·rfl
  exact absurd (congrArg (fun x:hx=>(x.iK:Int)) (o.1 rfl)) ab
 rw[if_pos ab];by_cases ac:s.iO=t.iO
 case neg=>
  rw[if_neg ac];cases b
  ·rfl
  exact absurd (congrArg (fun x:hx=>(x.iO:Int)) (o.1 rfl)) ac
 rw[if_pos ac];obtain rfl:b=true:=by
  rw[o];obtain⟨ai,aj,ak,al,am,an,ao,ap,aq,ar,au,av,aw,ax,ay,az,aA,aB,aC,aD,aE,aF,aG,aH⟩:=s;obtain⟨aI,aJ,aK,aL,aM,aN,aO,aP,aQ,aR,aS,aT,aU,aV,aW,aX,aY,aZ,a0,a1,a2,a3,a4,a5⟩:=t;simp only at*;simp only[hx.mk.injEq];exact⟨Int.ofNat_inj.1 r,Int.ofNat_inj.1 z,Int.ofNat_inj.1 A,Int.ofNat_inj.1 D,Int.ofNat_inj.1 E,Int.ofNat_inj.1 F,Int.ofNat_inj.1 G,Int.ofNat_inj.1 I,Int.ofNat_inj.1 J,Int.ofNat_inj.1 K,Int.ofNat_inj.1 O,Int.ofNat_inj.1 Q,Int.ofNat_inj.1 R,Int.ofNat_inj.1 S,T,U,V,W,X,Y,Z,aa,ab,ac⟩
 rfl
theorem Eh(d:DD)(aG:d.p.jE)(w:World):Calls prog 41 #[.agg d.cs] w (RB w):=by
 obtain⟨E,aH,aI,aJ⟩:=iF w d.cs 112;obtain⟨aK,R,D,ae⟩:=h5 aH aI aJ aG;clear aH aI aJ aG;obtain⟨aL,aM⟩:=hk (decide ((1:Int)≤d.k∧d.k≤7));have bl:=g' (fun W=>pU d.k 1 7 aL aM W);clear aM;obtain⟨aN,aO⟩:=hk (decide ((0:Int)≤d.ac∧d.ac≤63));have bm:=g' (fun W=>pU d.ac 0 63 aN aO W);clear aO;obtain⟨aP,aQ⟩:=hk (decide ((0:Int)≤d.me∧d.me≤127));have bn:=g' (fun W=>pU d.me 0 127 aP aQ W);clear aQ;obtain⟨aR,aS⟩:=hk (decide ((0:Int)≤d.h8∧d.h8≤63));have bo:=g' (fun W=>pU d.h8 0 63 aR aS W);clear aS;obtain⟨aT,aU⟩:=hk (decide ((0:Int)≤d.ep∧d.ep≤1073741824));have bp:=g' (fun W=>pU d.ep 0 1073741824 aT aU W);clear aU;obtain⟨aV,aW⟩:=hk (decide ((0:Int)≤d.mo∧d.mo≤31));have bq:=g' (fun W=>pU d.mo 0 31 aV aW W);clear aW;obtain⟨br,aX⟩:=hk (decide ((0:Int)≤d.wh∧d.wh≤4));have bt:=g' (fun W=>pU d.wh 0 4 br aX W);clear aX;have af:=g' (lp d 1);obtain⟨ag,aY⟩:=ho (j' d.k d.wh 1);unfold k8 at af;rw[aY]at af;clear aY;have ah:=g' (lp d 2);obtain⟨ai,aZ⟩:=ho (j' d.k d.wh 2);unfold k8 at ah;rw[aZ]at ah;clear aZ;have aj:=g' (lp d 3);obtain⟨ak,a0⟩:=ho (j' d.k d.wh 3);unfold k8 at aj;rw[a0]at aj;clear a0;have V:=g' (lp d 4);obtain⟨a1,a2⟩:=ho (j' d.k d.wh 4);unfold k8 at V;rw[a2]at V;clear a2;have al:=g' (lp d 5);obtain⟨Y,a3⟩:=ho (j' d.k d.wh 5);unfold k8 at al;rw[a3]at al;clear a3;have ab:=g' (lp d 6);obtain⟨a4,a5⟩:=ho (j' d.k d.wh 6);unfold k8 at ab;rw[a5]at ab;clear a5;have an:=g' (lp d 7);obtain⟨bu,a6⟩:=ho (j' d.k d.wh 7);unfold k8 at an;rw[a6]at an;clear a6;have Z:=g' (lp d 8);obtain⟨bv,a7⟩:=ho (j' d.k d.wh 8);unfold k8 at Z;rw[a7]at Z;clear a7;go_enter func41,ntmps41;go_upto_region 1 with(fail)
 rw[aK.out];clear aK;have bw:=D.all;go_cut [47] (fun c T=>∃b:Bool,c= .bool b∧T=E)
 case first=>
  as_aux_lemma=>
   go_wp2_with fail;refine hE (bl _) ?_;cases aL
   ·go_wp2
    go_meet;exact⟨true,rfl,rfl⟩
   skip;go_wp2_with fail;refine hE (bm _) ?_;cases aN
   ·go_wp2
    go_meet;exact⟨true,rfl,rfl⟩
   skip;go_wp2_with fail;refine hE (bn _) ?_;cases aP
   ·go_wp2
    go_meet;exact⟨true,rfl,rfl⟩
   skip;go_wp2_with fail;refine hE (bo _) ?_;cases aR
   ·go_wp2
    go_meet;exact⟨true,rfl,rfl⟩
   skip;go_wp2_with fail;refine hE (bp _) ?_;cases aT
   ·go_wp2
    go_meet;exact⟨true,rfl,rfl⟩
   skip;go_wp2_with fail;refine hE (bq _) ?_;cases aV
   ·go_wp2
    go_meet;exact⟨true,rfl,rfl⟩
   skip;by_cases a8:32<d.bi.n
   ·have bx:decide ((32:Int)<(d.bi.n:Int))=true:=by simp;omega
    clear a8;go_wp2;go_meet;exact⟨true,rfl,rfl⟩
   have bx:decide ((32:Int)<(d.bi.n:Int))=false:=by simp;omega
   clear a8;by_cases a9:4611686018427387904<d.am
   ·have bz:decide ((4611686018427387904:Int)<(d.am:Int))=true:=by simp;omega
    clear a9;go_wp2;go_meet;exact⟨true,rfl,rfl⟩
   have bz:decide ((4611686018427387904:Int)<(d.am:Int))=false:=by simp;omega
   clear a9;go_wp2;go_meet;exact⟨false,rfl,rfl⟩
 case rest=>
  obtain⟨b,rfl,a'⟩:=hcut;rw[a'];clear a' bw;cases b
  ·go_upto_region 3 with(fail)
   go_cut [91] (fun c T=>∃b:Bool,c= .bool b∧Below E.heap.size E T)
   case first=>
    as_aux_lemma=>
     have ao:=D.out;go_wp2_with (first|(refine hR ao kj (kX d) rfl rfl rfl rfl ?_));refine hI (af _) fun bV ap=>?_;obtain⟨ba,aq⟩:=hg (ao.to ap) ((Below.refl E.heap.size E).trans (ap.mono (Below.refl E.heap.size E).size));clear ap ao;have bW:=ba.all;by_cases k:ag=false∧d.ac≠0
     ·obtain⟨rfl,z⟩:=k
      have bA:(d.ac !=0)=true:=(by simpa using z);have bB:(d.ac==0)=false:=(by simpa using z);have bC:decide (d.ac=0)=false:=(by simpa using z);clear z;go_wp2;go_meet;exact⟨true,rfl,aq⟩
     have bD:=g' (show ag=false→d.ac=0 from fun e=>Classical.byContradiction fun h=>k ⟨e,h⟩);clear k;cases ag;all_goals (
      try(have z:=bD.out rfl;have bA:(d.ac !=0)=false:=(by simpa using z);have bB:(d.ac==0)=true:=(by simpa using z);have bC:decide (d.ac=0)=true:=(by simpa using z);clear z)
      have ar:=ba.out;go_wp2_with (first|(refine iv ar kj (kX d) (by rfl) rfl rfl rfl ?_));refine hI (ah _) fun bX au=>?_;obtain⟨bb,av⟩:=hg (ar.to au) (aq.trans (au.mono aq.size));clear au ar;have bY:=bb.all;by_cases k:ai=false∧d.me≠0
      ·obtain⟨rfl,z⟩:=k
       have bE:(d.me !=0)=true:=(by simpa using z);have bF:(d.me==0)=false:=(by simpa using z);have bG:decide (d.me=0)=false:=(by simpa using z);clear z;go_wp2;go_meet;exact⟨true,rfl,av⟩
      have bH:=g' (show ai=false→d.me=0 from fun e=>Classical.byContradiction fun h=>k ⟨e,h⟩);clear k;cases ai;all_goals (
       try(have z:=bH.out rfl;have bE:(d.me !=0)=false:=(by simpa using z);have bF:(d.me==0)=true:=(by simpa using z);have bG:decide (d.me=0)=true:=(by simpa using z);clear z)
       have aw:=bb.out;go_wp2_with (first|(refine iv aw kj (kX d) (by rfl) rfl rfl rfl ?_));refine hI (aj _) fun bZ ax=>?_;obtain⟨bc,ay⟩:=hg (aw.to ax) (av.trans (ax.mono av.size));clear ax aw;have b0:=bc.all;by_cases k:ak=false∧d.h8≠0
       ·obtain⟨rfl,z⟩:=k
        have bI:(d.h8 !=0)=true:=(by simpa using z);have bJ:(d.h8==0)=false:=(by simpa using z);have bK:decide (d.h8=0)=false:=(by simpa using z);clear z;go_wp2;go_meet;exact⟨true,rfl,ay⟩
       have bL:=g' (show ak=false→d.h8=0 from fun e=>Classical.byContradiction fun h=>k ⟨e,h⟩);clear k;cases ak;all_goals (
        try(have z:=bL.out rfl;have bI:(d.h8 !=0)=false:=(by simpa using z);have bJ:(d.h8==0)=true:=(by simpa using z);have bK:decide (d.h8=0)=true:=(by simpa using z);clear z)
        have az:=bc.out;go_wp2_with (first|(refine iv az kj (kX d) (by rfl) rfl rfl rfl ?_));refine hI (al _) fun b1 aA=>?_;obtain⟨bM,aB⟩:=hg (az.to aA) (ay.trans (aA.mono ay.size));clear aA az;have b2:=bM.all;by_cases k:Y=false∧d.ep≠0
        ·obtain⟨rfl,z⟩:=k
         have bd:(d.ep !=0)=true:=(by simpa using z);have be:(d.ep==0)=false:=(by simpa using z);have bf:decide (d.ep=0)=false:=(by simpa using z);clear z;go_wp2;go_meet;exact⟨true,rfl,aB⟩
        have bg:=g' (show Y=false→d.ep=0 from fun e=>Classical.byContradiction fun h=>k ⟨e,h⟩);clear k;by_cases k:Y=false∧d.bi.n≠0
        ·obtain⟨rfl,Q⟩:=k
         have z:=bg.out rfl;have bd:(d.ep !=0)=false:=(by simpa using z);have be:(d.ep==0)=true:=(by simpa using z);have bf:decide (d.ep=0)=true:=(by simpa using z);have bN:((d.bi.n:Int) !=0)=true:=(by simpa using Q);have bO:(d.bi.n==0)=false:=(by simpa using Q);have bP:(d.bi.n !=0)=true:=(by simpa using Q);have bQ:decide (d.bi.n=0)=false:=(by simpa using Q);clear z Q;go_wp2;go_meet;exact⟨true,rfl,aB⟩
        have bR:=g' (show Y=false→d.bi.n=0 from fun e=>Classical.byContradiction fun h=>k ⟨e,h⟩);clear k;cases Y;all_goals (
         try(have z:=bg.out rfl;have bd:(d.ep !=0)=false:=(by simpa using z);have be:(d.ep==0)=true:=(by simpa using z);have bf:decide (d.ep=0)=true:=(by simpa using z);have Q:=bR.out rfl;have bN:((d.bi.n:Int) !=0)=false:=(by simpa using Q);have bO:(d.bi.n==0)=true:=(by simpa using Q);have bP:(d.bi.n !=0)=false:=(by simpa using Q);have bQ:decide (d.bi.n=0)=true:=(by simpa using Q);clear z Q)
         go_wp2;go_meet;exact⟨false,rfl,aB⟩))))
   case rest=>
    obtain⟨b,rfl,S⟩:=hcut;have I:=g' S;clear S;cases b
    ·go_upto_region 5 with(fail)
     go_cut [111] (fun c T=>∃b:Bool,c= .bool b∧Below E.heap.size E T)
     case first=>
      as_aux_lemma=>
       obtain⟨x,ad⟩:=ho (decide (0<d.am));have bS:decide ((0:Int)<(d.am:Int))=x:=by rw[←ad];simp
       clear ae;by_cases U:a1=x
       ·subst U
        cases bv;focus
         by_cases k:d.mo=0;focus
          have bT:(d.mo !=0)=false:=by simpa using k
          have z:(d.mo==0)=true:=by simpa using k
          have Q:decide (d.mo=0)=true:=by simpa using k
          clear k;refine gZ.iP (fun w'=>Below E.heap.size E w') 20 (by kernel_rfl) (fun _ _ d _ _ h=>by cases d<;>exact h) I.drew fun F o=>?_;refine gZ.tq F 16 (gZ.sq 0 1 false (gZ.sq 2 3 false [])) (by kernel_rfl) o ?_;iterate 4((first|(refine gZ.tY 0 d.cs.toList (fun w' r=>(D.to r)) (by kernel_rfl) kj (by kernel_rfl) rfl (by rfl) rfl rfl rfl ?_)|(refine gZ.t1 rfl (by rfl) (fun w' r=>by try simp only[S3];have J:=(D.to r).all;go_simp;try with_reducible rfl) ?_));try simp only[S4,S3])
          refine gZ.hH (fun o=>?_);refine gZ.hY 1 (n:=15) rfl rfl (by kernel_rfl) (fun K G=>?_);(try simp only[S3])
          go_simp;refine hI (V _) fun aa A=>?_;have O:=g' (o.1.trans (A.mono o.1.size));clear A;refine G.out _ _ O trivial (fun o=>?_);(try simp only[S4,S3])
          refine gZ.tq F 12 (gZ.sq 5 3 false []) (by kernel_rfl) o ?_;iterate 3((first|(refine gZ.tY 0 d.cs.toList (fun w' r=>(D.to r)) (by kernel_rfl) kj (by kernel_rfl) rfl (by rfl) rfl rfl rfl ?_)|(refine gZ.t1 rfl (by rfl) (fun w' r=>by try simp only[S3];have J:=(D.to r).all;go_simp;try with_reducible rfl) ?_));try simp only[S4,S3])
          refine gZ.hH (fun o=>?_);refine gZ.hY 8 (n:=11) rfl rfl (by kernel_rfl) (fun K G=>?_);(try simp only[S3])
          go_simp;refine hI (Z _) fun bh A=>?_;have X:=g' (o.1.trans (A.mono o.1.size));clear A;refine G.out _ _ X trivial (fun o=>?_);(try simp only[S4,S3])
          refine gZ.tq F 0 (gZ.sq 9 11 false []) (by kernel_rfl) o ?_;iterate 11(refine gZ.t1 rfl (by rfl) (fun w' r=>by try simp only[S3];have J:=(D.to r).all;go_simp;try with_reducible rfl) ?_;try simp only[S4,S3])
         rotate_left;focus
          have bT:(d.mo !=0)=true:=by simpa using k
          have z:(d.mo==0)=false:=by simpa using k
          have Q:decide (d.mo=0)=false:=by simpa using k
          clear k;refine gZ.iP (fun w'=>Below E.heap.size E w') 20 (by kernel_rfl) (fun _ _ d _ _ h=>by cases d<;>exact h) I.drew fun F o=>?_;refine gZ.tq F 16 (gZ.sq 0 1 false (gZ.sq 2 3 false [])) (by kernel_rfl) o ?_;iterate 4((first|(refine gZ.tY 0 d.cs.toList (fun w' r=>(D.to r)) (by kernel_rfl) kj (by kernel_rfl) rfl (by rfl) rfl rfl rfl ?_)|(refine gZ.t1 rfl (by rfl) (fun w' r=>by try simp only[S3];have J:=(D.to r).all;go_simp;try with_reducible rfl) ?_));try simp only[S4,S3])
          refine gZ.hH (fun o=>?_);refine gZ.hY 1 (n:=15) rfl rfl (by kernel_rfl) (fun K G=>?_);(try simp only[S3])
          go_simp;refine hI (V _) fun aa A=>?_;have O:=g' (o.1.trans (A.mono o.1.size));clear A;refine G.out _ _ O trivial (fun o=>?_);(try simp only[S4,S3])
          refine gZ.tq F 12 (gZ.sq 5 3 false []) (by kernel_rfl) o ?_;iterate 3((first|(refine gZ.tY 0 d.cs.toList (fun w' r=>(D.to r)) (by kernel_rfl) kj (by kernel_rfl) rfl (by rfl) rfl rfl rfl ?_)|(refine gZ.t1 rfl (by rfl) (fun w' r=>by try simp only[S3];have J:=(D.to r).all;go_simp;try with_reducible rfl) ?_));try simp only[S4,S3])
          refine gZ.hH (fun o=>?_);refine gZ.hY 8 (n:=11) rfl rfl (by kernel_rfl) (fun K G=>?_);(try simp only[S3])
          go_simp;refine hI (Z _) fun bh A=>?_;have X:=g' (o.1.trans (A.mono o.1.size));clear A;refine G.out _ _ X trivial (fun o=>?_);(try simp only[S4,S3])
          refine gZ.tq F 0 (gZ.sq 9 11 false []) (by kernel_rfl) o ?_;iterate 11((first|(refine gZ.t1 rfl (by rfl) (fun w' r=>by try simp only[S3];have J:=(D.to r).all;go_simp;try with_reducible rfl) ?_)|(refine gZ.kn rfl (by rfl) ?_));try simp only[S4,S3])
        rotate_left 2;focus
         refine gZ.iP (fun w'=>Below E.heap.size E w') 20 (by kernel_rfl) (fun _ _ d _ _ h=>by cases d<;>exact h) I.drew fun F o=>?_;refine gZ.tq F 16 (gZ.sq 0 1 false (gZ.sq 2 3 false [])) (by kernel_rfl) o ?_;iterate 4((first|(refine gZ.tY 0 d.cs.toList (fun w' r=>(D.to r)) (by kernel_rfl) kj (by kernel_rfl) rfl (by rfl) rfl rfl rfl ?_)|(refine gZ.t1 rfl (by rfl) (fun w' r=>by try simp only[S3];have J:=(D.to r).all;go_simp;try with_reducible rfl) ?_));try simp only[S4,S3])
         refine gZ.hH (fun o=>?_);refine gZ.hY 1 (n:=15) rfl rfl (by kernel_rfl) (fun K G=>?_);(try simp only[S3])
         go_simp;refine hI (V _) fun aa A=>?_;have O:=g' (o.1.trans (A.mono o.1.size));clear A;refine G.out _ _ O trivial (fun o=>?_);(try simp only[S4,S3])
         refine gZ.tq F 12 (gZ.sq 5 3 false []) (by kernel_rfl) o ?_;iterate 3((first|(refine gZ.tY 0 d.cs.toList (fun w' r=>(D.to r)) (by kernel_rfl) kj (by kernel_rfl) rfl (by rfl) rfl rfl rfl ?_)|(refine gZ.t1 rfl (by rfl) (fun w' r=>by try simp only[S3];have J:=(D.to r).all;go_simp;try with_reducible rfl) ?_));try simp only[S4,S3])
         refine gZ.hH (fun o=>?_);refine gZ.hY 8 (n:=11) rfl rfl (by kernel_rfl) (fun K G=>?_);(try simp only[S3])
         go_simp;refine hI (Z _) fun bh A=>?_;have X:=g' (o.1.trans (A.mono o.1.size));clear A;refine G.out _ _ X trivial (fun o=>?_);(try simp only[S4,S3])
         refine gZ.tq F 0 (gZ.sq 9 11 false []) (by kernel_rfl) o ?_;iterate 11((first|(refine gZ.t1 rfl (by rfl) (fun w' r=>by try simp only[S3];have J:=(D.to r).all;go_simp;try with_reducible rfl) ?_)|(refine gZ.kn rfl (by rfl) ?_));try simp only[S4,S3])
        all_goals
         refine gZ.hH (fun o=>?_);clear o;refine gZ.ia (by kernel_rfl) ?_;go_wp2;go_meet;exact⟨_,rfl,X⟩
       cases a1<;>cases x<;>first|exact absurd rfl U|(
        clear U;refine gZ.iP (fun w'=>Below E.heap.size E w') 20 (by kernel_rfl) (fun _ _ d _ _ h=>by cases d<;>exact h) I.drew fun F o=>?_;refine gZ.tq F 16 (gZ.sq 0 1 false (gZ.sq 2 3 false [])) (by kernel_rfl) o ?_;iterate 4((first|(refine gZ.tY 0 d.cs.toList (fun w' r=>(D.to r)) (by kernel_rfl) kj (by kernel_rfl) rfl (by rfl) rfl rfl rfl ?_)|(refine gZ.t1 rfl (by rfl) (fun w' r=>by try simp only[S3];have J:=(D.to r).all;go_simp;try with_reducible rfl) ?_));try simp only[S4,S3])
        refine gZ.hH (fun o=>?_);refine gZ.hY 1 (n:=15) rfl rfl (by kernel_rfl) (fun K G=>?_);(try simp only[S3])
        go_simp;refine hI (V _) fun aa A=>?_;have O:=g' (o.1.trans (A.mono o.1.size));clear A;refine G.out _ _ O trivial (fun o=>?_);(try simp only[S4,S3])
        refine gZ.tq F 0 (gZ.sq 5 15 false []) (by kernel_rfl) o ?_;iterate 15((first|(refine gZ.t1 rfl (by rfl) (fun w' r=>by try simp only[S3];have J:=(D.to r).all;go_simp;try with_reducible rfl) ?_)|(refine gZ.kn rfl (by rfl) ?_));try simp only[S4,S3])
        refine gZ.hH (fun o=>?_);clear o;refine gZ.ia (by kernel_rfl) ?_;go_wp2;go_meet;exact⟨_,rfl,O⟩)
     case rest=>
      clear I;obtain⟨b,rfl,S⟩:=hcut;have I:=g' S;clear S;cases b
      ·go_upto_region 7 with(fail)
       go_cut [123] (fun c T=>∃b:Bool,c= .bool b∧Below E.heap.size E T)
       case first=>
        as_aux_lemma=>
         clear ae;obtain⟨x,ad⟩:=ho (d.wh !=0);have bS:(!(d.wh==0))=x:=ad;have b3:(!decide (d.wh=0))=x:=by rw[←ad];rfl
         by_cases U:a4=x
         ·subst U
          refine gZ.iP (fun w'=>Below E.heap.size E w') 12 (by kernel_rfl) (fun _ _ d _ _ h=>by cases d<;>exact h) I.drew fun F o=>?_;refine gZ.tq F 8 (gZ.sq 0 1 false (gZ.sq 2 3 false [])) (by kernel_rfl) o ?_;iterate 4((first|(refine gZ.tY 0 d.cs.toList (fun w' r=>(D.to r)) (by kernel_rfl) kj (by kernel_rfl) rfl (by rfl) rfl rfl rfl ?_)|(refine gZ.t1 rfl (by rfl) (fun w' r=>by try simp only[S3];have J:=(D.to r).all;go_simp;try with_reducible rfl) ?_));try simp only[S4,S3])
          refine gZ.hH (fun o=>?_);refine gZ.hY 1 (n:=7) rfl rfl (by kernel_rfl) (fun K G=>?_);(try simp only[S3])
          go_simp;refine hI (ab _) fun aa A=>?_;have O:=g' (o.1.trans (A.mono o.1.size));clear A;refine G.out _ _ O trivial (fun o=>?_);(try simp only[S4,S3])
          refine gZ.tq F 3 (gZ.sq 5 4 false []) (by kernel_rfl) o ?_;iterate 4(refine gZ.t1 rfl (by rfl) (fun w' r=>by try simp only[S3];have J:=(D.to r).all;go_simp;try with_reducible rfl) ?_;try simp only[S4,S3])
          refine gZ.hH (fun o=>?_);refine gZ.hY 9 (n:=2) rfl rfl (by kernel_rfl) (fun K G=>?_);(try simp only[S3])
          go_simp;refine hE (bt _) ?_;refine G.out _ _ (o.1) trivial (fun o=>?_);(try simp only[S4,S3])
          refine gZ.tq F 0 (gZ.sq 10 2 false []) (by kernel_rfl) o ?_;iterate 2(refine gZ.t1 rfl (by rfl) (fun w' r=>by try simp only[S3];have J:=(D.to r).all;go_simp;try with_reducible rfl) ?_;try simp only[S4,S3])
          refine gZ.hH (fun o=>?_);clear o;refine gZ.ia (by kernel_rfl) ?_;go_wp2;go_meet;exact⟨_,rfl,O⟩
         cases a4<;>cases x<;>first|exact absurd rfl U|(
          clear U;refine gZ.iP (fun w'=>Below E.heap.size E w') 12 (by kernel_rfl) (fun _ _ d _ _ h=>by cases d<;>exact h) I.drew fun F o=>?_;refine gZ.tq F 8 (gZ.sq 0 1 false (gZ.sq 2 3 false [])) (by kernel_rfl) o ?_;iterate 4((first|(refine gZ.tY 0 d.cs.toList (fun w' r=>(D.to r)) (by kernel_rfl) kj (by kernel_rfl) rfl (by rfl) rfl rfl rfl ?_)|(refine gZ.t1 rfl (by rfl) (fun w' r=>by try simp only[S3];have J:=(D.to r).all;go_simp;try with_reducible rfl) ?_));try simp only[S4,S3])
          refine gZ.hH (fun o=>?_);refine gZ.hY 1 (n:=7) rfl rfl (by kernel_rfl) (fun K G=>?_);(try simp only[S3])
          go_simp;refine hI (ab _) fun aa A=>?_;have O:=g' (o.1.trans (A.mono o.1.size));clear A;refine G.out _ _ O trivial (fun o=>?_);(try simp only[S4,S3])
          refine gZ.tq F 0 (gZ.sq 5 7 false []) (by kernel_rfl) o ?_;iterate 7((first|(refine gZ.t1 rfl (by rfl) (fun w' r=>by try simp only[S3];have J:=(D.to r).all;go_simp;try with_reducible rfl) ?_)|(refine gZ.kn rfl (by rfl) ?_));try simp only[S4,S3])
          refine gZ.hH (fun o=>?_);clear o;refine gZ.ia (by kernel_rfl) ?_;go_wp2;go_meet;exact⟨_,rfl,O⟩)
       case rest=>
        clear I;obtain⟨b,rfl,S⟩:=hcut;have I:=g' S;clear S;cases b
        ·have aC:=D.to I
         go_wp2_with (first|(refine hR aC kj (kX d) rfl rfl rfl rfl ?_));refine hI (an _) fun b4 aD=>?_;obtain⟨bj,bk⟩:=hg (aC.to aD) (hJ R (I.trans (aD.mono I.size)));clear aC aD;cases bu
         ·obtain⟨b,A⟩:∃b:Bool,b=true↔d.p=hx.zero:=⟨@decide (d.p=hx.zero) (Classical.propDecidable _),by simp⟩
          have b5:=fun W=>Eg d.p hx.zero b A W;clear A;have aE:=bj.out;go_wp2_with (first|(refine wpList_load_mid rfl 110 (.tmp 129) rfl w.heap.size 8 rfl d.p.cs.toList _ (fun j v aF=>aE.cell (s3 d j v aF)) rO rfl (by kernel_rfl) ?_)|(refine wpList_build rfl 110 #[] rfl (.agg hx.zero.cs) (fun w'=>by kernel_rfl) ?_));go_ret;exact⟨_,rfl,bk⟩
         have aE:=bj.out;go_wp2_with (first|(refine wpList_load_mid rfl 110 (.tmp 126) rfl w.heap.size 8 rfl d.p.cs.toList _ (fun j v aF=>aE.cell (s3 d j v aF)) rO rfl (by kernel_rfl) ?_));refine(Ec d.p ae _).mono ?_;rintro e b6 ⟨b,rfl,bU⟩;go_wp2;go_ret;exact⟨_,rfl,hJ bk bU⟩
        go_wp2;go_ret;exact⟨_,rfl,R.trans (I.mono R.size)⟩
      go_wp2;go_ret;exact⟨_,rfl,R.trans (I.mono R.size)⟩
    go_wp2;go_ret;exact⟨_,rfl,R.trans (I.mono R.size)⟩
  go_wp2;go_ret;exact⟨_,rfl,R⟩
section
variable {P:Program}
theorem oL{D:Array Oper}{E:List Oper}{z:Oper}{a:Act}{Q:Exit→Act→World→Prop}(G:z.guard=none)(r:TypeId)(x:Operand)(I:z.op= .load r x)
 (p:Addr) (J:a.eval x= .pointer (some p)) (o:List Value) (d:TypeDesc) (O:∀j v,o[j]?=some v→w.cell? (p.add j)=some v)
 (R:P.underlying r=some d) (X:d.isRow=true) (F:(P.info? r).map (·.size)=some o.length)
 (h:wpList P D Q E (a.put z.dst (.agg o.toArray)) w):wpList P D Q (z::E) a w:=by
 refine wpList_plain G fun K S=>?_;have T:(loadCells p o.length).run P w= .ok o.toArray w:=run_loadCells_list (P:=P) w p o O;have U:(loadVar r p).run P w= .ok (.agg o.toArray) w:=by
  cases A:P.info? r with
  |none=>simp[A]at F
  |some i=>
   have V:i.size=o.length:=by simpa[A]using F
   have W:(isAgg r).run P w= .ok true w:=by
    unfold isAgg;rw[Sem.run_bind,run_underlying R w];cases d<;>simp_all
   simp[loadVar,Sem.run_bind,W,sizeOf,typeInfo,A,V,T]
 unfold Oper.wp execOp;simp only[I,J,Instr.loadAt,Instr.sureAddr,Sem.run_bind,Sem.run_pure,Result.andThen_ok,U];exact S _ _ h
end
structure oM (w:World) (B:Nat) (d:DD):Prop where
 p:d.p.jE
 am:d.am<18446744073709551616
 n:d.bi.n≤100
 bits:∃bs,hq.ie w B d.bi.A d.bi.n bs
theorem oM.below{w':World}{d:DD}(h:oM w B d)(o:Below B w w'):oM w' B d:=by
 obtain⟨bs,r⟩:=h.bits;exact⟨h.p,h.am,h.n,bs,r.below o⟩
theorem oM.more{B':Nat}{d:DD}(h:oM w B d)(o:B≤B'):oM w B' d:=by
 obtain⟨bs,r⟩:=h.bits;exact⟨h.p,h.am,h.n,bs,r.more o⟩
theorem uH(d:DD):(prog.info? 70).map (·.size)=some d.cs.size:=by kernel_rfl
theorem Ei:(prog.info? 112).map (fun i=>(i.zero,i.size,i.bytes))=some (some (.agg #[.int .i64 0,.int .i64 0,.int .i64 0,.int .i64 0,.int .u64 0,.int .i64 0,.slice none 0 0,.int .i64 0,.int .u64 0,.int .u64 0,.int .u64 0,.int .u64 0,.int .u64 0,.int .u64 0,.int .u64 0,.int .u64 0,.int .u64 0,.int .u64 0,.int .u64 0,.int .u64 0,.int .u64 0,.int .u64 0,.int .i64 0,.int .i64 0,.int .i64 0,.int .i64 0,.int .i64 0,.int .i64 0,.int .i64 0,.int .i64 0,.int .i64 0,.int .i64 0,.int .i64 0,.bool false]),34,288):=by kernel_rfl
theorem Ej(d:DD)(w:World):Calls prog 40 #[.agg d.cs] w fun e w'=>e= .returned (.agg d.cs)∧Below w.heap.size w w':=by
 have o:Below w.heap.size w ((w.alloc (.cells d.cs 70)).alloc (.cells DD.zero.cs 112)):=(hz.alloc hj _).alloc (by simp) _;have r:ha ((w.alloc (.cells d.cs 70)).alloc (.cells DD.zero.cs 112)) w.heap.size 70 d.cs:=(ha.new w _ _ _ rfl).alloc _;have z:ha ((w.alloc (.cells d.cs 70)).alloc (.cells DD.zero.cs 112)) (w.heap.size+1) 112 DD.zero.cs:=ha.new _ _ _ _ (by simp);obtain⟨F,A⟩:=ho ((w.alloc (.cells d.cs 70)).alloc (.cells DD.zero.cs 112));rw[A]at o r z;have G:Hid ((w.alloc (.cells d.cs 70)).alloc (.cells #[.int .i64 0,.int .i64 0,.int .i64 0,.int .i64 0,.int .u64 0,.int .i64 0,.slice none 0 0,.int .i64 0,.int .u64 0,.int .u64 0,.int .u64 0,.int .u64 0,.int .u64 0,.int .u64 0,.int .u64 0,.int .u64 0,.int .u64 0,.int .u64 0,.int .u64 0,.int .u64 0,.int .u64 0,.int .u64 0,.int .i64 0,.int .i64 0,.int .i64 0,.int .i64 0,.int .i64 0,.int .i64 0,.int .i64 0,.int .i64 0,.int .i64 0,.int .i64 0,.int .i64 0,.bool false] 112)=F):=g' A;obtain⟨D,E,I⟩:=hs o r z;go_enter func40,ntmps40;go_upto_region 1 with(fail)
 rw[G.out];have R:=E.all;have J:=I.out;go_wp2_with (first|(refine wpList_load_mid rfl 24 (.tmp 19) rfl w.heap.size 8 rfl d.p.cs.toList _ (fun j v K=>E.cell (s3 d j v K)) hQ rfl (by kernel_rfl) ?_)|(refine wpList_build rfl 112 #[(0,.tmp 4),(1,.tmp 6),(2,.tmp 8),(3,.tmp 10),(4,.tmp 12),(5,.tmp 14),(6,.tmp 16),(7,.tmp 18),(8,.tmp 20),(9,.tmp 22),(10,.tmp 24)] rfl (.agg d.cs) (fun w'=>by kernel_rfl) ?_)|(refine iL rfl 112 (.tmp 2) (.tmp 25) rfl (w.heap.size+1) d.cs rfl rfl 112 _ J (kX d) rfl (k7 d) ?_;intro S O Q));exact bodyPost_ret (v:= .agg d.cs) (l9 results40 _ _ _ _ _ _ rfl O kj rfl (kX d)) rfl ⟨rfl,iC D Q (Nat.le_succ _) D.size⟩
theorem Ek(A:Option Addr)(n c:Nat)(ds:List DD)(w:World)(h:hV w w.heap.size A n 34 (flat DD.enc ds))(r:∀d∈ds,oM w w.heap.size d)(aj:n≤20):Calls prog 42 #[.slice A n c] w (BQ 20010 w):=by
 obtain⟨K,O,Q⟩:=hs (h.len DD.len (by omega)) h r;have ak:IntKind.u64.wrap (n:Int)=(n:Int):=IntWalk.u64_in _ (by omega);have R:=g' (fun W=>qy n (by omega) W);go_enter func42,ntmps42;go_wp2_with fail;refine(R _).mono ?_;rintro e al ⟨an,rfl,S,T⟩;obtain⟨E,U⟩:=hg S T;go_wp2;go_loopw [3,4] (fun V F wr=>∃k:Nat,F= .int .i64 k∧k≤n∧jI w.heap.size (10+1000*k) V wr∧Below w.heap.size w wr) (fun _ F _=>n-(intOf F).toNat)
 case atStart=>exact⟨0,rfl,h6,E,U⟩
 case round=>
  obtain⟨k,rfl,ao,X,Y⟩:=hrel;obtain⟨G,o⟩:=hg X Y;by_cases z:k<n
  ·have Z:=hZ z
   obtain⟨d,r⟩:∃d,ds[k]?=some d:=⟨_,iB (by rw[K.out];exact z)⟩;obtain⟨aa,rfl,_,ab⟩:=(O.below o).cell DD.len z r (by omega);have D:=((Q d (List.mem_of_getElem? r)).below o).more o.size;obtain⟨bs,ac⟩:=D.bits;obtain⟨ad,ae⟩:=hg (D6 d D.p D.am wr bs ac D.n) ab;go_wp2_with (first|(refine oL rfl 112 (.tmp 18) rfl (aa.add (k*34)) rfl d.enc _ ae kj rfl (by kernel_rfl) ?_));refine ad.mono ?_;rintro e ap ⟨aq,rfl,af,I⟩;obtain⟨E,ag,J⟩:=hs (G.to I) af (hJ o I);go_wp2_with (at_builtin;refine oq rfl _ _ rfl _ _ rfl rfl E ag J.size (by omega) ?_);intro ar au ah ai;go_wp2;exact⟨⟨k+1,by go_num,by omega,ah.more (by omega),J.trans ai⟩,by simp[intOf];omega⟩
  have Z:=h1 z;go_wp2;go_ret;exact⟨_,rfl,G.more (by omega),o⟩
theorem El(A:Option Addr)(n c:Nat)(ds:List DD)(w:World)(h:hV w w.heap.size A n 34 (flat DD.enc ds))(D:∀d∈ds,oM w w.heap.size d)(aV:n≤20):Calls prog 22 #[.slice A n c] w (BQ 20010 w):=by
 obtain⟨az,aA,aB,aC,aD⟩:=info_parts Ei;obtain⟨aE,aF,Y⟩:=hs (h.len DD.len (by omega)) h D;clear h D;go_enter func22,ntmps22;go_wp2;go_loopw [3,9] (fun aG J wr=>∃(k m:Nat) (xs:List DD),J= .int .i64 k∧k≤n∧m≤k∧wr.ownsRow w.heap.size 112 34 aG m (flat DD.enc xs)∧(∀x∈xs,x∈ds)∧Below w.heap.size w wr) (fun _ J _=>n-(intOf J).toNat)
 case atStart=>exact⟨0,0,[],rfl,h6,hj,World.ownsRow_nil _ _ _ _,(fun x o=>by cases o),hz⟩
 case round=>
  obtain⟨k,m,xs,rfl,aW,aX,Z,o,aa⟩:=hrel;obtain⟨K,r,O⟩:=hs Z aa o;clear Z aa o;by_cases G:k<n
  ·have aH:=hZ G
   obtain⟨d,D⟩:∃d,ds[k]?=some d:=⟨_,iB (by rw[aE.out];exact G)⟩;obtain⟨aI,rfl,_,ab⟩:=(aF.below r).cell DD.len G D (by omega);have ad:=g' (List.mem_of_getElem? D);have E:=Y.out d ad;obtain⟨ae,af⟩:=hg (fun W=>Eh d E.p W) ab;clear D E ab;go_upto_region 5 with(first|(refine oL rfl 70 (.tmp 11) rfl (aI.add (k*34)) rfl d.enc _ af ja rfl (by kernel_rfl) ?_)|(refine jD rfl 70 (.tmp 5) (.tmp 12) rfl d.cs rfl rfl (uH _) rfl (k7 _) ?_;intro aY ag Q _))
   obtain⟨ah,ai,aj⟩:=hs (hJ r Q) (kl K Q) ag;clear ag Q K r af;go_wp2_with (first|(refine hR aj ja (uH _) rfl rfl rfl rfl ?_));refine hI (Ej d _) fun aJ R=>?_;obtain⟨ak,al⟩:=hg (hJ ah R) (kl ai R);clear R ah ai aj;go_upto_region 6 with(first|(refine jD rfl 112 (.tmp 6) (.tmp 14) rfl d.cs rfl rfl (kX _) rfl (k7 _) ?_;intro aZ S T _))
   obtain⟨aK,an⟩:=hk aJ.heap.size;rw[←an]at S⊢;clear an;obtain⟨ao,ap,U⟩:=hs (hJ ak T) (kl al T) S;clear S T ak al;go_wp2_with (first|(refine hR U kj (kX _) rfl rfl rfl rfl ?_));refine(ae _).mono ?_;rintro e I ⟨b,rfl,z⟩;obtain⟨F,V,aq⟩:=hs (hJ ao z) (kl ap z) (U.to z);clear z ao ap U ae;cases b
   ·go_wp2
    exact⟨⟨k+1,m,xs,by go_num,by omega,by omega,V,O,F⟩,by simp[intOf];omega⟩
   have ar:Below w.heap.size w (I.alloc (.cells #[.int .i64 d.k,.int .i64 d.ac,.int .i64 d.me,.int .i64 d.h8,.int .u64 d.am,.int .i64 d.ep,.slice d.bi.A d.bi.n d.bi.c,.int .i64 d.wh,.int .u64 d.p.inc,.int .u64 d.p.ix,.int .u64 d.p.floor,.int .u64 d.p.cap,.int .u64 d.p.up,.int .u64 d.p.down,.int .u64 d.p.ih,.int .u64 d.p.quot,.int .u64 d.p.iR,.int .u64 d.p.iS,.int .u64 d.p.recover,.int .u64 d.p.ig,.int .u64 d.p.iT,.int .u64 d.p.iU,.int .i64 d.p.iV,.int .i64 d.p.ic,.int .i64 d.p.iE,.int .i64 d.p.iN,.int .i64 d.p.iI,.int .i64 d.p.iy,.int .i64 d.p.wait,.int .i64 d.p.iW,.int .i64 d.p.iK,.int .i64 d.p.iO,.int .i64 d.mo,.bool d.ye] 112)):=F.alloc F.size _;have aL:Hid (ha I aK 112 #[.int .i64 d.k,.int .i64 d.ac,.int .i64 d.me,.int .i64 d.h8,.int .u64 d.am,.int .i64 d.ep,.slice d.bi.A d.bi.n d.bi.c,.int .i64 d.wh,.int .u64 d.p.inc,.int .u64 d.p.ix,.int .u64 d.p.floor,.int .u64 d.p.cap,.int .u64 d.p.up,.int .u64 d.p.down,.int .u64 d.p.ih,.int .u64 d.p.quot,.int .u64 d.p.iR,.int .u64 d.p.iS,.int .u64 d.p.recover,.int .u64 d.p.ig,.int .u64 d.p.iT,.int .u64 d.p.iU,.int .i64 d.p.iV,.int .i64 d.p.ic,.int .i64 d.p.iE,.int .i64 d.p.iN,.int .i64 d.p.iI,.int .i64 d.p.iy,.int .i64 d.p.wait,.int .i64 d.p.iW,.int .i64 d.p.iK,.int .i64 d.p.iO,.int .i64 d.mo,.bool d.ye]):=aq;obtain⟨au,X⟩:=hg (kl V (hz.alloc hj (.cells #[.int .i64 d.k,.int .i64 d.ac,.int .i64 d.me,.int .i64 d.h8,.int .u64 d.am,.int .i64 d.ep,.slice d.bi.A d.bi.n d.bi.c,.int .i64 d.wh,.int .u64 d.p.inc,.int .u64 d.p.ix,.int .u64 d.p.floor,.int .u64 d.p.cap,.int .u64 d.p.up,.int .u64 d.p.down,.int .u64 d.p.ih,.int .u64 d.p.quot,.int .u64 d.p.iR,.int .u64 d.p.iS,.int .u64 d.p.recover,.int .u64 d.p.ig,.int .u64 d.p.iT,.int .u64 d.p.iU,.int .i64 d.p.iV,.int .i64 d.p.ic,.int .i64 d.p.iE,.int .i64 d.p.iN,.int .i64 d.p.iI,.int .i64 d.p.iy,.int .i64 d.p.wait,.int .i64 d.p.iW,.int .i64 d.p.iK,.int .i64 d.p.iO,.int .i64 d.mo,.bool d.ye] 112))) ar;clear ar aq V;go_wp2_with (first|(refine hR aL kj (kX d) rfl rfl rfl rfl ?_)|(at_builtin;refine wpList_append_lies _ rfl (.tmp 17) (.tmp 19) 109 rfl w.heap.size 112 az (.agg #[.int .i64 0,.int .i64 0,.int .i64 0,.int .i64 0,.int .u64 0,.int .i64 0,.slice none 0 0,.int .i64 0,.int .u64 0,.int .u64 0,.int .u64 0,.int .u64 0,.int .u64 0,.int .u64 0,.int .u64 0,.int .u64 0,.int .u64 0,.int .u64 0,.int .u64 0,.int .u64 0,.int .u64 0,.int .u64 0,.int .i64 0,.int .i64 0,.int .i64 0,.int .i64 0,.int .i64 0,.int .i64 0,.int .i64 0,.int .i64 0,.int .i64 0,.int .i64 0,.int .i64 0,.bool false]) 34 288 underlying109 aA aB aC aD rfl (by decide) _ _ _ rfl au ⟨I.heap.size,0,none⟩ 1 1 (DD.enc d) rfl rfl (kp _ _ _ _ rfl) (fun v aM=>List.all_eq_true.1 (show(DD.enc d).all (·.oneCell')=true from by kernel_rfl) v aM) (by omega) (by unfold maxLen;omega) (by omega) X.size _ rfl ?_;intro a0 a1 aN av aw a2 a3));obtain⟨aO,aP⟩:=hg (show aN.ownsRow w.heap.size 112 34 _ (m+1) (flat DD.enc (xs++[d])) by rw[ld,mi];exact av) (X.grown aw X.size fun j aQ=>(au.lt j aQ).1);clear av aw;go_wp2;exact⟨⟨k+1,m+1,xs++[d],by go_num,by omega,by omega,aO,fun x o=>by
    rcases List.mem_append.1 o with o|o
    ·exact O x o
    obtain rfl:=List.mem_singleton.1 o;exact ad,aP⟩,by simp[intOf];omega⟩
  have aH:=h1 G;have aR:=hV.own K;obtain⟨aS,c',rfl,_,_,_,ax⟩:=aR;have E:∀x∈xs,oM wr wr.heap.size x:=fun x o=>((Y x (O x o)).below r).more r.size;have aT:=g' (Ek aS m c' xs wr ax E (by omega));clear ax E;go_wp2_with fail;refine aT.mono ?_;rintro e I ⟨a4,rfl,ay,z⟩;obtain⟨aU,F⟩:=hg (ay.low r.size) (hJ r z);clear ay z;go_wp2;go_ret;exact⟨_,rfl,aU,F⟩
open hC h0
abbrev hr:=Nat→Nat
def hL(κ:hr)(w:World):World:={w with heap:=w.heap.mapIdx fun k o=>if κ k=0 then o else .coro none}
theorem s8(κ:hr)(w:World):(hL κ w).heap.size=w.heap.size:=by simp[hL]
theorem qN{κ:hr}(h:κ k=0):(hL κ w).heap[k]?=w.heap[k]? :=by
 simp[hL,h]
theorem rP{κ:hr}(h:κ k≠0):(hL κ w).heap[k]?=w.heap[k]?.map (fun _=> .coro none):=by
 simp[hL,h]
theorem rQ{κ:hr}{p:Addr}{v:Value}(h:(hL κ w).cell? p=some v):w.cell? p=some v∧κ p.block=0:=by
 by_cases o:κ p.block=0
 ·exact⟨(World.cell?_of_block (w:=w) (qN o)).symm.trans h,o⟩
 exfalso;unfold World.cell? at h;rw[rP o]at h;cases r:w.heap[p.block]? <;>rw[r]at h<;>simp at h
theorem p5{κ:hr}{p:Addr}(o:κ p.block=0):(hL κ w).cell? p=w.cell? p:=World.cell?_of_block (w:=w) (qN o)
theorem Rd.seen{κ:hr}(h:Rd (hL κ w) B A n f):Rd w B A n f:=fun j o=>by
 obtain⟨r,e,z,D⟩:=h j o;exact⟨r,e,z,(rQ D).1⟩
theorem Rd.hid{κ:hr}(h:Rd w B A n f)(r:∀o,A=some o→κ o.block=0):Rd (hL κ w) B A n f:=fun j z=>by
 obtain⟨o,e,D,E⟩:=h j z;exact⟨o,e,D,(p5 (by rw[block_add];exact r o e)).trans E⟩
theorem yg{κ:hr}{rs:List (List Nat)}(h:hq.ki (hL κ w) B A n rs):hq.ki w B A n rs:=⟨h.1,fun i o=>by
 obtain⟨r,z,D,e,E,F,⟨G,I,J⟩,K⟩:=h.2 i o;exact⟨r,z,D,e,E,(rQ F).1,⟨G,I,Rd.seen J⟩,K⟩⟩
theorem Em{κ:hr}{v:Value}{rs:List (List Nat)}(h:hq.OR w b v n rs)(z:∀k,b≤k→κ k=0):∃s:Sl,v=s.v∧s.n=n∧s.Ok∧hq.ki (hL κ w) w.heap.size s.A s.n rs:=by
 obtain⟨J,xs,K,O⟩:=h;obtain⟨s,rfl,rfl,Q,R,S⟩:=jZ K;refine⟨s,rfl,rfl,Q,J,fun i D=>?_⟩;obtain⟨u,T,U,V⟩:=O i D;obtain⟨E,F,rfl,W,_,X,r⟩:=hq.re rfl V U;have G:=S.2;rw[Nat.mul_one]at G;obtain⟨o,e,Y,I⟩:=G i D;have Z:kN xs i= .slice E (hq.ro rs i).length F:=by unfold kN;rw[T];rfl
 rw[Z]at I;exact⟨o,E,F,e,Y,(p5 (by rw[block_add];exact z _ (R o e))).trans I,⟨r.1,r.2.1,Rd.hid r.2.2 fun o e=>z _ (X o e)⟩,W⟩
structure ht (κ:hr) (w:World) (En:hr) (w':World):Prop where
 os:w'.os=w.os
 tape:w'.tape=w.tape
 output:w'.output=w.output
 size:w.heap.size≤w'.heap.size
 jl:∀k,k<w.heap.size→En k=κ k
 h2:∀k,k<w.heap.size→κ k=0∨κ k=10→w'.heap[k]?=w.heap[k]?
theorem ht.refl(κ:hr)(w:World):ht κ w κ w:=⟨rfl,rfl,rfl,hj,fun _ _=>rfl,fun _ _ _=>rfl⟩
theorem ht.trans{κ r z:hr}(h:ht κ w r W)(k:ht r W z X):ht κ w z X:=
 ⟨k.os.trans h.os,k.tape.trans h.tape,k.output.trans h.output,Nat.le_trans h.size k.size,fun i o=>(k.jl i (Nat.lt_of_lt_of_le o h.size)).trans (h.jl i o),
   fun i o A=>(k.h2 i (Nat.lt_of_lt_of_le o h.size) (by rw[h.jl i o];exact A)).trans (h.h2 i o A)⟩
theorem ht.of{κ:hr}{w':World}(h:Below w.heap.size w w'):ht κ w κ w':=⟨h.os,h.tape,h.output,h.size,fun _ _=>rfl,fun k o _=>h.block k o⟩
theorem ht.hT{κ:hr}{w':World}(h:hn g w w')(z:κ g≠0∧κ g≠10):ht κ w κ w':=
 ⟨h.os,h.tape,h.output,h.size,fun _ _=>rfl,fun k o r=>h.block k o (fun e=>by rw[e]at r;omega)⟩
theorem ht.hL{κ z:hr}{w':World}(h:ht κ w z w'):Below w.heap.size (hL κ w) (hL z w'):=
 ⟨h.os,h.tape,h.output,by rw[s8,s8];exact h.size,fun k o=>by
   by_cases r:κ k=0
   ·rw[qN r,qN ((h.jl k o).trans r),h.h2 k o (.inl r)]
   rw[rP r,rP (by rw[h.jl k o];exact r),Array.getElem?_eq_getElem o,Array.getElem?_eq_getElem (Nat.lt_of_lt_of_le o h.size)];rfl⟩
theorem ht.keep{κ r:hr}{w':World}(h:ht κ w r w')(o:ha w g t Q)(z:κ g=0):ha w' g t Q∧r g=0:=⟨(h.h2 g o.lt (.inl z)).trans o,(h.jl g o.lt).trans z⟩
theorem ht.below{κ o:hr}{w':World}(h:ht κ w o w')(A:L≤w.heap.size)(r:∀k,k<L→κ k=0∨κ k=10):Below L w w':=⟨h.os,h.tape,h.output,h.size,fun k z=>h.h2 k (by omega) (r k z)⟩
structure iY (κ:hr) (w:World) (e:TypeId) (sz x:Nat) (s:Sl) (xs:List Value):Prop where
 own:w.ownsRow 0 e sz s.v s.n xs
 jl:∀ad,s.A=some ad→κ ad.block=x
theorem iY.lt{κ:hr}{s:Sl}{xs:List Value}(h:iY κ w e n x s xs)(o:s.A=some J):J.block<w.heap.size:=(h.own.lt J.block (by rw[Sl.v,o];rfl)).2
theorem j0{w':World}{v:Value}{xs:List Value}(h:w.ownsRow b e L v n xs)(o:∀k,v.ownBlock=some k→w'.heap[k]?=w.heap[k]?):w'.ownsRow b e L v n xs:=by
 obtain⟨r,h⟩:=h;refine⟨r,?_⟩;rcases h with h|⟨g,cap,cur,rfl,z,A,h⟩
 ·exact .inl h
 exact .inr ⟨g,cap,cur,rfl,z,(o g rfl).trans A,h⟩
theorem iY.keep{κ D:hr}{w':World}{s:Sl}{xs:List Value}(h:iY κ w e n x s xs)(F:∀k,k<w.heap.size→D k=κ k)(G:∀k,k<w.heap.size→κ k=x→w'.heap[k]?=w.heap[k]?):iY D w' e n x s xs:=by
 refine⟨j0 h.own fun k o=>?_,fun r E=>(F _ (h.lt E)).trans (h.jl r E)⟩;have I:=(h.own.lt k o).2;refine G k I ?_;rcases z:s.A with _|r
 ·rw[Sl.v,z]at o;cases o
 rw[Sl.v,z]at o;have:=h.jl r z;injection o with o;rw[←o];exact this
theorem iY.below{κ:hr}{w':World}{s:Sl}{xs:List Value}(h:iY κ w e n x s xs)(o:Below w.heap.size w w'):iY κ w' e n x s xs:=h.keep (fun _ _=>rfl) fun k r _=>o.block k r
theorem iY.hT{κ:hr}{w':World}{s:Sl}{xs:List Value}(h:iY κ w e n x s xs)(o:hn g w w')(r:κ g≠x):iY κ w' e n x s xs:=h.keep (fun _ _=>rfl) fun k z A=>o.block k z (fun e=>r (e▸A))
theorem iY.ok{κ:hr}{s:Sl}{xs:List Value}(h:iY κ w e n x s xs):s.Ok:=by
 obtain⟨s',o,_,r,_⟩:=jZ h.own;unfold Sl.v at o;cases s;cases s';simp only at o;cases o;exact r
theorem iY.row{κ:hr}{s:Sl}{xs:List Value}(h:iY κ w e g x s xs):hV w w.heap.size s.A s.n g xs:=by
 obtain⟨s',o,_,_,_,r⟩:=jZ h.own;unfold Sl.v at o;cases s;cases s';simp only at o;cases o;exact r
def iz(κ:hr)(b x:Nat):hr:=fun k=>if k=b then x else κ k
theorem py(κ:hr)(b x:Nat):iz κ b x b=x:=by simp[iz]
theorem pz{κ:hr}(h:k≠b):iz κ b x k=κ k:=by simp[iz,h]
theorem jm(s:hA):(prog.info? 166).map (·.size)=some s.cs.size:=by kernel_rfl
def k9(s:hA)(i:Int):Bool:=decide (0≤i∧i≤(s.pu.n:Int) -1)
theorem uI(s:hA)(i:Int)(A:s.pu.n≤1000000)(b:Bool)(o:b=k9 s i)(w:World):
 Calls prog 161 #[.agg s.cs,.int .i64 i] w fun e w'=>e= .returned (.bool b)∧Below w.heap.size w w':=by
 have D:=g' (fun W=>pj i 0 ((s.pu.n:Int) -1) b o W);have I:IntKind.i64.wrap ((s.pu.n:Int) -1)=(s.pu.n:Int) -1:=IntWalk.i64_in _ (by omega);clear o A;obtain⟨J,r,E,z⟩:=iF w s.cs 166;obtain⟨F,G⟩:=hg z r;clear r z;go_enter func161,ntmps161;go_upto_region 1 with(fail)
 rw[G.out];have K:=F.all;go_wp2_with fail;refine hE (D _) ?_;go_wp2;go_ret;exact⟨rfl,E⟩
def qO(n:Nat)(us:List Nat):Bool:=decide (1≤(n:Int)∧(n:Int)≤64)&&us.all (fun u=>decide (u≤4611686018427387904))
theorem pB{α:Type}{l:List α}{f:α→Bool}{x:α}(o:l[k]?=some x)(h:f x=false):l.all f=false:=by
 rw[List.all_eq_false];exact⟨x,List.mem_of_getElem? o,by rw[h];decide⟩
theorem rR{α:Type}{l:List α}{f:α→Bool}(h:∀k x,k<l.length→l[k]?=some x→f x=true):l.all f=true:=by
 rw[List.all_eq_true];intro x r;obtain⟨k,o,rfl⟩:=List.getElem_of_mem r;exact h k _ o (List.getElem?_eq_getElem o)
theorem Eo(s:hA)(us:List Nat)(w:World)(h:jk w w.heap.size s.pu.A s.pu.n us)(am:s.pu.n≤1000000)(b:Bool)(o:b=qO s.pu.n us):
 Calls prog 96 #[.agg s.cs] w fun e w'=>e= .returned (.bool b)∧Below w.heap.size w w':=by
 unfold qO at o;obtain⟨Q,J⟩:=hk (decide (1≤(s.pu.n:Int)∧(s.pu.n:Int)≤64));have R:=g' (fun W=>pj (s.pu.n:Int) 1 64 Q J W);rw[←J]at o;clear J;obtain⟨ae,S,E,T⟩:=iF w s.cs 166;obtain⟨U,V⟩:=hg T S;clear S T;have X:=(h.2.2.below E);have Y:=h.1;clear h;cases Q
 ·subst o
  go_enter func96,ntmps96;go_upto_region 1 with(fail)
  rw[V.out];have af:=U.all;go_wp2_with fail;refine hE (R _) ?_;go_wp2;go_ret;exact⟨by rfl,E⟩
 rw[Bool.true_and]at o;obtain⟨Z,aa,ag⟩:=hs o Y X;clear o Y X;go_enter func96,ntmps96;go_upto_region 1 with(fail)
 rw[V.out];have af:=U.all;go_wp2_with fail;refine hE (R _) ?_;go_wp2;go_loopw [15] (fun K wr=>∃k:Nat,K= .int .i64 k∧k≤s.pu.n∧wr=ae∧∀j,j<k→un us j≤4611686018427387904) (fun K _=>s.pu.n-(intOf K).toNat)
 case atStart=>exact⟨0,rfl,h6,rfl,fun j r=>absurd r (by omega)⟩
 case round=>
  obtain⟨k,rfl,an,rfl,D⟩:=hrel;by_cases F:k<s.pu.n
  ·have ah:=hZ F
   obtain⟨ai,ab,_,ac⟩:=ag k F;have aj:wr.cell? (ai.add k)=some (.int .u64 (un us k:Nat)):=ac;have G:us[k]?=some (un us k):=by rw[pP (by rw[aa.out];exact F)];exact List.getElem?_eq_getElem _
   obtain⟨x,z⟩:=hk (un us k);rw[←z]at aj G;clear ac;by_cases I:x≤4611686018427387904
   ·have ak:decide ((4611686018427387904:Int)<(x:Int))=false:=by simp;omega
    have al:=g' (show∀j,j<k+1→un us j≤4611686018427387904 from fun j r=>by
     rcases Nat.lt_or_ge j k with h|h
     ·exact D j h
     obtain rfl:j=k:=by omega
     rw[←z];exact I)
    clear D I z G;rw[ab];go_wp2;exact⟨⟨k+1,by go_num,by omega,by trivial,al⟩,by simp[intOf];omega⟩
   have ak:decide ((4611686018427387904:Int)<(x:Int))=true:=by simp;omega
   have O:=g' (show b=false from Z.trans (pB G (by simpa using I)));clear D I z G;rw[ab];go_wp2;go_ret;exact⟨by rw[O.out];rfl,E⟩
  have ah:=h1 F;obtain rfl:k=s.pu.n:=by omega
  have O:=g' (show b=true from Z.trans (rR fun j x r z=>by
   have ad:=D j (by rw[←aa.out];exact r);rw[pP r,←Option.some_inj.1 (z.symm.trans (List.getElem?_eq_getElem r))]at ad;simpa using ad))
  clear D;go_wp2;go_ret;exact⟨by rw[O.out];rfl,E⟩
def mW(o:List Mem)(r:List Int)(z:Int):Bool:=(List.range o.length).all (fun j=>match o[j]? with|some m=>m.h3 !=z||decide ((j:Int)∈r)|none=>true)&&decide (r.length=(o.filter (fun m=>m.h3==z)).length)
theorem yi(s:hA)(ds:List Mem)(l:Sl)(E:List Int)(o:Int)(w:World)(h:hV w w.heap.size s.me.A s.me.n 6 (flat Mem.enc ds))(Y:jr w w.heap.size l.A l.n E)(ac:l.Ok)(aB:s.me.n≤1000000)(b:Bool)(I:b=mW ds E o):
 Calls prog 162 #[.agg s.cs,.slice l.A l.n l.c,.int .i64 o] w fun e w'=>e= .returned (.bool b)∧Below w.heap.size w w':=by
 obtain⟨S,ak,al,ad⟩:=h5 (h.len Mem.len (by omega)) Y.1 (fun(W:World) (I:Below w.heap.size w W) (x:Int) (y:Bool) (O:y=decide (x∈E))=>Dk l E x ac (Y.below I) y O) I;obtain⟨aC,ae,am,af⟩:=iF w s.cs 166;obtain⟨an,ao⟩:=hg af ae;clear ae af;have ap:=g' (fun(W:World) (I:Below w.heap.size w W)=>h.below I);clear h Y ac I;go_enter func162,ntmps162;go_upto_region 1 with(fail)
 rw[ao.out];have aD:=an.all;go_wp2;go_loopw [7,14] (fun aq Z wr=>∃k q:Nat,Z= .int .i64 k∧aq= .int .i64 q∧k≤s.me.n∧q=((ds.take k).filter (fun m=>m.h3==o)).length∧Below w.heap.size w wr∧∀j m,j<k→ds[j]?=some m→m.h3=o→(j:Int)∈E) (fun _ Z _=>s.me.n-(intOf Z).toNat)
 case atStart=>exact⟨0,0,rfl,rfl,h6,by simp,am,fun j _ D=>absurd D (by omega)⟩
 case round=>
  obtain⟨k,q,rfl,rfl,aE,F,J,K⟩:=hrel;have aF:q≤k:=by rw[F];exact Nat.le_trans (List.length_filter_le _ _) (by rw[List.length_take];omega)
  by_cases Q:k<s.me.n
  ·have ar:=hZ Q
   obtain⟨d,T⟩:∃d,ds[k]?=some d:=⟨_,iB (by rw[S.out];exact Q)⟩;obtain⟨r,au,_,G⟩:=(ap wr J).cell Mem.len Q T (by omega);have aG:wr.cell? (r.add (k*6))=some (.int .u64 d.hD):=by have:=G 0 _ rfl;rwa[hG.add_zero]at this
   have aH:wr.cell? ⟨(r.add (k*6)).block,(r.add (k*6)).off+1,none⟩=some (.int .u64 d.hP):=G 1 _ rfl;have aI:wr.cell? ⟨(r.add (k*6)).block,(r.add (k*6)).off+2,none⟩=some (.int .u64 d.h9):=G 2 _ rfl;have aJ:wr.cell? ⟨(r.add (k*6)).block,(r.add (k*6)).off+3,none⟩=some (.int .i64 d.str):=G 3 _ rfl;have aK:wr.cell? ⟨(r.add (k*6)).block,(r.add (k*6)).off+4,none⟩=some (.int .i64 d.own):=G 4 _ rfl;have aL:wr.cell? ⟨(r.add (k*6)).block,(r.add (k*6)).off+5,none⟩=some (.int .i64 d.h3):=G 5 _ rfl;have U:=g' (show ds.take (k+1)=ds.take k++[d] by rw[List.take_add_one,T];rfl);rw[au];have av:=J.size;have V:=J.alloc av (.cells (hW d) 98);obtain⟨aM,ag⟩:=hg (ha.new wr wr.heap.size 98 (hW d) rfl) T;have aN:IntKind.i64.wrap ((q:Int)+1)=((q+1:Nat):Int):=(IntWalk.i64_in _ (by omega)).trans (by omega);clear G T;by_cases z:d.h3=o
   ·have aw:(d.h3==o)=true:=by simpa using z
    have aa:=g' (show q+1=((ds.take (k+1)).filter (fun m=>m.h3==o)).length by rw[U.out,List.filter_append,List.length_append,←F];simp[z]);obtain⟨y,O⟩:=hk (decide ((k:Int)∈E));obtain⟨ax,ay,ah,az⟩:=h5 (al _ V k y O) K O z;clear F K O J U z;go_wp2_with fail;refine ax.mono ?_;rintro e w' ⟨rfl,rfl⟩;cases y
    ·have aA:=g' (show b=false from ad.trans (by
      unfold mW;rw[pB (l:=List.range ds.length) (x:=k) (k:=k) (List.getElem?_range (by rw[S.out];exact Q)) (by rw[ag.out];simp only;rw[←ah.out];simp[az.out])];rfl))
     go_wp2;go_ret;exact⟨by rw[aA.out];rfl,V⟩
    have ab:=g' (show∀j m,j<k+1→ds[j]?=some m→m.h3=o→(j:Int)∈E from fun j m D R X=>by
     rcases Nat.lt_or_ge j k with h|h
     ·exact ay j m h R X
     obtain rfl:j=k:=by omega
     simpa using ah.out)
    go_wp2;exact⟨⟨k+1,q+1,by go_num,rfl,by omega,aa,V,ab⟩,by simp[intOf];omega⟩
   have aw:(d.h3==o)=false:=by simpa using z
   have aa:=g' (show q=((ds.take (k+1)).filter (fun m=>m.h3==o)).length by rw[U.out,List.filter_append,List.length_append,←F];simp[z]);have ab:=g' (show∀j m,j<k+1→ds[j]?=some m→m.h3=o→(j:Int)∈E from fun j m D R X=>by
    rcases Nat.lt_or_ge j k with h|h
    ·exact K j m h R X
    obtain rfl:j=k:=by omega
    rw[ag.out]at R;cases R;exact absurd X z)
   clear F K J U z;go_wp2;exact⟨⟨k+1,q,by go_num,rfl,by omega,aa,V,ab⟩,by simp[intOf];omega⟩
  have ar:=h1 Q;obtain rfl:k=s.me.n:=by omega
  rw[List.take_of_length_le (by rw[S.out];exact hj)]at F;have aO:((l.n:Int)==(q:Int))=b:=by
   rw[ad.out];unfold mW;rw[rR (fun j x D ai=>by
    rw[List.length_range]at D;rw[List.getElem?_range D]at ai;cases ai;rw[List.getElem?_eq_getElem D];simp only;by_cases z:ds[j].h3=o
    ·have:=K j _ (by rw[←S.out];exact D) (List.getElem?_eq_getElem D) z
     simp[this]
    simp[z]),Bool.true_and,ak,←F]
   by_cases aj:l.n=q
   ·simp[aj]
   simp[aj];omega
  clear F K;go_wp2;go_ret;exact⟨rfl,J⟩
end hB
end Go.Proofs.YtffbipddbnkdjaaGreat
