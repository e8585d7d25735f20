/- What functions compute at any arguments, and plain facts: A hand does one deed; A block's deeds, done to a state: rite.Block; The state of the beginning: state.New. Conditions: those that each theorem names. -/
import Derived.Test.YtffbipddbnkdjaaGreatZ32
set_option maxRecDepth 100000
set_option maxHeartbeats 40000000
set_option linter.all false
open Go Go.Proofs.Tryz
open Go.Value(int)
open Go.IntKind(i64 u64)
variable{A T:Option Addr}{n g b L k B i x a m j q c p s r d h u N y:Nat}{E z:Int}{P:Program}{w W X Z:World}{e t:TypeId}{f:Nat→Value}{l:List Bool}{V U:Value}{Y:List Nat}{S:List Value}{R:List Int}{Q:Array Value}{O:List (List Nat)}{M:Bool}{K:Ending}{J:Addr}{I:Nat→Nat}{H:Option Nat}
namespace Go.Proofs.YtffbipddbnkdjaaGreat
namespace hB
open RowKit
open hG hf hC h0 hU
theorem HP.from{κ:hr}{o:hA}{r:hl}{w':World}{e:Ending}(z:ht κ w κ W)(h:HP κ g o r k W e w'):HP κ g o r k w e w':=by
 obtain⟨E,A,s',c',D,F,G,I⟩:=h;exact⟨E,A,s',c',D,F,z.trans G,I⟩
theorem GU(κ:hr)(g:Nat)(I:hA)(D:hl)(k:Nat)(s:hA)(c:hl)(w:World)(d:DD)(h:ib κ g s c w)(F:HI I D k s c)(J:d.Good w)(ae:1≤d.k∧d.k≤7)(af:mT d)(U:D.us.length≤1000000)(ag:D.ms.length≤1000000)(ah:iG s.p=true)(ai:0≤s.ep∧s.ep≤1073741824)(o:k≤800):
 Calls prog 70 #[.pointer (some ⟨g,0,none⟩),.agg d.cs] w (HP κ g I D k w):=by
 have aj:c.ms.length≤1000000:=by rw[F.ml];exact ag
 have Q:∀W,Below w.heap.size w W→d.Good W:=fun W r=>J.below r;obtain⟨aF,aG,aH,ak,aI,aJ,aK,aL,aM⟩:=og (fun W (z:ib κ g s c W)=>Gr κ g s c W d z) (fun W (z:ib κ g s c W)=>Gt κ g s c W d z J.me.1 aj) (fun W (z:ib κ g s c W) (r:Below w.heap.size w W)=>Gu κ g I D k s c W d z F (Q W r) U) (fun W (z:ib κ g s c W) (r:Below w.heap.size w W)=>Gx κ g I D k s c W d z F (Q W r) U) (fun W (z:ib κ g s c W) (aN:d.me<(c.ms.length:Int))=>GA κ g I D k s c W d z F d.me.toNat (by have:=J.me;omega) (by have:=J.me;omega) (by have:=F.xl;omega)) (fun W (z:ib κ g s c W) (r:Below w.heap.size w W)=>Gz κ g I D k s c W d z F (Q W r)) (fun W (z:ib κ g s c W) (r:Below w.heap.size w W) (aO:d.k=6)=>GQ κ g I D k s c W d z F (Q W r) aO af U ah ai (by omega)) (fun W (z:ib κ g s c W) (aN:d.me<(c.ms.length:Int))=>GR κ g I D k s c W d z F d.me.toNat (by have:=J.me;omega) (by have:=J.me;omega) (by have:=J.me;omega) (by omega)) ae;obtain⟨aW,al,V,A⟩:=iF w d.cs 70;have z:=h.below V;have aP:=g' (ht.of (κ:=κ) V);obtain⟨am,an,ao,ap⟩:=h5 A z V al;clear A z V al;have aq:=g' F;clear h F J ae af U ag ah ai o aj Q;go_enter func70,ntmps70;go_upto_region 1 with(fail)
 rw[ap.out];clear ap;have A:=am.out;go_wp2_with (first|(refine hR A ja (jo d) rfl rfl rfl rfl ?_)|fail);refine(aF _ an).mono ?_;rintro e aX ⟨E,rfl,r⟩;clear A;obtain⟨aa,ar,au,av⟩:=h5 (an.below r) (am.to r) (ao.trans (r.mono ao.size)) (aP.trans (ht.of (κ:=κ) r));clear r;by_cases X:E=0
 ·have Y:(E !=0)=false:=by simp[X]
  clear X;have A:=ar.out;go_wp2_with (first|(refine hR A ja (jo d) rfl rfl rfl rfl ?_)|fail);refine(aG _ aa).mono ?_;rintro e aY ⟨ab,rfl,r,aw⟩;have aQ:=g' aw;clear A Y aw;obtain⟨K,ax,R,ay⟩:=h5 (aa.below r) (ar.to r) (au.trans (r.mono au.size)) (av.trans (ht.of (κ:=κ) r));clear r;by_cases S:ab=0
  ·have az:=g' (aQ S)
   have Y:(ab !=0)=false:=by simp[S]
   clear S;have aR:d.k=1∨d.k=2∨d.k=3∨d.k=4∨d.k=5∨d.k=6∨d.k=7:=by have:=aM.out;omega
   have aS:=ax.all;have A:=ax.out;rcases aR with o|o|o|o|o|o|o;focus
    have O:(d.k==1)=true:=by rw[o];rfl
    have G:=g' o;clear o;go_wp2_with (first|(refine hR A ja (jo d) rfl rfl rfl rfl ?_)|fail);refine(aH _ K R).mono ?_
   rotate_left;focus
    have O:(d.k==1)=false:=by rw[o];rfl
    have T:(d.k==2)=true:=by rw[o];rfl
    have G:=g' o;clear o;go_wp2_with (first|(refine hR A ja (jo d) rfl rfl rfl rfl ?_)|fail);refine(ak _ K R).mono ?_
   rotate_left;focus
    have O:(d.k==1)=false:=by rw[o];rfl
    have T:(d.k==2)=false:=by rw[o];rfl
    have Z:(d.k==3)=true:=by rw[o];rfl
    have G:=g' o;clear o;go_wp2_with (first|(refine hR A ja (jo d) rfl rfl rfl rfl ?_)|fail);refine(ak _ K R).mono ?_
   rotate_left;focus
    have O:(d.k==1)=false:=by rw[o];rfl
    have T:(d.k==2)=false:=by rw[o];rfl
    have Z:(d.k==3)=false:=by rw[o];rfl
    have ac:(d.k==4)=true:=by rw[o];rfl
    have G:=g' o;clear o;go_wp2_with (first|(refine hR A ja (jo d) rfl rfl rfl rfl ?_)|fail);refine(aI _ K (az (.inr (.inl G)))).mono ?_
   rotate_left;focus
    have O:(d.k==1)=false:=by rw[o];rfl
    have T:(d.k==2)=false:=by rw[o];rfl
    have Z:(d.k==3)=false:=by rw[o];rfl
    have ac:(d.k==4)=false:=by rw[o];rfl
    have aA:(d.k==5)=true:=by rw[o];rfl
    have G:=g' o;clear o;go_wp2_with (first|(refine hR A ja (jo d) rfl rfl rfl rfl ?_)|fail);refine(aJ _ K R).mono ?_
   rotate_left;focus
    have O:(d.k==1)=false:=by rw[o];rfl
    have T:(d.k==2)=false:=by rw[o];rfl
    have Z:(d.k==3)=false:=by rw[o];rfl
    have ac:(d.k==4)=false:=by rw[o];rfl
    have aA:(d.k==5)=false:=by rw[o];rfl
    have aT:(d.k==6)=true:=by rw[o];rfl
    have G:=g' o;clear o;go_wp2_with (first|(refine hR A ja (jo d) rfl rfl rfl rfl ?_)|fail);refine(aK _ K R G).mono ?_
   rotate_left;focus
    have O:(d.k==1)=false:=by rw[o];rfl
    have T:(d.k==2)=false:=by rw[o];rfl
    have Z:(d.k==3)=false:=by rw[o];rfl
    have ac:(d.k==4)=false:=by rw[o];rfl
    have aA:(d.k==5)=false:=by rw[o];rfl
    have aT:(d.k==6)=false:=by rw[o];rfl
    have G:=g' o;clear o;go_wp2_with (first|(refine hR A ja (jo d) rfl rfl rfl rfl ?_)|fail);refine(aL _ K (az (.inr (.inr G)))).mono ?_
   all_goals
    intro e aZ aB;obtain⟨aU,aV,s',c',rfl,aC,aD,aE⟩:=HP.from ay aB;have ad:=g' (And.intro aC (And.intro aD aE));clear aB aC aD aE aS A;go_wp2;go_ret;exact⟨aU,aV,s',c',rfl,ad.1,ad.2.1,ad.2.2⟩
  have Y:(ab !=0)=true:=by simp[S]
  clear S;go_wp2;go_ret;exact HP.same K ay aq
 have Y:(E !=0)=true:=by simp[X]
 clear X;go_wp2;go_ret;exact HP.same aa av aq
theorem jO.GV{κ:hr}{s:hA}{c:hl}(h:jO L κ s c w)(o:Below w.heap.size w W)(r:ha W w.heap.size 142 s.cs):ib (iz κ w.heap.size 1) w.heap.size s c W∧∀k,k<L→iz κ w.heap.size 1 k=10:=ib.start h o hj r
structure GX (s:hA) (c:hl) (w:World) (cs:Array Value) (w':World) (s':hA) (c':hl):Prop where
 v:cs=s'.cs
 lay:Lay s' c' (hL (iQ w.heap.size) w') w'.heap.size
 ok:s'.Ok
 fg:FG s c
 hi:HI s c 64 s' c'
def q4(s:hA)(c:hl)(w:World)(e:Ending)(w':World):Prop:=∃(o:Array Value) (i E:Int),e= .returned (.tuple #[.agg o,int i64 i,int i64 E])∧Below w.heap.size w w'∧o.size=41∧o.all (·.oneCell')=true∧(E=0→∃s' c',GX s c w o w' s' c')
theorem q4.no{s:hA}{c:hl}{w':World}{i:Int}(o:E≠0)(r:Below w.heap.size w w'):q4 s c w (.returned (.tuple #[.agg hC.h4,int i64 i,int i64 E])) w':=
 ⟨_,i,E,rfl,r,rfl,hC.kA,fun e=>absurd e o⟩
theorem GY{s:hA}{c:hl}(I:Lay s c w L)(o:mB s c=true):∀m∈c.mo,0<m.yh.n∧0<m.nh.n:=fun m D=>by
 unfold mB at o;rw[Bool.and_eq_true,Bool.and_eq_true]at o;have r:=o.1;unfold oN at r;simp only[Bool.and_eq_true]at r;have z:=List.all_eq_true.1 r.2 m D;unfold p6 at z;simp only[Bool.and_eq_true]at z;have A:=z.1;unfold nZ at A;simp only[Bool.and_eq_true]at A;obtain⟨_,_,_,_,_,_,_,E,F,_⟩:=A;have E:m.ys.length=16:=((sW _).1 E).2.2.1;have F:m.ns.length=16:=((sW _).1 F).2.2.1;have G:=I.mv m D;have J:=G.ys.1;have K:=G.ns.1;omega
theorem sY.below{w':World}{s:Sl}{ds:List DD}(h:sY w s ds)(o:Below w.heap.size w w'):sY w' s ds:=
 ⟨h.ok,(h.row.below o).more o.size,fun d r=>⟨(h.lL d r).1.below o,(h.lL d r).2⟩,h.x8⟩
theorem GZ(s:hA)(c:hl)(A:Option Addr)(n aE:Nat)(bs:List Nat)(w:World)(h:Lay s c w w.heap.size)(aF:s.Ok)(ai:jE s c)(a1:nJ s c)(a2:hq.ie w w.heap.size A n bs)(a3:n≤1000000):
 Calls prog 39 #[.agg s.cs,.slice A n aE] w (q4 s c w):=by
 have U:Below w.heap.size w ((w.alloc (.cells s.cs 46)).alloc (.cells hC.h4 46)):=(hz.alloc hj _).alloc (by simp) _;have aG:ha ((w.alloc (.cells s.cs 46)).alloc (.cells hC.h4 46)) w.heap.size 46 s.cs:=(ha.new w _ _ _ rfl).alloc _;have aH:ha ((w.alloc (.cells s.cs 46)).alloc (.cells hC.h4 46)) (w.heap.size+1) 46 hC.h4:=ha.new _ _ _ _ (by simp);have aI:((w.alloc (.cells s.cs 46)).alloc (.cells hC.h4 46)).heap.size=w.heap.size+2:=by simp
 obtain⟨J,aJ⟩:=ho ((w.alloc (.cells s.cs 46)).alloc (.cells hC.h4 46));rw[aJ]at U aG aH aI;have a4:Hid ((w.alloc (.cells s.cs 46)).alloc (.cells pL 46)=J):=g' aJ;have aj:=(h.below U).more U.size;obtain⟨a5,a6,a7,Z,aK,a8,a9,aL⟩:=mI (ym s c J aj aF ai) (fun W (G:Below J.heap.size J W)=>DT A n aE bs W ((a2.to U).to G) a3) (fun W (G:Below J.heap.size J W)=>rh s c W ((aj.below G).more G.size) aF ai a1) (And.intro aj ai) aG aH aI U;obtain⟨bR,bS,bT,bU,bV⟩:=info_parts x7;go_enter func39,ntmps39;go_upto_region 1 with(fail)
 rw[a4.out];have G:=aK.out;go_wp2_with (first|refine hR G iX (j4 s) rfl rfl rfl rfl ?_|fail);refine a5.mono ?_;rintro e bW ⟨b,rfl,aa,V,-⟩;obtain⟨ab,ak,a',aM⟩:=h5 (aL.trans (aa.mono aL.size)) aa (aK.to aa) (a8.to aa);cases b
 ·clear V
  have z:=aM.out;go_wp2_with (first|refine wpList_build rfl 46 #[] rfl (.agg hC.h4) (fun w'=>by kernel_rfl) ?_|(refine iL rfl 46 (.tmp 4) (.tmp 15) rfl (w.heap.size+1) hC.h4 rfl rfl 46 _ z rfl rfl hC.kA ?_;intro K D r));exact bodyPost_ret (v:= .tuple #[.agg hC.h4,int i64 0,int i64 291]) (oc results39 _ _ _ _ _ _ _ _ rfl rfl rfl D iX rfl rfl) rfl (q4.no (by decide) (iC ab r (by omega) ab.size))
 have O:=g' (y1 Z.1 Z.2 (V rfl).1 (V rfl).2.1 (V rfl).2.2);have ba:=g' (GY Z.1 (V rfl).2.2);go_wp2_with fail;refine(a6 _ ak).mono ?_;rintro e F ⟨bb,bc,E,ds,rfl,ac,bd⟩;obtain⟨be,I,aN,bf,al⟩:=jg bd (ab.trans (ac.mono ab.size)) (ak.trans (ac.mono ak.size)) (a'.to ac) (aM.to ac);simp only[Sl.v];by_cases ad:E=0
 ·have am:=g' (be ad)
  have an:(E !=0)=false:=by simp[ad]
  have G:=bf.out;go_wp2_with (first|refine hR G iX (j4 s) rfl rfl rfl rfl ?_|fail);refine(a7 _ aN).mono ?_;rintro e Q ⟨κ,ao,bX,rfl,bg,aO,bh,bi⟩;go_upto_region 7 with(first|refine wpList_build rfl 142 #[(0,.tmp 28)] rfl (.agg ao.cs) (fun w'=>by kernel_rfl) ?_|fail)
  have aP:Below Q.heap.size Q (Q.alloc (.cells ao.cs 142)):=hz.alloc hj _;have X:=bg.GV aP (ha.new Q _ _ _ rfl);obtain⟨g,bj⟩:=ho Q.heap.size;obtain⟨bk,ap⟩:=ho (Q.alloc (.cells ao.cs 142));have bl:Below F.heap.size F bk:=by rw[←ap];exact aO.trans (aP.mono aO.size)
  rw[ap]at X;rw[bj]at X⊢;rw[ap];obtain⟨bY,bm⟩:=ho (iz κ g 1);rw[bm]at X;obtain⟨bn,bo,bp,bq⟩:=h5 X.1 X.2 (HI.start O bh bi Z.2 ba) bl;obtain⟨br,R,bt⟩:=bb;have bZ:R≤64:=am.x8;have bu:ds.length=R:=am.row.len DD.len (by omega);have bv:=g' bu;go_upto_region 8 with(fail)
  go_loopw [33] (fun aq wr=>∃(k:Nat) (ae:hr) (o:hA) (Y:hl),aq=int i64 k∧k≤R∧ib ae g o Y wr∧HI s c k o Y∧Below F.heap.size F wr∧∀q,q<F.heap.size→ae q=10) (fun aq _=>R-(intOf aq).toNat)
  case atStart=>exact⟨0,_,_,_,rfl,h6,bn,bp,bq,bo⟩
  case round=>
   obtain⟨k,ae,o,Y,rfl,b0,ar,aQ,af,aR⟩:=hrel;by_cases ag:k<R
   ·have bw:=hZ ag
    have bx:i64.wrap ((k:Int)+1)=((k+1:Nat):Int):=by rw[IntKind.wrap_i64];omega
    obtain⟨d,aS⟩:∃d,ds[k]?=some d:=⟨_,iB (by rw[bv.out];exact ag)⟩;have au:=am.below af;obtain⟨bz,aT,bA⟩:=rS (s:=⟨br,R,bt⟩) au.ok au.row DD.len ag aS (by omega);simp only at aT;subst aT;have bB:=au.lL d (List.mem_of_getElem? aS);obtain⟨bC,bD,av,aU,aV,aw,bE,aW⟩:=mI bA ar aQ af aR bB (ha.new wr wr.heap.size 70 o0 rfl) (hz.alloc hj (.cells o0 70):Below wr.heap.size wr _);have z:=bE.out;go_upto_region 10 with(first|(refine wpList_load_mid rfl 70 (.tmp 36) rfl bz (k*34) rfl d.enc _ bC ja rfl rfl ?_)|(refine iL rfl 70 (.tmp 10) (.tmp 37) rfl wr.heap.size d.cs rfl rfl 70 _ z (jo d) rfl (k7 d) ?_;intro K D r))
    have ax:Below wr.heap.size wr K:=iC aW r hj aW.size;obtain⟨bF,ay,bG⟩:=hs (bD.below ax) (aU.trans (ax.mono aU.size)) (aw.1.below ax);go_wp2_with (first|(refine hR D ja (jo d) rfl rfl rfl rfl ?_)|fail);refine(GU ae g s c k o Y K d bF av bG aw.2.1 aw.2.2 (Nat.le_trans O.us (by omega)) (Nat.le_trans O.ml (by omega)) (by rw[av.p];exact O.hc) (by rw[av.ep];exact O.ep) (by omega)).mono ?_;rintro e bH ⟨ah,aX,bI,bJ,rfl,bK,aY,bL⟩;have bM:Below F.heap.size F bH:=ay.trans (aY.below ay.size (fun q S=> .inr (aV q S)));have bN:∀q,q<F.heap.size→aX q=10:=fun q S=>by rw[aY.jl q (Nat.lt_of_lt_of_le S ay.size)];exact aV q S
    obtain⟨az,aA,T,aB⟩:=h5 bK bL bM bN;by_cases aC:ah=0
    ·have an:(ah !=0)=false:=by simp[aC]
     go_wp2;exact⟨⟨k+1,aX,bI,bJ,by first|rfl|rw[bx],by omega,az,aA,T,aB⟩,by simp[intOf];omega⟩
    have an:(ah !=0)=true:=by simp[aC]
    obtain⟨aD,aZ⟩:=hg aC (I.trans (T.mono I.size));have z:=al.to T;go_wp2_with (first|refine wpList_build rfl 46 #[] rfl (.agg hC.h4) (fun w'=>by kernel_rfl) ?_|(refine iL rfl 46 (.tmp 4) (.tmp 43) rfl (w.heap.size+1) hC.h4 rfl rfl 46 _ z rfl rfl hC.kA ?_;intro K D r));exact bodyPost_ret (v:= .tuple #[.agg hC.h4,int i64 k,int i64 ah]) (oc results39 _ _ _ _ _ _ _ _ rfl rfl rfl D iX rfl rfl) rfl (q4.no aD (iC aZ r (by omega) aZ.size))
   have bw:=h1 ag;obtain⟨az,aA,T,aB⟩:=h5 ar (aQ.more (k':=64) (by omega)) af aR;have z:=al.to af;have bO:=g' (show wr.rangeAt g 0 o.cs.toList from fun j v bP=>by rw[Nat.zero_add];exact ar.box.cell (by simpa using bP));go_wp2_with (first|(refine wpList_load_mid rfl 46 (.tmp 49) rfl g 0 rfl o.cs.toList _ bO iX rfl rfl ?_)|(refine iL rfl 46 (.tmp 4) (.tmp 50) rfl (w.heap.size+1) o.cs rfl rfl 46 _ z (j4 o) rfl (ln o) ?_;intro K D r));have a0:=az.lay aB;have b1:w.heap.size+2≤F.heap.size:=by rw[←a9.out];exact aN.size
   have bQ:=(a0.1.below (mF r (nn (by omega)))).more r.size;exact bodyPost_ret (v:= .tuple #[.agg o.cs,int i64 0,int i64 0]) (oc results39 _ _ _ _ _ _ _ _ rfl rfl rfl D iX rfl (j4 o)) rfl ⟨_,0,0,rfl,iC (I.trans (T.mono I.size)) r (by omega) (Nat.le_trans I.size T.size),rfl,ln _,fun _=>⟨o,Y,rfl,Lay.low (fun q S=>vl (by omega) S) bQ,a0.2,O,aA⟩⟩
 have an:(E !=0)=true:=by simp[ad]
 have aD:=g' ad;have z:=al.out;go_wp2_with (first|refine wpList_build rfl 46 #[] rfl (.agg hC.h4) (fun w'=>by kernel_rfl) ?_|(refine iL rfl 46 (.tmp 4) (.tmp 24) rfl (w.heap.size+1) hC.h4 rfl rfl 46 _ z rfl rfl hC.kA ?_;intro K D r));exact bodyPost_ret (v:= .tuple #[.agg hC.h4,int i64 bc,int i64 E]) (oc results39 _ _ _ _ _ _ _ _ rfl rfl rfl D iX rfl rfl) rfl (q4.no aD (iC I r (by omega) I.size))
def je(p:hx)(r:Nat)(pu o:Sl):Array Value:= #[int u64 p.inc,int u64 p.ix,int u64 p.floor,int u64 p.cap,int u64 p.up,int u64 p.down,int u64 p.ih,int u64 p.quot,int u64 p.iR,int u64 p.iS,int u64 p.recover,int u64 p.ig,int u64 p.iT,int u64 p.iU,int i64 p.iV,int i64 p.ic,int i64 p.iE,int i64 p.iN,int i64 p.iI,int i64 p.iy,int i64 p.wait,int i64 p.iW,int i64 p.iK,int i64 p.iO,int u64 r,.slice pu.A pu.n pu.c,.slice o.A o.n o.c]
instance{p:hx}{hX:Nat}{pu z:Sl}:hf.jP (je p hX pu z) fun o r=>(∀j,o.frozen? ⟨r,j,none⟩=false)∧hf.hh o r 0 (int u64 p.inc)∧hf.hh o r 1 (int u64 p.ix)∧hf.hh o r 2 (int u64 p.floor)∧hf.hh o r 3 (int u64 p.cap)∧hf.hh o r 4 (int u64 p.up)∧hf.hh o r 5 (int u64 p.down)∧hf.hh o r 6 (int u64 p.ih)∧hf.hh o r 7 (int u64 p.quot)∧hf.hh o r 8 (int u64 p.iR)∧hf.hh o r 9 (int u64 p.iS)∧hf.hh o r 10 (int u64 p.recover)∧hf.hh o r 11 (int u64 p.ig)∧hf.hh o r 12 (int u64 p.iT)∧hf.hh o r 13 (int u64 p.iU)∧hf.hh o r 14 (int i64 p.iV)∧hf.hh o r 15 (int i64 p.ic)∧hf.hh o r 16 (int i64 p.iE)∧hf.hh o r 17 (int i64 p.iN)∧hf.hh o r 18 (int i64 p.iI)∧hf.hh o r 19 (int i64 p.iy)∧hf.hh o r 20 (int i64 p.wait)∧hf.hh o r 21 (int i64 p.iW)∧hf.hh o r 22 (int i64 p.iK)∧hf.hh o r 23 (int i64 p.iO)∧hf.hh o r 24 (int u64 hX)∧hf.hh o r 25 (.slice pu.A pu.n pu.c)∧hf.hh o r 26 (.slice z.A z.n z.c):=⟨fun h=>⟨h.frozen,hf.jX h⟩⟩
theorem qp(p:hx)(o:Nat)(pu r:Sl):(prog.info? 28).map (·.size)=some (je p o pu r).size:=by kernel_rfl
def r8(p:hx)(n:Nat)(f:Fo):Bool:=decide (0≤f.own∧f.own≤(n:Int) -1)&&(decide (p.floor<f.hD)&&decide (f.hD≤p.cap))
def kM(p:hx)(r:Nat)(us:List Nat)(o:List Fo):Bool:=iG p&&(decide (r≤4611686018427387904)&&(decide (1≤(us.length:Int)∧(us.length:Int)≤64)&&(decide (o.length≤128)&&o.all (r8 p us.length))))
def jf(p:hx)(o r:Nat)(pu me ma:Sl):hA:=⟨p,o,r,0,0,0,0,0,false,pu,me,Sl.nil,Sl.nil,Sl.nil,Sl.nil,Sl.nil,ma,Sl.nil⟩
def jS(p:hx)(us:List Nat)(o:List Fo):hl:=⟨us,o.map (kL p),[],[],[],[],[],hq.ij,[]⟩
structure ts (L:Nat) (s:hA) (c:hl) (w:World):Prop where
 lay:Lay s c (hL (iQ L) w) w.heap.size
 ok:s.Ok
theorem zf{n':Nat}{v:Value}{xs:List Value}(h:w.ownsRow b e k v n xs)(r:w.ownsRow L t B V n' S)(z:e≠t):v.ownBlock=none∨v.ownBlock≠V.ownBlock:=by
 rcases h.2 with⟨rfl,_⟩|⟨g,cap,cur,rfl,_,A,_⟩
 ·exact .inl rfl
 rcases r.2 with⟨rfl,_⟩|⟨D,E,F,rfl,_,o,_⟩
 ·exact .inr (by intro e;cases e)
 refine .inr fun e=>?_;injection e with e;subst e;rw[A]at o;injection o with o;injection o with _ o;exact z o
theorem vq(h:Rd w B A n f)(r:∀o,A=some o→L≤o.block):Rd (hL (iQ L) w) B A n f:=Rd.hid h fun o e=>if_neg (by have:=r o e;omega)
theorem G0{p:hx}{us:List Nat}{o:List Fo}{pu me ma:Sl}(E:Wd us)(F:w.ownsRow L 22 1 pu.v us.length (us.map wv))(r:w.ownsRow L 98 6 me.v o.length (flat Mem.enc (o.map (kL p))))(G:w.ownsRow L 5 1 ma.v 16 (hq.ij.map hq.jq)):
 ts L (jf p n g pu me ma) (jS p us o) w:=by
 obtain⟨_,I,J,K⟩:=n8 F;obtain⟨_,O,Q,D⟩:=n8 r;obtain⟨_,R,S,T⟩:=n8 G;have z:=p2.2 ⟨K,E⟩;have A:=lK.2 ⟨T,hq.sV⟩;exact⟨⟨⟨z.1,z.2.1,vq z.2.2 J⟩,⟨D.1,vq D.2 Q⟩,⟨rfl,n6 rfl⟩,⟨rfl,n6 rfl⟩,⟨rfl,n6 rfl⟩,⟨rfl,n6 rfl⟩,⟨rfl,n6 rfl⟩,fun m r=>(by cases r),⟨A.1,A.2.1,vq A.2.2 S⟩,⟨rfl,fun i U=>absurd U (by show¬i<0;omega)⟩⟩,⟨I,O,Sl.Ok.nil,Sl.Ok.nil,Sl.Ok.nil,Sl.Ok.nil,Sl.Ok.nil,R,Sl.Ok.nil⟩⟩
def mG(p:hx)(r:Nat)(us:List Nat)(o:List Fo)(w:World)(e:Ending)(w':World):Prop:=∃(z:Array Value) (E:Int),e= .returned (.tuple #[.agg z,int i64 E])∧Below w.heap.size w w'∧z.size=41∧z.all (·.oneCell')=true∧
 (E=0→kM p r us o=true∧iH (us++o.map Fo.hD)≤r∧∃pu me ma,z=(jf p r (iH (us++o.map Fo.hD)) pu me ma).cs∧ts w.heap.size (jf p r (iH (us++o.map Fo.hD)) pu me ma) (jS p us o) w')∧
 (kM p r us o=true→iH (us++o.map Fo.hD)≤r→E=0)
theorem G1{p:hx}{us:List Nat}{r:List Fo}{w':World}{pu me ma:Sl}(G:Below w.heap.size w w')(z:hn b W w')(A:w.heap.size≤B)(O:b<B)(I:kM p n us r=true)(J:iH (us++r.map Fo.hD)≤n)(K:Wd us)(D:W.ownsRow B 22 1 pu.v us.length (us.map wv))(E:W.ownsRow B 98 6 me.v r.length (flat Mem.enc (r.map (kL p))))(F:W.ownsRow B 5 1 ma.v 16 (hq.ij.map hq.jq)):
 mG p n us r w (.returned (.tuple #[.agg (jf p n (iH (us++r.map Fo.hD)) pu me ma).cs,int i64 0])) w':=
 ⟨_,0,rfl,G,rfl,ln _,fun _=>⟨I,J,pu,me,ma,rfl,G0 K ((j0 D fun q o=>z.block q (D.lt q o).2 (by have:=(D.lt q o).1;omega)).mono A) ((j0 E fun q o=>z.block q (E.lt q o).2 (by have:=(E.lt q o).1;omega)).mono A) ((j0 F fun q o=>z.block q (F.lt q o).2 (by have:=(F.lt q o).1;omega)).mono A)⟩,fun _ _=>rfl⟩
theorem mG.no{p:hx}{us:List Nat}{o:List Fo}{w':World}(r:Below w.heap.size w w')(h:kM p n us o=true→iH (us++o.map Fo.hD)≤n→False):mG p n us o w (.returned (.tuple #[.agg hC.h4,int i64 240])) w':=
 ⟨_,240,rfl,r,rfl,hC.kA,fun e=>absurd e (by decide),fun a b=>(h a b).elim⟩
theorem G2(p:hx)(o:List Fo)(f:Fo):flat Mem.enc (o.map (kL p))++(kL p f).enc=flat Mem.enc ((o++[f]).map (kL p)):=by
 rw[List.map_append];unfold flat;rw[List.flatMap_append];simp
theorem G3(p:hx)(o:Nat)(pu:Sl)(aa:Option Addr)(F ab:Nat)(us:List Nat)(J:List Fo)(w:World)(al:jk w w.heap.size pu.A pu.n us)(bu:pu.A=none→pu.n=0∧pu.c=0)(a6:hV w w.heap.size aa F 2 (flat Fo.enc J))(bv:o<18446744073709551616)(cb:us.length≤100)(cc:J.length≤200)(bw:∀f∈J,f.hD<18446744073709551616∧(-9223372036854775808≤f.own∧f.own<9223372036854775808)):
 Calls prog 26 #[.agg (je p o pu ⟨aa,F,ab⟩)] w (mG p o us J w):=by
 have cd:=al.1;have ce:J.length=F:=a6.len Fo.len (by omega);have a7:Below w.heap.size w ((w.alloc (.cells (je p o pu ⟨aa,F,ab⟩) 28)).alloc (.cells hC.h4 46)):=(hz.alloc hj _).alloc (by simp) _;have a8:ha ((w.alloc (.cells (je p o pu ⟨aa,F,ab⟩) 28)).alloc (.cells hC.h4 46)) w.heap.size 28 (je p o pu ⟨aa,F,ab⟩):=(ha.new w _ _ _ rfl).alloc _;have a9:ha ((w.alloc (.cells (je p o pu ⟨aa,F,ab⟩) 28)).alloc (.cells hC.h4 46)) (w.heap.size+1) 46 hC.h4:=ha.new _ _ _ _ (by simp);have a':((w.alloc (.cells (je p o pu ⟨aa,F,ab⟩) 28)).alloc (.cells hC.h4 46)).heap.size=w.heap.size+2:=by simp
 obtain⟨O,ba⟩:∃O,(w.alloc (.cells (je p o pu ⟨aa,F,ab⟩) 28)).alloc (.cells hC.h4 46)=O:=⟨_,rfl⟩;rw[ba]at a7 a8 a9 a';have bx:Hid ((w.alloc (.cells (je p o pu ⟨aa,F,ab⟩) 28)).alloc (.cells #[int .u64 0,int .u64 0,int .u64 0,int .u64 0,int .u64 0,int .u64 0,int .u64 0,int .u64 0,int .u64 0,int .u64 0,int .u64 0,int .u64 0,int .u64 0,int .u64 0,
 int i64 0,int i64 0,int i64 0,int i64 0,int i64 0,int i64 0,int i64 0,int i64 0,int i64 0,int i64 0,
 int .u64 0,int .u64 0,int .u64 0,int .u64 0,int .u64 0,int i64 0,int i64 0,.bool false,
 .slice none 0 0,.slice none 0 0,.slice none 0 0,.slice none 0 0,.slice none 0 0,.slice none 0 0,.slice none 0 0,.slice none 0 0,.slice none 0 0] 46)=O):=g' ba
 obtain⟨da,cf,bz,cg,bA,G,R,ah,I⟩:=og (fun W (X:Below w.heap.size w W)=>show jk W W.heap.size pu.A pu.n us from⟨al.1,al.2.1,(al.2.2.below X).more X.size⟩) (fun W (X:Below w.heap.size w W)=>(a6.below X).more X.size) (fun W (X:Below w.heap.size w W)=>wS pu.A pu.n pu.c (us.map wv) W (p2.1 (⟨al.1,al.2.1,(al.2.2.below X).more X.size⟩:jk W W.heap.size pu.A pu.n us)).1 (fun u av=>by obtain⟨b,_,rfl⟩:=List.mem_map.1 av;rfl) (by omega) bu) (fun W=>k4 p W (lU p) rfl) al.2.1 (And.intro cd (And.intro ce (And.intro cb (And.intro cc (And.intro bv bw))))) a8 a9 a7;have bB:=g' a';clear ba a7 a8 a9 a' al bu a6 bv bw;go_enter func26,ntmps26;go_upto_region 1 with(fail)
 rw[bx.out];clear bx;have aS:=(R.out.to (Below.refl O.heap.size O)).cell (j:=24) (v:=int .u64 o) rfl;have aD:=(R.out.to (Below.refl O.heap.size O)).cell (j:=25) (v:= .slice pu.A pu.n pu.c) rfl;have aE:=(R.out.to (Below.refl O.heap.size O)).cell (j:=26) (v:= .slice aa F ab) rfl;go_wp2_with (first|refine wpList_load_mid rfl 24 (.tmp 10) (by rfl) w.heap.size 0 rfl p.cs.toList _ (fun j v ai=>(R.out.to (Below.refl O.heap.size O)).cell (oz (M:=je p o pu ⟨aa,F,ab⟩) 0 (by kernel_rfl) j v ai)) hQ rfl (by kernel_rfl) ?_|fail);refine(cg.out _).mono ?_;rintro e db ⟨rfl,aT⟩;clear aS aD aE;have aS:=(R.out.to aT).cell (j:=24) (v:=int .u64 o) rfl;have aD:=(R.out.to aT).cell (j:=25) (v:= .slice pu.A pu.n pu.c) rfl;have aE:=(R.out.to aT).cell (j:=26) (v:= .slice aa F ab) rfl;have ae:=g' aT;cases aF:iG p
 ·have aG:lU p=70:=by unfold lU;rw[aF];rfl
  rw[aG];have S:=ah.out.to ae.out;have D:=I.out.trans ((ae.out).mono I.out.size);go_wp2_with (first|refine wpList_build rfl 46 #[] rfl (.agg hC.h4) (fun w'=>by kernel_rfl) ?_|(refine iL rfl 46 (.tmp 2) (.tmp 32) rfl (w.heap.size+1) hC.h4 rfl rfl 46 _ S (by kernel_rfl) rfl hC.kA ?_;intro aq U V));exact bodyPost_ret (v:= .tuple #[.agg hC.h4,int i64 240]) (jy results26 _ _ _ _ _ _ _ rfl rfl U iX rfl (by kernel_rfl)) rfl (mG.no (iC D V (by omega) D.size) (fun h _=>by unfold kM at h;rw[aF]at h;cases h))
 have aG:lU p=0:=by unfold lU;rw[aF];rfl
 rw[aG];by_cases Q:4611686018427387904<o
 ·have bC:decide (4611686018427387904<o)=true:=by simpa using Q
  have bD:decide ((4611686018427387904:Int)<(o:Int))=true:=by simp;omega
  clear aG;have S:=ah.out.to ae.out;have D:=I.out.trans ((ae.out).mono I.out.size);go_wp2_with (first|refine wpList_build rfl 46 #[] rfl (.agg hC.h4) (fun w'=>by kernel_rfl) ?_|(refine iL rfl 46 (.tmp 2) (.tmp 32) rfl (w.heap.size+1) hC.h4 rfl rfl 46 _ S (by kernel_rfl) rfl hC.kA ?_;intro aq U V));exact bodyPost_ret (v:= .tuple #[.agg hC.h4,int i64 240]) (jy results26 _ _ _ _ _ _ _ rfl rfl U iX rfl (by kernel_rfl)) rfl (mG.no (iC D V (by omega) D.size) (fun h _=>by unfold kM at h;simp only[Bool.and_eq_true,decide_eq_true_eq]at h;omega))
 have bC:decide (4611686018427387904<o)=false:=by simpa using Q
 have bD:decide ((4611686018427387904:Int)<(o:Int))=false:=by simp;omega
 obtain⟨bE,aw⟩:∃b,b=decide (1≤(pu.n:Int)∧(pu.n:Int)≤64):=⟨_,rfl⟩;obtain⟨ch,bF⟩:=hg (fun W=>pj (pu.n:Int) 1 64 bE aw W) aw;clear aw aG;go_wp2_with fail;refine(ch.out _).mono ?_;rintro e dc ⟨rfl,rfl⟩;cases bE
 ·have S:=ah.out.to ae.out
  have D:=I.out.trans ((ae.out).mono I.out.size);go_wp2_with (first|refine wpList_build rfl 46 #[] rfl (.agg hC.h4) (fun w'=>by kernel_rfl) ?_|(refine iL rfl 46 (.tmp 2) (.tmp 32) rfl (w.heap.size+1) hC.h4 rfl rfl 46 _ S (by kernel_rfl) rfl hC.kA ?_;intro aq U V));exact bodyPost_ret (v:= .tuple #[.agg hC.h4,int i64 240]) (jy results26 _ _ _ _ _ _ _ rfl rfl U iX rfl (by kernel_rfl)) rfl (mG.no (iC D V (by omega) D.size) (fun h _=>by unfold kM at h;simp only[Bool.and_eq_true,decide_eq_true_eq]at h;have bG:=G.out.1;have aw:=bF.out;simp at aw;omega))
 by_cases am:128<F
 ·have bH:decide (128<F)=true:=by simpa using am
  have bI:decide ((128:Int)<(F:Int))=true:=by simp;omega
  have S:=ah.out.to ae.out;have D:=I.out.trans ((ae.out).mono I.out.size);go_wp2_with (first|refine wpList_build rfl 46 #[] rfl (.agg hC.h4) (fun w'=>by kernel_rfl) ?_|(refine iL rfl 46 (.tmp 2) (.tmp 32) rfl (w.heap.size+1) hC.h4 rfl rfl 46 _ S (by kernel_rfl) rfl hC.kA ?_;intro aq U V));exact bodyPost_ret (v:= .tuple #[.agg hC.h4,int i64 240]) (jy results26 _ _ _ _ _ _ _ rfl rfl U iX rfl (by kernel_rfl)) rfl (mG.no (iC D V (by omega) D.size) (fun h _=>by unfold kM at h;simp only[Bool.and_eq_true,decide_eq_true_eq]at h;have bG:=G.out.2.1;omega))
 have bH:decide (128<F)=false:=by simpa using am
 have bI:decide ((128:Int)<(F:Int))=false:=by simp;omega
 have aH:=g' (show iG p=true∧o≤4611686018427387904∧(1≤(us.length:Int)∧(us.length:Int)≤64)∧J.length≤128 by have aw:=bF.out;have aI:=G.out.1;have bG:=G.out.2.1;simp at aw;exact⟨aF,by omega,by omega,by omega⟩);clear Q am aF;obtain⟨ci,cj,ck,S,D⟩:=info_parts wR;obtain⟨cl,cm,cn,co,cp⟩:=info_parts yU;have bJ:=I.out.trans (ae.out.mono I.out.size);go_wp2_with fail;refine(bz.out _ bJ).mono ?_;rintro e dd ⟨v,rfl,aB,bK⟩;clear aS aD aE bC bD bH bI;have bL:=aB.mono ae.out.size;obtain⟨bM,cq,cr⟩:=hs (ae.out.trans (bK.mono ae.out.size)) bL (fun f (an:f∈J) W=>Gl p aH.out.1 f (G.out.2.2.2.2.2 f an).1 W);have aE:=(R.out.to bM.out).cell (j:=26) (v:= .slice aa F ab) rfl;clear aB bL bK bJ;go_wp2;go_loopw [4,5,39] (fun ct cu bb wr=>∃k:Nat,bb=int i64 k∧k≤F∧wr.ownsRow O.heap.size 22 1 ct (pu.n+k) ((us++(J.take k).map Fo.hD).map wv)∧wr.ownsRow O.heap.size 98 6 cu k (flat Mem.enc ((J.take k).map (kL p)))∧Below O.heap.size O wr∧∀(j:Nat) (f:Fo),j<k→J[j]?=some f→r8 p us.length f=true) (fun _ _ bb _=>F-(intOf bb).toNat)
 case atStart=>exact⟨0,rfl,h6,by simpa using cq.out,World.ownsRow_nil _ _ _ _,bM.out,fun j f aC=>absurd aC (by omega)⟩
 case round=>
  obtain⟨k,rfl,de,aj,ak,ax,aU⟩:=hrel;clear aE;by_cases aV:k<F
  ·have cv:decide (k<F)=true:=by simpa using aV
   have df:i64.wrap ((k:Int)+1)=((k+1:Nat):Int):=by have:=G.out.2.1;have:=G.out.2.2.2.1;rw[IntKind.wrap_i64];omega
   obtain⟨f,aJ⟩:∃f,J[k]?=some f:=⟨_,iB (by rw[G.out.2.1];exact aV)⟩;have cw:=G.out.2.2.2.2.2 f (List.mem_of_getElem? aJ);have cx:=g' (List.mem_of_getElem? aJ);obtain⟨T,z⟩:=f;simp only at cw;obtain⟨aW,cy,_,bc⟩:=(cf.out wr (I.out.trans (ax.mono I.out.size))).cell Fo.len aV aJ (by omega);subst cy;have cz:wr.cell? (aW.add (k*2))=some (int i64 T):=by have:=bc 0 _ rfl;rwa[hG.add_zero]at this
   have cA:wr.cell? ⟨(aW.add (k*2)).block,(aW.add (k*2)).off+1,none⟩=some (int .u64 z):=bc 1 _ rfl;have bd:Below O.heap.size O (wr.alloc (.cells #[int i64 T,int .u64 z] 87)):=ax.alloc ax.size _;have be:ha (wr.alloc (.cells #[int i64 T,int .u64 z] 87)) wr.heap.size 87 #[int i64 T,int .u64 z]:=ha.new wr wr.heap.size _ _ rfl;have bf:Below wr.heap.size wr (wr.alloc (.cells #[int i64 T,int .u64 z] 87)):=hz.alloc hj _;have aj:=j0 aj (w':=wr.alloc (.cells #[int i64 T,int .u64 z] 87)) fun q Y=>bf.block q (aj.lt q Y).2;have ak:=j0 ak (w':=wr.alloc (.cells #[int i64 T,int .u64 z] 87)) fun q Y=>bf.block q (ak.lt q Y).2;obtain⟨ar,bg⟩:∃ar,wr.alloc (.cells #[int i64 T,int .u64 z] 87)=ar:=⟨_,rfl⟩;rw[bg]at bd be aj ak;obtain⟨cB,af,bh,bN,aK,cC,aL⟩:=k2 bg bd be aj ak aU aJ;have bO:=ax.size;have dg:=g' bO;clear bd bf be aj ak bg aU aJ ax bc bO;go_upto_region 8 with(fail)
   rw[cB.out];clear cz cA;have aD:=(R.out.to af.out).cell (j:=25) (v:= .slice pu.A pu.n pu.c) rfl;have dh:=(R.out.to af.out).cell (j:=2) (v:=int .u64 p.floor) rfl;have di:=(R.out.to af.out).cell (j:=3) (v:=int .u64 p.cap) rfl;have dj:=bh.out.cell (j:=0) (v:=int i64 T) rfl;have dk:=bh.out.cell (j:=1) (v:=int .u64 z) rfl;have dl:i64.wrap ((pu.n:Int) -1)=(pu.n:Int) -1:=IntWalk.i64_in _ (by have:=G.out.1;have:=G.out.2.2.1;omega);obtain⟨bi,bj⟩:∃b,b=decide (0≤T∧T≤(pu.n:Int) -1):=⟨_,rfl⟩;obtain⟨cD,cE⟩:=hg (fun W=>pj T 0 ((pu.n:Int) -1) bi bj W) bj;clear bj;have aX:=g' (show r8 p us.length ⟨T,z⟩=(bi&&(decide (p.floor<z)&&decide (z≤p.cap))) by unfold r8;rw[cE.out,G.out.1]);go_wp2_with fail;refine(cD.out _).mono ?_;rintro e dm ⟨rfl,rfl⟩;cases bi
   ·have S:=ah.out.to af.out
    have D:=I.out.trans ((af.out).mono I.out.size);go_wp2_with (first|refine wpList_build rfl 46 #[] rfl (.agg hC.h4) (fun w'=>by kernel_rfl) ?_|(refine iL rfl 46 (.tmp 2) (.tmp 67) rfl (w.heap.size+1) hC.h4 rfl rfl 46 _ S (by kernel_rfl) rfl hC.kA ?_;intro aq U V));exact bodyPost_ret (v:= .tuple #[.agg hC.h4,int i64 240]) (jy results26 _ _ _ _ _ _ _ rfl rfl U iX rfl (by kernel_rfl)) rfl (mG.no (iC D V (by omega) D.size) (fun h _=>by have Q:=aX.out;unfold kM at h;simp only[Bool.and_eq_true,decide_eq_true_eq]at h;have ac:=List.all_eq_true.1 h.2.2.2.2 _ (List.mem_of_getElem? aL.out);rw[Q]at ac;cases ac))
   by_cases bP:z≤p.floor
   ·have cF:decide (z≤p.floor)=true:=by simpa using bP
    have cG:decide ((z:Int)≤(p.floor:Int))=true:=by simp;omega
    have S:=ah.out.to af.out;have D:=I.out.trans ((af.out).mono I.out.size);go_wp2_with (first|refine wpList_build rfl 46 #[] rfl (.agg hC.h4) (fun w'=>by kernel_rfl) ?_|(refine iL rfl 46 (.tmp 2) (.tmp 67) rfl (w.heap.size+1) hC.h4 rfl rfl 46 _ S (by kernel_rfl) rfl hC.kA ?_;intro aq U V));exact bodyPost_ret (v:= .tuple #[.agg hC.h4,int i64 240]) (jy results26 _ _ _ _ _ _ _ rfl rfl U iX rfl (by kernel_rfl)) rfl (mG.no (iC D V (by omega) D.size) (fun h _=>by have Q:=aX.out;unfold kM at h;simp only[Bool.and_eq_true,decide_eq_true_eq]at h;have ac:=List.all_eq_true.1 h.2.2.2.2 _ (List.mem_of_getElem? aL.out);rw[Q]at ac;simp at ac;omega))
   have cF:decide (z≤p.floor)=false:=by simpa using bP
   have cG:decide ((z:Int)≤(p.floor:Int))=false:=by simp;omega
   by_cases bQ:p.cap<z
   ·have cH:decide (p.cap<z)=true:=by simpa using bQ
    have cI:decide ((p.cap:Int)<(z:Int))=true:=by simp;omega
    have S:=ah.out.to af.out;have D:=I.out.trans ((af.out).mono I.out.size);go_wp2_with (first|refine wpList_build rfl 46 #[] rfl (.agg hC.h4) (fun w'=>by kernel_rfl) ?_|(refine iL rfl 46 (.tmp 2) (.tmp 67) rfl (w.heap.size+1) hC.h4 rfl rfl 46 _ S (by kernel_rfl) rfl hC.kA ?_;intro aq U V));exact bodyPost_ret (v:= .tuple #[.agg hC.h4,int i64 240]) (jy results26 _ _ _ _ _ _ _ rfl rfl U iX rfl (by kernel_rfl)) rfl (mG.no (iC D V (by omega) D.size) (fun h _=>by have Q:=aX.out;unfold kM at h;simp only[Bool.and_eq_true,decide_eq_true_eq]at h;have ac:=List.all_eq_true.1 h.2.2.2.2 _ (List.mem_of_getElem? aL.out);rw[Q]at ac;simp at ac;omega))
   have cH:decide (p.cap<z)=false:=by simpa using bQ
   have cI:decide ((p.cap:Int)<(z:Int))=false:=by simp;omega
   have cJ:=g' (show r8 p us.length ⟨T,z⟩=true by rw[aX.out];simp;omega);obtain⟨E,bk⟩:∃E,E=kL p ⟨T,z⟩:=⟨_,rfl⟩;obtain⟨cK,cL⟩:=hg (show∀W,Calls prog 49 #[.agg p.cs,.agg (Fo.cs ⟨T,z⟩)] W (fun e w'=>e= .returned (.agg #[int .u64 E.hD,int .u64 E.hP,int .u64 E.h9,int i64 E.str,int i64 E.own,int i64 E.h3])∧Below W.heap.size W w') by rw[bk];exact fun W=>cr.out ⟨T,z⟩ cx.out W) bk;clear bk;have aY:=g' ((Below.refl ar.heap.size ar).alloc hj (.cells #[int .u64 z] 22));obtain⟨aZ,bR,aM⟩:=hs (j0 bN.out (w':=ar.alloc (.cells #[int .u64 z] 22)) fun q Y=>aY.out.block q (bN.out.lt q Y).2) (j0 aK.out (w':=ar.alloc (.cells #[int .u64 z] 22)) fun q Y=>aY.out.block q (aK.out.lt q Y).2) (show pu.n+k≤300∧O.heap.size≤ar.heap.size by have Q:=G.out.1;have ac:=G.out.2.2.1;have am:=G.out.2.1;have cM:=G.out.2.2.2.1;have cN:=af.out.size;exact⟨by omega,cN⟩);go_wp2_with (first|(at_builtin;refine wpList_append_lies _ rfl (.tmp 68) (.tmp 71) 25 rfl O.heap.size 22 ci _ 1 8 kO cj ck S D rfl (by decide) _ _ _ rfl aZ.out ⟨ar.heap.size,0,none⟩ 1 1 [int .u64 z] rfl rfl (kp _ _ _ _ (by simp)) (by intro v ai;simp at ai;subst ai;rfl) (by omega) (by have:=aM.out;unfold maxLen;omega) (by have:=aM.out;omega) (by have:=aM.out;simp;omega) _ rfl ?_;intro dn dp dq bS a0 _ _;have bT:=bR.out.kept a0 (zf bR.out aZ.out (by decide));have bU:=qj (af.out.trans (aY.out.mono af.out.size)) a0 aZ.out hj;have bV:=vh a0 aZ.out (bh.out.to aY.out) (by decide);have bW:=g' bS;have bX:=g' bT;have a1:=g' bU;have cO:=g' bV;clear bS a0 bT bU bV)|(refine wpList_load_mid rfl 24 (.tmp 74) (by rfl) w.heap.size 0 rfl p.cs.toList _ (fun j v ai=>(R.out.to a1.out).cell (oz (M:=je p o pu ⟨some aW,F,ab⟩) 0 (by kernel_rfl) j v ai)) hQ rfl (by kernel_rfl) ?_)|(refine pK rfl 87 (.tmp 7) rfl wr.heap.size rfl 87 (Fo.cs ⟨T,z⟩) _ cO.out tt rfl (Gj _) ?_));refine(cK.out _).mono ?_;rintro e ay ⟨rfl,a2⟩;have bY:Below ay.heap.size ay (ay.alloc (.cells #[int .u64 E.hD,int .u64 E.hP,int .u64 E.h9,int i64 E.str,int i64 E.own,int i64 E.h3] 98)):=hz.alloc hj _;have a3:=a2.trans (bY.mono a2.size);obtain⟨bZ,bl,cP,cQ⟩:=h5 (j0 bW.out (w':=ay.alloc (.cells #[int .u64 E.hD,int .u64 E.hP,int .u64 E.h9,int i64 E.str,int i64 E.own,int i64 E.h3] 98)) fun q Y=>a3.block q (bW.out.lt q Y).2) (j0 bX.out (w':=ay.alloc (.cells #[int .u64 E.hD,int .u64 E.hP,int .u64 E.h9,int i64 E.str,int i64 E.own,int i64 E.h3] 98)) fun q Y=>a3.block q (bX.out.lt q Y).2) (a1.out.trans (a3.mono a1.out.size)) (show O.heap.size≤ay.heap.size from Nat.le_trans a1.out.size a2.size);clear a2 bY a3;go_wp2_with (at_builtin;refine wpList_append_lies _ rfl (.tmp 73) (.tmp 78) 39 rfl O.heap.size 98 cl _ 6 48 rC cm cn co cp rfl (by decide) _ _ _ rfl bl.out ⟨ay.heap.size,0,none⟩ 1 1 E.enc rfl rfl (kp _ _ _ _ rfl) (fun v ai=>List.all_eq_true.1 (show E.enc.all (·.oneCell')=true from by kernel_rfl) v ai) (by omega) (by have:=aM.out;unfold maxLen;omega) (by have:=aM.out;omega) (by have:=cQ.out;simp;omega) _ rfl ?_;intro dr dt du b0 bm _ _;have cR:=g' (bZ.out.kept bm (zf bZ.out bl.out (by decide)));have cS:=g' (qj cP.out bm bl.out hj);have cT:=g' b0;clear b0 bm);have aN:J.take (k+1)=J.take k++[⟨T,z⟩]:=by rw[List.take_add_one,aL.out];rfl
   refine⟨⟨k+1,by go_num,by omega,?_,?_,cS.out,fun j f aC an=>?_⟩,by simp[intOf];omega⟩
   ·have Q:=cR.out
    have az:(us++(J.take (k+1)).map Fo.hD).map wv=(us++(J.take k).map Fo.hD).map wv++[int .u64 z]:=by rw[aN];simp[wv]
    rw[az];exact Q
   ·have Q:=cT.out
    rw[cL.out,G2,←aN]at Q;exact Q
   by_cases cU:j=k
   ·subst cU;rw[aL.out]at an;cases an;exact cJ.out
   exact cC.out j f (by omega) an
  have cv:decide (k<F)=false:=by simpa using aV
  obtain rfl:k=F:=by omega
  have aN:J.take k=J:=List.take_of_length_le (by rw[G.out.2.1];exact hj);rw[aN]at aj ak;obtain⟨bn,rfl,cV,-⟩:=jZ aj;obtain⟨me,rfl,b1,-⟩:=jZ ak;have b2:=(n8 aj).2.2.2;have b3:Wd (us++J.map Fo.hD):=fun u av=>by
   rcases List.mem_append.1 av with av|av
   ·exact bA.out u av
   obtain⟨f,an,rfl⟩:=List.mem_map.1 av;exact(G.out.2.2.2.2.2 f an).1
  obtain⟨x,az⟩:∃x,x=iH (us++J.map Fo.hD):=⟨_,rfl⟩;obtain⟨r,bo⟩:∃r,lS (us++J.map Fo.hD) r:=oy _;have cW:=g' (qx bn.A bn.n bn.c wr.heap.size (us++J.map Fo.hD) wr (p2.2 ⟨b2,b3⟩) (by have Q:=G.out.1;have ac:=G.out.2.2.1;have am:=G.out.2.1;have cM:=G.out.2.2.2.1;omega) r bo);have b4:=mw bo;obtain⟨cX,aK,Z,dv,bp⟩:=jg (show kM p o us J=true by unfold kM;simp only[Bool.and_eq_true,decide_eq_true_eq];exact⟨aH.out.1,aH.out.2.1,aH.out.2.2.1,aH.out.2.2.2,List.all_eq_true.2 fun f an=>by obtain⟨j,aC,e⟩:=List.getElem_of_mem an;exact aU j f (by rw[G.out.2.1]at aC;exact aC) (by rw[List.getElem?_eq_getElem aC,e])⟩) ak ax b1 az;obtain⟨ad,dw⟩:=r;simp only at b4;clear aj ak b2 b3 bo aN aU ax cV b1;simp only[Sl.v];have aS:=(R.out.to Z.out).cell (j:=24) (v:=int .u64 o) rfl;have aD:=(R.out.to Z.out).cell (j:=25) (v:= .slice pu.A pu.n pu.c) rfl;go_wp2_with fail;refine cW.out.mono ?_;rintro e dx ⟨rfl,rfl⟩;rcases b4 with⟨ac,Q,am⟩|⟨ac,Q,am⟩
  ·subst ac
   rw[←az]at Q;subst Q;by_cases aI:o<ad
   ·have cY:decide (o<ad)=true:=by simpa using aI
    have cZ:decide ((o:Int)<(ad:Int))=true:=by simp;omega
    clear am az;have S:=ah.out.to Z.out;have D:=I.out.trans ((Z.out).mono I.out.size);go_wp2_with (first|refine wpList_build rfl 46 #[] rfl (.agg hC.h4) (fun w'=>by kernel_rfl) ?_|(refine iL rfl 46 (.tmp 2) (.tmp 94) rfl (w.heap.size+1) hC.h4 rfl rfl 46 _ S (by kernel_rfl) rfl hC.kA ?_;intro aq U V));exact bodyPost_ret (v:= .tuple #[.agg hC.h4,int i64 240]) (jy results26 _ _ _ _ _ _ _ rfl rfl U iX rfl (by kernel_rfl)) rfl (mG.no (iC D V (by omega) D.size) (fun _ h=>by have:=bp.out;omega))
   have cY:decide (o<ad)=false:=by simpa using aI
   have cZ:decide ((o:Int)<(ad:Int))=false:=by simp;omega
   have c0:=g' aI;clear am az aI;have b5:=I.out.trans (Z.out.mono I.out.size);have aO:=g' b5;clear b5;go_wp2;refine gZ.rg (fun w'=>True) (fun w'=>Below wr.heap.size wr w') 11 13 (by kernel_rfl) (fun _ _ d _ _ h=>by cases d<;>exact h) trivial hM fun bq ag=>?_;refine gZ.tq bq 5 (gZ.sq 0 7 true (gZ.sq 8 1 true [])) (by kernel_rfl) ag ?_;iterate 8((first|(refine gZ.jK (.agg p.cs) rfl (yieldsIf_load_mid (by rfl) 24 (.tmp 95) rfl w.heap.size (0) rfl p.cs.toList _ (fun w' aP=>by have⟨hS,aA⟩:=gZ.mU aP;exact fun j v ai=>((R.out.to Z.out).to aA).cell (oz (M:=je p o pu ⟨aa,k,ab⟩) 0 (by kernel_rfl) j v ai)) hQ rfl (by kernel_rfl)) ?_)|(refine gZ.t1 rfl (by rfl) (fun w' aP=>by try simp only[S3];first|(have⟨hS,aA⟩:=aP;have c1:=((R.out.to Z.out).to aA).cell (j:=24) (v:=int .u64 o) rfl;have c2:=((R.out.to Z.out).to aA).cell (j:=25) (v:= .slice pu.A pu.n pu.c) rfl;go_simp;try with_reducible rfl)|(go_simp;try with_reducible rfl)) ?_));try simp only[S4,S3])
   refine gZ.hH (fun ag=>?_);refine gZ.hY 7 (n:=4) rfl rfl (by kernel_rfl) (fun K au=>?_);(try simp only[S3])
   go_simp;have aQ:=ag.2 (by kernel_rfl);refine(bz.out _ (aO.out.trans (aQ.mono aO.out.size))).mono ?_;rintro e ao ⟨v,rfl,aB,X⟩;obtain⟨ap,rfl,c3,-⟩:=jZ aB;obtain⟨b6,a4⟩:=hg (aB.mono (Nat.le_trans Z.out.size aQ.size)) (aQ.trans (X.mono aQ.size));clear aQ aB X c3;simp only[Sl.v];refine au.out _ _ trivial a4.out (fun ag=>?_);clear au K;(try simp only[S4,S3])
   refine gZ.hY 9 (n:=3) rfl rfl (by kernel_rfl) (fun K au=>?_);(try simp only[S3])
   go_simp;refine(hq.xS _).mono ?_;rintro e b7 ⟨rfl,b8,X⟩;obtain⟨c4,c5,aR⟩:=hs (b8.mono (Nat.le_trans Z.out.size a4.out.size)) (j0 b6.out fun q Y=>X.block q (b6.out.lt q Y).2) (a4.out.trans (X.mono a4.out.size));clear b8 X;refine au.out _ _ trivial aR.out (fun ag=>?_);clear au K;(try simp only[S4,S3])
   refine gZ.tq bq 2 [(10,true)] (by kernel_rfl) ag ?_;refine gZ.jK (.agg (jf p o ad ap me ⟨some ⟨ao.heap.size,0,none⟩,16,16⟩).cs) rfl (Or.inl ⟨by rfl,fun w' _=>by kernel_rfl⟩) ?_;(try simp only[S4,S3])
   refine gZ.hH (fun ag=>?_);refine gZ.jc 11 (n:=1) rfl rfl (by kernel_rfl) (by kernel_rfl) (fun K au=>?_);(try simp only[S3])
   have br:=(ah.out.to Z.out).to aR.out;rw[if_pos (by rfl)];refine wp_store_mid 46 (.tmp 2) (.tmp 105) rfl (w.heap.size+1) 0 (jf p o ad ap me ⟨some ⟨ao.heap.size,0,none⟩,16,16⟩).cs rfl rfl (br.there 0 41 (by decide)) (j4 _) (ln _) ?_;have a5:=ha.setCells (jf p o ad ap me ⟨some ⟨ao.heap.size,0,none⟩,16,16⟩).cs.toList 0 _ _ br;rw[show hf.splice hC.h4 0 (jf p o ad ap me ⟨some ⟨ao.heap.size,0,none⟩,16,16⟩).cs.toList=(jf p o ad ap me ⟨some ⟨ao.heap.size,0,none⟩,16,16⟩).cs by kernel_rfl]at a5;have bt:=hn.setCells (g:=w.heap.size+1) (jf p o ad ap me ⟨some ⟨ao.heap.size,0,none⟩,16,16⟩).cs.toList 0 _ (hn.refl (w.heap.size+1) b7);obtain⟨u1,b9⟩:∃u1,b7.setCells (w.heap.size+1) 0 (jf p o ad ap me ⟨some ⟨ao.heap.size,0,none⟩,16,16⟩).cs.toList=u1:=⟨_,rfl⟩;rw[b9]at a5 bt⊢;obtain⟨c6,b'⟩:=hg a5 bt;clear a5 bt b9 br;refine au.out _ _ trivial (fun ag=>?_);clear au K;refine gZ.tq bq 0 [(12,false)] (by kernel_rfl) ag ?_;iterate 1(refine gZ.t1 rfl (by rfl) (fun w' aP=>by try simp only[S3];first|(have⟨hS,aA⟩:=aP;have c1:=((R.out.to Z.out).to aA).cell (j:=24) (v:=int .u64 o) rfl;have c2:=((R.out.to Z.out).to aA).cell (j:=25) (v:= .slice pu.A pu.n pu.c) rfl;go_simp;try with_reducible rfl)|(go_simp;try with_reducible rfl)) ?_;try simp only[S4,S3])
   refine gZ.hH (fun ag=>?_);clear ag;refine gZ.ia (by kernel_rfl) ?_;go_wp2;have c7:=iC (aO.out.trans (aR.out.mono aO.out.size)) b'.out (by omega) (Nat.le_trans aO.out.size aR.out.size);have c8:=G.out.1;have c9:=G.out.2.1;have ca:=G1 (pu:=ap) (me:=me) (ma:=⟨some ⟨ao.heap.size,0,none⟩,16,16⟩) c7 b'.out (B:=O.heap.size) (by have:=bB.out;omega) (by have:=bB.out;omega) cX.out (by have:=bp.out;have:=c0.out;omega) bA.out (by rw[c8];exact c5.out) (by rw[c9];exact j0 aK.out fun q Y=>aR.out.block q (aK.out.lt q Y).2) c4.out;rw[←bp.out]at ca;exact bodyPost_ret (v:= .tuple #[.agg (jf p o ad ap me ⟨some ⟨ao.heap.size,0,none⟩,16,16⟩).cs,int i64 0]) (jy results26 _ _ _ _ _ _ _ rfl rfl c6.out iX rfl (j4 _)) rfl ca
  subst ac;subst Q;have dy:((10:Int) !=0)=true:=by decide
  clear az;have S:=ah.out.to Z.out;have D:=I.out.trans ((Z.out).mono I.out.size);go_wp2_with (first|refine wpList_build rfl 46 #[] rfl (.agg hC.h4) (fun w'=>by kernel_rfl) ?_|(refine iL rfl 46 (.tmp 2) (.tmp 94) rfl (w.heap.size+1) hC.h4 rfl rfl 46 _ S (by kernel_rfl) rfl hC.kA ?_;intro aq U V));exact bodyPost_ret (v:= .tuple #[.agg hC.h4,int i64 240]) (jy results26 _ _ _ _ _ _ _ rfl rfl U iX rfl (by kernel_rfl)) rfl (mG.no (iC D V (by omega) D.size) (fun _ h=>by have:=G.out.2.2.2.2.1;omega))
end hB
end Go.Proofs.YtffbipddbnkdjaaGreat
