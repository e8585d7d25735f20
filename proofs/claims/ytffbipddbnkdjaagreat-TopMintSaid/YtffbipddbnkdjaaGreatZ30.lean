/- What functions compute at any arguments, and plain facts: A state behind a tick: state.Tick; A founder as a member: state.founded; A state that deeds are done to, in memory: its box, its lists; what deeds keep of it and others. Conditions: those that each theorem names. -/
import Derived.Test.YtffbipddbnkdjaaGreatZ29
set_option maxRecDepth 100000
set_option maxHeartbeats 40000000
set_option linter.all false
open Go Go.Proofs.Tryz
open Go.Value(int)
open Go.IntKind(i64 u64)
variable{A T:Option Addr}{n g b L k B i x a m j q c p s r d h u N y:Nat}{E z:Int}{P:Program}{w W X Z:World}{e t:TypeId}{f:Nat→Value}{l:List Bool}{V U:Value}{Y:List Nat}{S:List Value}{R:List Int}{Q:Array Value}{O:List (List Nat)}{M:Bool}{K:Ending}{J:Addr}{I:Nat→Nat}{H:Option Nat}
namespace Go.Proofs.YtffbipddbnkdjaaGreat
namespace hB
open RowKit
open hG hf hC h0 hU
def kJ.cs(p:kJ):Array Value:= #[int i64 p.ep,int i64 p.mode,.bool p.q,int u64 p.lu,int u64 p.act,int u64 p.hO,int u64 p.jB,int u64 p.kept,int u64 p.h7,int u64 p.j5,p.ou.v,p.le.v,p.st.v,p.dn.v]
instance{p:kJ}:hf.jP p.cs fun o r=>(∀j,o.frozen? ⟨r,j,none⟩=false)∧hf.hh o r 0 (int i64 p.ep)∧hf.hh o r 1 (int i64 p.mode)∧hf.hh o r 2 (.bool p.q)∧hf.hh o r 3 (int u64 p.lu)∧hf.hh o r 4 (int u64 p.act)∧hf.hh o r 5 (int u64 p.hO)∧hf.hh o r 6 (int u64 p.jB)∧hf.hh o r 7 (int u64 p.kept)∧hf.hh o r 8 (int u64 p.h7)∧hf.hh o r 9 (int u64 p.j5)∧hf.hh o r 10 (.slice p.ou.A p.ou.n p.ou.c)∧hf.hh o r 11 (.slice p.le.A p.le.n p.le.c)∧hf.hh o r 12 (.slice p.st.A p.st.n p.st.c)∧hf.hh o r 13 (.slice p.dn.A p.dn.n p.dn.c):=⟨fun h=>⟨h.frozen,hf.jX h⟩⟩
def jR:kJ:=qo 0
theorem lP(p:kJ):(prog.info? 49).map (·.size)=some p.cs.size:=by kernel_rfl
theorem nk(p:kJ):p.cs.all (·.oneCell')=true:=by kernel_rfl
structure kk (p:kJ) (r:Rc) (w:World) (L:Nat):Prop where
 ou:jr w L p.ou.A p.ou.n r.os
 le:jr w L p.le.A p.le.n r.ls
 st:jr w L p.st.A p.st.n r.ss
 dn:jr w L p.dn.A p.dn.n r.dn
 oo:p.ou.Ok
 lo:p.le.Ok
 so:p.st.Ok
 q0:p.dn.Ok
theorem kk.below{p:kJ}{r:Rc}{w':World}(h:kk p r w L)(o:Below L w w'):kk p r w' L:=⟨h.ou.below o,h.le.below o,h.st.below o,h.dn.below o,h.oo,h.lo,h.so,h.q0⟩
theorem kk.more{p:kJ}{r:Rc}(h:kk p r w L)(o:L≤n):kk p r w n:=⟨h.ou.more o,h.le.more o,h.st.more o,h.dn.more o,h.oo,h.lo,h.so,h.q0⟩
theorem mF{κ:hr}{w':World}(o:hn g w w')(A:κ g≠0):Below w.heap.size (hL κ w) (hL κ w'):=
 ⟨o.os,o.tape,o.output,by rw[s8,s8];exact o.size,fun k z=>by
  by_cases r:κ k=0
  ·rw[qN r,qN r,o.block k z fun e=>A (e▸r)]
  rw[rP r,rP r,Array.getElem?_eq_getElem z,Array.getElem?_eq_getElem (Nat.lt_of_lt_of_le z o.size)];rfl⟩
theorem oY{κ:hr}{w':World}(o:Below w.heap.size w w'):Below w.heap.size (hL κ w) (hL κ w'):=(ht.of o).hL
theorem vl(h:L≤n)(o:k<L):iQ n k=10:=if_pos (by omega)
theorem nn(o:k<L):iQ L k≠0:=by unfold iQ;rw[if_pos o];decide
theorem jr.low{κ:hr}(o:∀k,k<L→κ k=10)(h:jr (hL κ w) B A n R):jr (hL (iQ L) w) B A n R:=⟨h.1,Rd.low o h.2⟩
theorem Lay.low{κ:hr}{s:hA}{c:hl}(o:∀k,k<L→κ k=10)(h:Lay s c (hL κ w) B):Lay s c (hL (iQ L) w) B:=
 have k:kt s c (hL (iQ L) w) B:=kt.low o ⟨h.pu,h.po,h.du,h.mo,h.mv,h.ma,h.ri⟩
 ⟨k.pu,⟨h.me.1,Rd.low o h.me.2⟩,h.en.low o,h.ex.low o,k.po,k.du,k.mo,k.mv,k.ma,k.ri⟩
theorem kk.low{κ:hr}{p:kJ}{r:Rc}(o:∀k,k<L→κ k=10)(h:kk p r (hL κ w) B):kk p r (hL (iQ L) w) B:=⟨h.ou.low o,h.le.low o,h.st.low o,h.dn.low o,h.oo,h.lo,h.so,h.q0⟩
theorem r7.lay{s:hA}{c:hl}{κ:hr}{t:Tk}{d:hl}{r:Rc}(h:r7 g L w s c κ t d r W):Lay t.s d (hL (iQ L) W) W.heap.size∧t.s.Ok∧kk t.r r (hL (iQ L) W) W.heap.size:=by
 have k:=h.at_.row;have n:=k.n.low h.low;exact⟨⟨n.pu,k.me.low h.low (by decide),kD.2 (k.en.low h.low (by decide)),kD.2 (k.ex.low h.low (by decide)),n.po,n.du,n.mo,n.mv,n.ma,n.ri⟩,k.ok,
  ⟨kD.2 (k.ou.low h.low (by decide)),k.le.low h.low,kD.2 (k.st.low h.low (by decide)),kD.2 (k.dn.low h.low (by decide)),k.ou.ok,k.hle,k.st.ok,k.dn.ok⟩⟩
structure Gg (s:hA) (c:hl) (w:World) (v1 v2:Value) (w':World) (s':hA) (c':hl) (p:kJ) (r:Rc):Prop where
 v1:v1= .agg s'.cs
 v2:v2= .agg p.cs
 lay:Lay s' c' (hL (iQ w.heap.size) w') w'.heap.size
 ok:s'.Ok
 iq:jE s' c'
 nj:nJ s' c'
 rep:kk p r (hL (iQ w.heap.size) w') w'.heap.size
 law:qZ s c s' c' p r
theorem jO.Gh{κ:hr}{s:hA}{c:hl}(h:jO L κ s c w)(o:Below w.heap.size w W)(r:ha W w.heap.size 138 (kn s).cs)(_:n≤w.heap.size):hK (iz κ w.heap.size 1) w.heap.size (kn s) c l5 W∧∀k,k<L→iz κ w.heap.size 1 k=10:=hK.start h o hj r
def q2(s:hA)(c:hl)(w:World)(e:Ending)(w':World):Prop:=∃(o z:Value) (E:Int),e= .returned (.tuple #[o,z,int i64 E])∧Below w.heap.size w w'∧(∃A D:Array Value,o= .agg A∧z= .agg D∧A.size=41∧D.size=14∧A.all (·.oneCell')=true∧D.all (·.oneCell')=true)∧(E=0→∃s' c' p r,Gg s c w o z w' s' c' p r)∧(mZ s c=true→c.ds=[]→c.du=[]→mB s c=true→s.ep<1073741824→E=0)
theorem q2.no{s:hA}{c:hl}{w':World}(o:E≠0)(r:Below w.heap.size w w')(h:mZ s c=true→c.ds=[]→c.du=[]→mB s c=true→s.ep<1073741824→False):q2 s c w (.returned (.tuple #[.agg hC.h4,.agg jR.cs,int i64 E])) w':=
 ⟨_,_,E,rfl,r,⟨_,_,rfl,rfl,rfl,rfl,hC.kA,nk _⟩,fun e=>absurd e o,fun a b c d e=>(h a b c d e).elim⟩
theorem r7.answer{o:World}{s:hA}{c:hl}{κ:hr}{t:Tk}{d:hl}{r:Rc}(h:r7 g X.heap.size X s c κ t d r W)(T:w.heap.size+3≤X.heap.size)(G:Below w.heap.size w X)(z:hn (w.heap.size+1) W.drew Z)(A:hn (w.heap.size+2) Z o):q2 s c w (.returned (.tuple #[.agg t.s.cs,.agg t.r.cs,int i64 0])) o:=by
 have U:=h.le;obtain⟨I,J,K⟩:=h.lay;have D:Below W.heap.size W W.drew:=hM;have O:W.heap.size≤Z.heap.size:=z.size;have Q:=(oY (κ:=iQ X.heap.size) D).trans (mF z (nn (by omega)));have E:Below W.heap.size (hL (iQ X.heap.size) W) (hL (iQ X.heap.size) o):=Q.trans ((mF A (nn (by omega))).mono O);have R:Below w.heap.size w o:=iC (iC (G.trans ((h.below.mono (by omega)).trans (D.mono (by omega)))) z (by omega) (by show w.heap.size≤W.heap.size;omega)) A (by omega) (by omega);have V:=A.size;have F:∀k,k<w.heap.size→iQ X.heap.size k=10:=fun k S=>vl (by omega) S;exact⟨_,_,0,rfl,R,⟨_,_,rfl,rfl,rfl,rfl,ln _,nk _⟩,fun _=>⟨t.s,d,t.r,r,rfl,rfl,Lay.low F ((I.below E).more (by omega)),J,h.iq,h.nj,kk.low F ((K.below E).more (by omega)),h.law⟩,fun _ _ _ _ _=>rfl⟩
theorem Gi(s:hA)(c:hl)(w:World)(h:Lay s c w w.heap.size)(ag:s.Ok)(av:jE s c)(aF:nJ s c)(a2:DI 60000 s c):
 Calls prog 30 #[.agg s.cs] w (q2 s c w):=by
 have an:Below w.heap.size w (((w.alloc (.cells s.cs 46)).alloc (.cells hC.h4 46)).alloc (.cells jR.cs 49)):=((hz.alloc hj _).alloc (by simp) _).alloc (by simp;omega) _;have aG:ha (((w.alloc (.cells s.cs 46)).alloc (.cells hC.h4 46)).alloc (.cells jR.cs 49)) w.heap.size 46 s.cs:=((ha.new w _ _ _ rfl).alloc _).alloc _;have aH:ha (((w.alloc (.cells s.cs 46)).alloc (.cells hC.h4 46)).alloc (.cells jR.cs 49)) (w.heap.size+1) 46 hC.h4:=(ha.new _ _ _ _ (by simp)).alloc _;have aI:ha (((w.alloc (.cells s.cs 46)).alloc (.cells hC.h4 46)).alloc (.cells jR.cs 49)) (w.heap.size+2) 49 jR.cs:=ha.new _ _ _ _ (by simp);have aJ:(((w.alloc (.cells s.cs 46)).alloc (.cells hC.h4 46)).alloc (.cells jR.cs 49)).heap.size=w.heap.size+3:=by simp
 obtain⟨aw,aK⟩:=ho (((w.alloc (.cells s.cs 46)).alloc (.cells hC.h4 46)).alloc (.cells jR.cs 49));rw[aK]at an aG aH aI aJ;have a3:Hid (((w.alloc (.cells s.cs 46)).alloc (.cells pL 46)).alloc (.cells zy 49)=aw):=g' aK;have ax:=(h.below an).more an.size;obtain⟨a4,a5,G,a6,bF,bG,a7,a8⟩:=mI (ym s c aw ax ag av) (fun W (ao:Below aw.heap.size aw W)=>rh s c W ((ax.below ao).more ao.size) ag av aF) (And.intro ax (And.intro av a2)) aG aH aI aJ an;clear aK an aG aH aI aJ ax h ag av aF a2;go_enter func30,ntmps30;go_upto_region 1 with(fail)
 rw[a3.out];clear a3;have ao:=a6.out;go_wp2_with (first|refine hR ao iX (j4 s) rfl rfl rfl rfl ?_|fail);refine a4.out.mono ?_;rintro e X ⟨b,rfl,ah,Y,a9⟩;have Z:=a8.out.trans (ah.mono a8.out.size);have aa:=bF.out.to ah;have ad:=bG.out.to ah;cases b
 ·clear Y
  go_wp2_with (first|refine wpList_build rfl 46 #[] rfl (.agg hC.h4) (fun w'=>by kernel_rfl) ?_|refine wpList_build rfl 49 #[] rfl (.agg jR.cs) (fun w'=>by kernel_rfl) ?_|(refine iL rfl 46 (.tmp 2) (.tmp 10) rfl (w.heap.size+1) hC.h4 rfl rfl 46 _ aa (by kernel_rfl) rfl hC.kA ?_;intro a' aL ae;have aM:=ad.hT ae (by omega))|(refine iL rfl 49 (.tmp 3) (.tmp 11) rfl (w.heap.size+2) jR.cs rfl rfl 49 _ aM (lP _) rfl (nk _) ?_;intro ba aN ap;have aO:=aL.hT ap (by omega)));exact bodyPost_ret (v:= .tuple #[.agg hC.h4,.agg jR.cs,int i64 291]) (tA results30 _ _ _ _ _ _ _ _ _ _ _ rfl rfl rfl aO aN iX rfl (by kernel_rfl) l6 rfl (lP _)) rfl (q2.no (by decide) (iC (iC Z ae (by omega) Z.size) ap (by omega) (Nat.le_trans Z.size ae.size)) (fun bH bI bJ bK _=>by have:=a9 bH bI bJ bK;cases this))
 have Y:=Y rfl;clear a9;have aP:=a6.out.to ah;have bZ:=aP.cell (j:=29) (v:=int i64 s.ep) rfl;by_cases aq:(1073741824:Int)≤s.ep
 ·have aQ:=hZ aq
  clear Y aq;go_wp2_with (first|refine wpList_build rfl 46 #[] rfl (.agg hC.h4) (fun w'=>by kernel_rfl) ?_|refine wpList_build rfl 49 #[] rfl (.agg jR.cs) (fun w'=>by kernel_rfl) ?_|(refine iL rfl 46 (.tmp 2) (.tmp 16) rfl (w.heap.size+1) hC.h4 rfl rfl 46 _ aa (by kernel_rfl) rfl hC.kA ?_;intro a' aL ae;have aM:=ad.hT ae (by omega))|(refine iL rfl 49 (.tmp 3) (.tmp 17) rfl (w.heap.size+2) jR.cs rfl rfl 49 _ aM (lP _) rfl (nk _) ?_;intro ba aN ap;have aO:=aL.hT ap (by omega)));exact bodyPost_ret (v:= .tuple #[.agg hC.h4,.agg jR.cs,int i64 200]) (tA results30 _ _ _ _ _ _ _ _ _ _ _ rfl rfl rfl aO aN iX rfl (by kernel_rfl) l6 rfl (lP _)) rfl (q2.no (by decide) (iC (iC Z ae (by omega) Z.size) ap (by omega) (Nat.le_trans Z.size ae.size)) (fun _ _ _ _ b0=>by simp at aQ;omega))
 have aQ:=h1 aq;obtain⟨O,bb,bL,bM,bN,ay,b1⟩:=k2 (y1 G.out.1 G.out.2.1 Y.1 Y.2.1 Y.2.2) aP aa ad Z ah aq;clear Y aP aa ad Z ah aq ao;go_wp2;refine gZ.iP (fun w'=>ha w' w.heap.size 46 s.cs∧Below X.heap.size X w') 11 (by kernel_rfl) (by rintro _ _ (_|_) _ _ h<;>exact h) (⟨bb.out.drew,hM⟩) fun Q o=>?_;refine gZ.tq Q 4 (gZ.sq 0 1 false (gZ.sq 2 6 false [])) (by kernel_rfl) o ?_;iterate 3((first|(refine gZ.tY 0 ((s.cs).toList) (fun w' z=>z.1) (by kernel_rfl) iX (by kernel_rfl) rfl rfl rfl rfl rfl ?_)|(refine gZ.t1 rfl rfl (fun w' z=>by try simp only[S3];have bc:=z.1.cell (j:=29) (v:=int i64 s.ep) rfl;have bd:=z.1.cell (j:=20) (v:=int i64 s.p.wait) rfl;go_simp;try rfl) ?_));try simp only[S4,S3])
 refine gZ.jK (.agg (qo s.ep).cs) rfl (Or.inl ⟨by rfl,fun w' _=>by kernel_rfl⟩) ?_;(try simp only[S4,S3])
 iterate 3(refine gZ.t1 rfl rfl (fun w' z=>by try simp only[S3];have bc:=z.1.cell (j:=29) (v:=int i64 s.ep) rfl;have bd:=z.1.cell (j:=20) (v:=int i64 s.p.wait) rfl;go_simp;try rfl) ?_;try simp only[S4,S3])
 refine gZ.hH (fun o=>?_);refine gZ.hY 1 (n:=3) rfl rfl (by kernel_rfl) (fun K af=>?_);(try simp only[S3])
 go_simp;have T:=o.1;refine(a5.out _ (ay.out.trans (T.2.mono ay.out.size))).mono ?_;rintro e ab ⟨κ,R,mo,rfl,be,az,aA,bf⟩;obtain⟨bg,aR,I⟩:=hs be (And.intro aA bf) (kY (T.1.to az) (T.2.trans (az.mono T.2.size)));have bh:s.p.wait=R.p.wait:=by rw[(n7 aA).1]
 have bi:s.ep=R.ep:=(n7 aA).2.2.2.2.2.2.1.symm;obtain⟨aS,bO⟩:=hg (And.intro bh bi) az.size;clear T be az aA bf bh bi;refine af.out _ _ I.out trivial (fun o=>?_);(try simp only[S4,S3])
 refine gZ.tq Q 2 [(8,false)] (by kernel_rfl) o ?_;refine gZ.jK (.agg (⟨R,qo s.ep,s.p.wait⟩:Tk).cs) rfl (Or.inl ⟨by rfl,fun w' _=>by kernel_rfl⟩) ?_;(try simp only[S4,S3])
 refine gZ.hH (fun o=>?_);refine gZ.hY 9 (n:=1) rfl rfl (by kernel_rfl) (fun K af=>?_);(try simp only[S3])
 have S:=g' (kY (I.out.1.alloc (.cells (⟨R,qo s.ep,s.p.wait⟩:Tk).cs 138)) (I.out.2.trans ((hz.alloc hj (.cells (⟨R,qo s.ep,s.p.wait⟩:Tk).cs 138):Below ab.heap.size ab _).mono I.out.2.size)));go_simp;refine af.out _ _ S.out trivial (fun o=>?_);(try simp only[S4])
 refine gZ.tq Q 0 [(10,false)] (by kernel_rfl) o ?_;iterate 1(refine gZ.t1 rfl rfl (fun w' z=>by try simp only[S3];have bc:=z.1.cell (j:=29) (v:=int i64 s.ep) rfl;have bd:=z.1.cell (j:=20) (v:=int i64 s.p.wait) rfl;go_simp;try rfl) ?_;try simp only[S4,S3])
 refine gZ.hH (fun o=>?_);clear o;refine gZ.ia rfl ?_;have aT:(⟨R,qo s.ep,s.p.wait⟩:Tk)=kn R:=by unfold kn;rw[←aS.out.1,←aS.out.2]
 rw[aT]at S;try rw[aT]
 clear aT;have ai:Below ab.heap.size ab (ab.alloc (.cells (kn R).cs 138)):=hz.alloc hj _;have ar:=bg.out.Gh ai (ha.new ab _ _ _ rfl) I.out.2.size;obtain⟨g,bj⟩:=ho ab.heap.size;obtain⟨bP,aU⟩:=ho (ab.alloc (.cells (kn R).cs 138));rw[aU]at ar S ai;rw[bj]at ar⊢;rw[aU];have bk:=g' (show kc g X.heap.size X s c (-1) 0 (iz κ g 1) (kn R) {c with mo:=mo} l5 bP from⟨ar.1,ar.2,S.out.2.size,S.out.2,PI.start O.out G.out.2.2 aR.out.1 ⟨G.out.2.1.hX,G.out.2.1.gen,G.out.2.1.hO,G.out.2.1.h7,G.out.2.1.hN⟩⟩);clear ar bj aU ai I S bg bO aS a5 a4;go_wp2_with fail;refine(F8 O.out aR.out.1 bk.out).mono ?_;rintro e a' ⟨rfl,b2,b3,aQ,b4,A,D,bl,E,bm⟩;have bn:=g' A;clear A bk;have au:=g' (And.intro D (And.intro bl (And.intro E bm)));clear D bl E bm;go_wp2_with fail;refine(F9 O.out bn.out au.out.1 au.out.2.1 au.out.2.2.1 au.out.2.2.2).mono ?_;rintro e ba ⟨rfl,b5,b6,b7,b8,A,D,bo,E⟩;have bp:=g' A;clear A bn;have I:=g' (And.intro D (And.intro bo E));clear D bo E au;go_wp2_with fail;refine(F' O.out bp.out I.out.1 I.out.2.1 I.out.2.2).mono ?_;rintro e b9 ⟨rfl,b',ca,cb,cc,A,D,E⟩;have bq:=g' A;clear A bp;have S:=g' (And.intro D E);clear D E I;go_wp2_with fail;refine(Ga O.out G.out.2.2.len bq.out S.out.1 S.out.2).mono ?_;rintro e cd ⟨rfl,ce,cf,cg,ch,A,D,E,U⟩;have br:=g' A;clear A bq;have aB:=g' (And.intro D (And.intro E U));clear D E U S;go_wp2_with fail;refine(Gb O.out G.out.2.2.len br.out aB.out.1 aB.out.2.1 aB.out.2.2).mono ?_;rintro e ci ⟨rfl,cj,ck,cl,cm,A,D,E,U⟩;have bt:=g' A;clear A br;have aC:=g' (And.intro D (And.intro E U));clear D E U aB;go_wp2_with fail;refine(Gc O.out G.out.2.2.len bt.out aC.out.1 aC.out.2.1 aC.out.2.2).mono ?_;rintro e cn ⟨rfl,co,cp,cq,cr,A,D,E,U,ag,bu⟩;have bv:=g' A;clear A bt;have aj:=g' (And.intro D (And.intro E (And.intro U (And.intro ag bu))));clear D E U ag bu aC;go_wp2_with fail;refine(Gd O.out aR.out.2 bv.out aj.out.1 aj.out.2.1 aj.out.2.2.1 aj.out.2.2.2.1 aj.out.2.2.2.2).mono ?_;rintro e bw ⟨rfl,aV,ac,aW,aX,A,D⟩;have ak:=g' A;clear A bv;have aD:=g' D;clear D aj;have al:=g' (show hK aV g ac aW aX bw∧ha bw w.heap.size 46 s.cs from⟨ak.out.at_,(bb.out.to ak.out.below)⟩);by_cases aY:ac.s.p=s.p;focus
  have aZ:=fun W=>qD ac.s.p s.p true (by simpa using aY) W;clear aY;go_wp2;refine gZ.iP (fun w'=>hK aV g ac aW aX w'∧ha w' w.heap.size 46 s.cs) 8 (by kernel_rfl) (by rintro _ _ (_|_) _ _ h<;>exact h) (⟨al.out.1.below hM,al.out.2.drew⟩) fun Q o=>?_;refine gZ.tq Q 0 (gZ.sq 0 8 false []) (by kernel_rfl) o ?_;iterate 8((first|(refine gZ.tY 0 ((ac.s.p.cs).toList) (fun w' z=>z.1.box) (by kernel_rfl) hQ (by kernel_rfl) rfl rfl rfl rfl rfl ?_)|(refine gZ.tY 0 ((s.p.cs).toList) (fun w' z=>z.2) (by kernel_rfl) hQ (by kernel_rfl) rfl rfl rfl rfl rfl ?_)|(refine gZ.t1 rfl rfl (fun w' z=>by try simp only[S3];go_simp;try rfl) ?_));try simp only[S4,S3])
  refine gZ.hH (fun o=>?_);clear o;refine gZ.ia rfl ?_;have a0:=g' ((ak.out.world hM).more (n':=512) (by omega));have a1:=aD;clear ak aD al aZ
 rotate_left;focus
  have aZ:=fun W=>qD ac.s.p s.p false (by simpa using aY) W;go_wp2;refine gZ.iP (fun w'=>hK aV g ac aW aX w'∧ha w' w.heap.size 46 s.cs) 8 (by kernel_rfl) (by rintro _ _ (_|_) _ _ h<;>exact h) (⟨al.out.1.below hM,al.out.2.drew⟩) fun Q o=>?_;refine gZ.tq Q 0 (gZ.sq 0 8 false []) (by kernel_rfl) o ?_;iterate 8((first|(refine gZ.tY 0 ((ac.s.p.cs).toList) (fun w' z=>z.1.box) (by kernel_rfl) hQ (by kernel_rfl) rfl rfl rfl rfl rfl ?_)|(refine gZ.tY 0 ((s.p.cs).toList) (fun w' z=>z.2) (by kernel_rfl) hQ (by kernel_rfl) rfl rfl rfl rfl rfl ?_)|(refine gZ.t1 rfl rfl (fun w' z=>by try simp only[S3];go_simp;try rfl) ?_));try simp only[S4,S3])
  refine gZ.hH (fun o=>?_);clear o;refine gZ.ia rfl ?_;clear aZ al;have bQ:=g' (ak.out.world hM);go_wp2_with fail;refine(Ge O.out G.out.2.2.len bQ.out aD.out).mono ?_;rintro e ct ⟨rfl,cu,cv,cw,cx,A,D⟩;obtain⟨a0,a1⟩:=hg A D;clear A D ak aD
 all_goals
  go_wp2_with fail;refine(Gf O.out G.out.2.2.len a0.out a1.out).mono ?_;rintro e aE ⟨rfl,cy,F,cz,cA,bx⟩;have am:=g' bx;clear bx a0 a1;go_wp2;have bz:X.heap.size≤g:=Classical.byContradiction fun U=>by have cB:=am.out.low g (by omega);have aF:=am.out.at_.kg;omega
  have bA:=g' (show w.heap.size+3≤X.heap.size∧X.heap.size≤g from⟨by rw[←a7.out];exact ay.out.size,bz⟩);clear bz;refine gZ.rg (fun w'=>ha w' g 138 F.cs) (fun w'=>Below aE.heap.size aE w') 8 11 (by kernel_rfl) (by rintro _ _ (_|_) _ _ h<;>exact h) am.out.at_.box.drew hM fun Q o=>?_;refine gZ.tq Q 3 (gZ.sq 0 4 true (gZ.sq 4 4 false [])) (by kernel_rfl) o ?_;iterate 8((first|(refine gZ.tY 0 ((F.s.cs).toList) (fun w' z=>z.1) (by kernel_rfl) iX (by kernel_rfl) rfl rfl rfl rfl rfl ?_)|(refine gZ.tY 41 ((F.r.cs).toList) (fun w' z=>z) (by kernel_rfl) l6 (by kernel_rfl) rfl rfl rfl rfl rfl ?_)|(refine gZ.t1 rfl rfl (fun w' z=>by try simp only[S3];first|(have⟨hS,bR⟩:=z;go_simp;try rfl)|(go_simp;try rfl)) ?_));try simp only[S4,S3])
  refine gZ.hH (fun o=>?_);refine gZ.jc 8 (n:=2) rfl rfl (by kernel_rfl) (by kernel_rfl) (fun K af=>?_);(try simp only[S3])
  have T:=o.2 rfl;have ai:=o.1;have aa:=(bL.out.to am.out.below).to T;have ad:=(bM.out.to am.out.below).to T;rw[if_pos (by rfl)];refine wp_store_mid 46 (.tmp 2) (.tmp 57) rfl (w.heap.size+1) 0 F.s.cs rfl rfl (aa.there 0 41 (by decide)) (j4 _) (ln _) ?_;have V:=ha.setCells F.s.cs.toList 0 _ _ aa;rw[show hf.splice hC.h4 0 F.s.cs.toList=F.s.cs by kernel_rfl]at V;have J:=hn.setCells (g:=w.heap.size+1) F.s.cs.toList 0 _ (hn.refl (w.heap.size+1) aE.drew);obtain⟨u1,bB⟩:=ho (aE.drew.setCells (w.heap.size+1) 0 F.s.cs.toList);rw[bB]at V J⊢;obtain⟨bS,bC,bT,bD⟩:=h5 V (ad.hT J (by omega)) J (ai.hT J (by have:=bA.out;omega));clear T aa ad V J bB ai;refine af.out _ _ bD.out (fun o=>?_);refine gZ.jc 9 (n:=1) rfl rfl (by kernel_rfl) (by kernel_rfl) (fun K af=>?_);(try simp only[S3])
  rw[if_pos (by rfl)];refine wp_store_mid 49 (.tmp 3) (.tmp 61) rfl (w.heap.size+2) 0 F.r.cs rfl rfl (bC.out.there 0 14 (by decide)) (lP _) (nk _) ?_;have V:=ha.setCells F.r.cs.toList 0 _ _ bC.out;rw[show hf.splice jR.cs 0 F.r.cs.toList=F.r.cs by kernel_rfl]at V;have J:=hn.setCells (g:=w.heap.size+2) F.r.cs.toList 0 _ (hn.refl (w.heap.size+2) u1);obtain⟨u2,bE⟩:=ho (u1.setCells (w.heap.size+2) 0 F.r.cs.toList);rw[bE]at V J⊢;obtain⟨bU,bV,bW,bX⟩:=h5 V J (bS.out.hT J (by omega)) (bD.out.hT J (by have:=bA.out;omega));clear V J bE;refine af.out _ _ bX.out (fun o=>?_);refine gZ.tq Q 0 [(10,false)] (by kernel_rfl) o ?_;iterate 1(refine gZ.t1 rfl rfl (fun w' z=>by try simp only[S3];first|(have⟨hS,bR⟩:=z;go_simp;try rfl)|(go_simp;try rfl)) ?_;try simp only[S4,S3])
  refine gZ.hH (fun o=>?_);clear o;refine gZ.ia rfl ?_;go_wp2;have bY:w.heap.size+3≤X.heap.size:=by rw[←a7.out];exact ay.out.size
  exact bodyPost_ret (v:= .tuple #[.agg F.s.cs,.agg F.r.cs,int i64 0]) (tA results30 _ _ _ _ _ _ _ _ _ _ _ rfl rfl rfl bW.out bU.out iX rfl (j4 _) l6 rfl (lP _)) rfl (am.out.answer bY bN.out bT.out bV.out)
theorem n8{s:Sl}{xs:List Value}(h:w.ownsRow b e g s.v n xs):s.n=n∧s.Ok∧(∀r,s.A=some r→b≤r.block)∧hV w w.heap.size s.A s.n g xs:=by
 obtain⟨s',o,z,D,E,F⟩:=jZ h;unfold Sl.v at o;cases s;cases s';simp only at o;cases o;exact⟨z,D,E,F⟩
structure Fo where
 own:Int
 hD:Nat
def Fo.enc(f:Fo):List Value:=[int i64 f.own,int u64 f.hD]
def Fo.cs(f:Fo):Array Value:= #[int i64 f.own,int u64 f.hD]
instance{f:Fo}:hf.jP f.cs fun o r=>(∀j,o.frozen? ⟨r,j,none⟩=false)∧hf.hh o r 0 (int i64 f.own)∧hf.hh o r 1 (int u64 f.hD):=⟨fun h=>⟨h.frozen,hf.jX h⟩⟩
theorem Fo.len(f:Fo):f.enc.length=2:=rfl
theorem Gj(f:Fo):(prog.info? 87).map (·.size)=some f.cs.size:=by kernel_rfl
def pE:Array Value:= #[int u64 0,int u64 0,int u64 0,int i64 0,int i64 0,int i64 0]
instance:hf.jP pE fun o r=>(∀j,o.frozen? ⟨r,j,none⟩=false)∧hf.hh o r 0 (int u64 0)∧hf.hh o r 1 (int u64 0)∧hf.hh o r 2 (int u64 0)∧hf.hh o r 3 (int i64 0)∧hf.hh o r 4 (int i64 0)∧hf.hh o r 5 (int i64 0):=⟨fun h=>⟨h.frozen,hf.jX h⟩⟩
def kL(p:hx)(f:Fo):Mem:=⟨f.hD,lI p f.hD,0,0,f.own,2⟩
theorem y'(m:Mem):(prog.info? 98).map (·.size)=some (hW m).size:=by kernel_rfl
theorem Gk(m:Mem):(hW m).all (·.oneCell')=true:=by kernel_rfl
theorem Gl(p:hx)(Q:iG p=true)(f:Fo)(R:f.hD<18446744073709551616)(w:World):
 Calls prog 49 #[.agg p.cs,.agg f.cs] w fun e w'=>e= .returned (.agg (hW (kL p f)))∧Below w.heap.size w w':=by
 have z:Below w.heap.size w (((w.alloc (.cells p.cs 24)).alloc (.cells f.cs 87)).alloc (.cells pE 98)):=((hz.alloc hj _).alloc (by simp) _).alloc (by simp;omega) _;have A:ha (((w.alloc (.cells p.cs 24)).alloc (.cells f.cs 87)).alloc (.cells pE 98)) w.heap.size 24 p.cs:=((ha.new w _ _ _ rfl).alloc _).alloc _;have D:ha (((w.alloc (.cells p.cs 24)).alloc (.cells f.cs 87)).alloc (.cells pE 98)) (w.heap.size+1) 87 f.cs:=(ha.new _ _ _ _ (by simp)).alloc _;have r:ha (((w.alloc (.cells p.cs 24)).alloc (.cells f.cs 87)).alloc (.cells pE 98)) (w.heap.size+2) 98 pE:=ha.new _ _ _ _ (by simp);obtain⟨E,F⟩:=ho (((w.alloc (.cells p.cs 24)).alloc (.cells f.cs 87)).alloc (.cells pE 98));rw[F]at z A D r;have S:Hid (((w.alloc (.cells p.cs 24)).alloc (.cells f.cs 87)).alloc (.cells jj 98)=E):=g' F;obtain⟨Y,Z,aa,ab,T⟩:=jg (fun W=>tX p Q f.hD R (lI p f.hD) rfl W) A D r z;clear F z A D r Q R;go_enter func49,ntmps49;go_upto_region 1 with(fail)
 rw[S.out];clear S;refine gZ.rg (fun w'=>True) (fun w'=>Below E.heap.size E w') 10 11 (by kernel_rfl) (by rintro _ _ (_|_) _ _ h<;>exact h) trivial hM fun U o=>?_;refine gZ.tq U 4 (gZ.sq 0 5 true (gZ.sq 7 2 true [])) (by kernel_rfl) o ?_;iterate 7((first|(refine gZ.tY 0 p.cs.toList (fun w' G=>(Z.to G.2)) (by kernel_rfl) hQ (by kernel_rfl) rfl rfl rfl rfl rfl ?_)|(refine gZ.t1 rfl rfl (fun w' G=>by try simp only[S3];first|(have⟨hS,ac⟩:=G;have ag:=(aa.to ac).all;go_simp;try rfl)|(go_simp;try rfl)) ?_));try simp only[S4,S3])
 refine gZ.hH (fun o=>?_);refine gZ.hY 5 (n:=3) rfl rfl (by kernel_rfl) (fun K I=>?_);(try simp only[S3])
 go_simp;have J:=o.2 rfl;refine hI (Y _) fun ad V=>?_;have O:=g' (J.trans (V.mono J.size));clear J V;refine I.out _ _ trivial O (fun o=>?_);(try simp only[S4,S3])
 refine gZ.tq U 1 [(6,true),(9,true)] (by kernel_rfl) o ?_;refine gZ.jK (.agg #[int u64 f.hD,int u64 (lI p f.hD),int u64 0,int i64 0]) rfl (Or.inl ⟨by rfl,fun w' _=>by kernel_rfl⟩) ?_;(try simp only[S4,S3])
 refine gZ.jK (.agg (hW (kL p f))) rfl (Or.inl ⟨by rfl,fun w' _=>by kernel_rfl⟩) ?_;(try simp only[S4,S3])
 refine gZ.hH (fun o=>?_);refine gZ.jc 10 (n:=0) rfl rfl (by kernel_rfl) (by kernel_rfl) (fun K I=>?_);(try simp only[S3])
 have r:=ab.to O;rw[if_pos (by rfl)];refine wp_store_mid 98 (.tmp 4) (.tmp 14) rfl (w.heap.size+2) 0 (hW (kL p f)) rfl rfl (r.there 0 6 (by decide)) (y' _) (Gk _) ?_;obtain⟨ae,af⟩:=hg (show ha _ (w.heap.size+2) 98 (hW (kL p f))from(show hf.splice pE 0 (hW (kL p f)).toList=hW (kL p f) by kernel_rfl)▸ha.setCells (hW (kL p f)).toList 0 _ _ r) (hn.setCells (g:=w.heap.size+2) (hW (kL p f)).toList 0 _ (hn.refl (w.heap.size+2) ad));clear r;refine I.out _ _ trivial (fun o=>?_);clear o;refine gZ.ia rfl ?_;go_wp2;have X:=T.trans (O.mono T.size);exact bodyPost_ret (v:= .agg (hW (kL p f))) (l9 results49 _ _ _ _ _ _ rfl ae jY rfl (y' _)) rfl ⟨rfl,iC X af (by omega) X.size⟩
structure ib (κ:hr) (g:Nat) (s:hA) (c:hl) (w:World):Prop where
 fresh:∀k,w.heap.size≤k→κ k=0
 kg:κ g=1
 box:ha w g 142 s.cs
 row:ik κ (kn s) c l5 w
theorem ib.below{κ:hr}{s:hA}{c:hl}{w':World}(h:ib κ g s c w)(o:Below w.heap.size w w'):ib κ g s c w':=
 ⟨fun k r=>h.fresh k (Nat.le_trans o.size r),h.kg,h.box.to o,h.row.below o⟩
theorem ib.kZ{κ:hr}{s s':hA}{c c':hl}(h:ib κ g s c w)(r:ik κ (kn s') c' l5 w)(j:Nat)(v:Value)(z:s'.cs=s.cs.setIfInBounds j v):
 ib κ g s' c' (w.setCell ⟨g,j,none⟩ v)∧ht κ w κ (w.setCell ⟨g,j,none⟩ v):=by
 have o:hn g w (w.setCell ⟨g,j,none⟩ v):=(hn.refl g w).setCell (p:=⟨g,j,none⟩) (.inl rfl) v;exact⟨⟨fun k A=>h.fresh k (Nat.le_trans o.size A),h.kg,by rw[z];exact h.box.set j v,r.box o h.kg⟩,.hT o (by rw[h.kg];omega)⟩
theorem ib.start{κ:hr}{s:hA}{c:hl}(h:jO L κ s c w)(r:Below w.heap.size w W)(z:w.heap.size≤g)(o:ha W g 142 s.cs):ib (iz κ g 1) g s c W∧∀k,k<L→iz κ g 1 k=10:=by
 have k:=h.qe (x:=1) r z o.lt;exact⟨⟨k.fresh,py _ _ _,o,k.n,⟨rfl,fun j A=>absurd A (by show¬j<0;omega)⟩,k.jL,k.jG,k.jH,k.jv,k.jM,k.jN,Sl.Ok.nil,k.me,k.ex,k.en,ni _ _ _ _ _,ni _ _ _ _ _,ni _ _ _ _ _⟩,k.low⟩
theorem ib.lay{κ:hr}{s:hA}{c:hl}(h:ib κ g s c w)(o:∀k,k<L→κ k=10):Lay s c (hL (iQ L) w) w.heap.size∧s.Ok:=by
 have k:=h.row;have n:kt s c (hL (iQ L) w) w.heap.size:=kt.low o k.n;exact⟨⟨n.pu,k.me.low o (by decide),kD.2 (k.en.low o (by decide)),kD.2 (k.ex.low o (by decide)),n.po,n.du,n.mo,n.mv,n.ma,n.ri⟩,k.ok⟩
theorem ib.kz{κ:hr}{s:hA}{c:hl}(h:ib κ g s c w):s.me.n=c.ms.length:=by
 have:=h.row.me.own.1;rw[mh Mem.len]at this;have o:c.ms.length*6=s.me.n*6:=this;omega
theorem ib.lx{κ:hr}{s:hA}{c:hl}(h:ib κ g s c w){m:Mem}(F:c.ms[i]?=some m):∃b,s.me=⟨some ⟨b,0,none⟩,c.ms.length,s.me.c⟩∧κ b=2∧b≠g∧b<w.heap.size∧w.ownsRow 0 98 6 (.slice (some ⟨b,0,none⟩) c.ms.length s.me.c) c.ms.length (flat Mem.enc c.ms):=by
 have o:w.ownsRow 0 98 6 s.me.v s.me.n (flat Mem.enc c.ms):=h.row.me.own;have z:=h.kz;have J:0<c.ms.length:=by have:=(jh.1 F).1;omega
 have D:∀E,s.me.A=some E→κ E.block=2:=h.row.me.jl;have G:=h.kg;rcases o.2 with⟨_,K⟩|⟨b,cap,cur,hv,_,hb,_⟩
 ·omega
 have I:=(Array.getElem?_eq_some_iff.1 hb).1;generalize s.me=s1 at*;obtain⟨A,n,O⟩:=s1;unfold Sl.v at hv;simp only at hv z D o;cases hv;subst z;have r:κ b=2:=D _ rfl;exact⟨b,rfl,r,(fun e=>by rw[e,G]at r;cases r),I,o⟩
theorem ib.members{κ:hr}{s:hA}{c:hl}{w':World}(h:ib κ g s c w)(o:hn b w w')(r:κ b=2)(ms:List Mem)(z:w'.ownsRow 0 98 6 s.me.v s.me.n (flat Mem.enc ms)):ib κ g s {c with ms:=ms} w'∧ht κ w κ w':=
 ⟨⟨fun k A=>h.fresh k (Nat.le_trans o.size A),h.kg,h.box.hT o (fun e=>by have:=h.kg;rw[e]at this;omega),h.row.members o r ms z⟩,.hT o (by omega)⟩
theorem ib.Gm{κ:hr}{s:hA}{c:hl}(h:ib κ g s c w)(ds:List Int)(z:w.grownBy W s.ex.v.ownBlock)(D:W.ownsRow 0 3 1 (.slice (some ⟨b,0,none⟩) n L) n (ds.map iw))(E:s.ex.v.ownBlock=some b∨w.heap.size≤b)(F:b<W.heap.size):
 (∀k,W.heap.size≤k→iz κ b 3 k=0)∧iz κ b 3 g=1∧ha W g 142 s.cs∧ik (iz κ b 3) (kn {s with ex:=⟨some ⟨b,0,none⟩,n,L⟩}) {c with xs:=ds} l5 W∧ht κ w (iz κ b 3) W:=by
 have r:=h.row;have A:∀k,s.ex.v.ownBlock=some k→κ k=3:=r.ex.h2;have o:ht κ w (iz κ b 3) W:=qQ z A (by decide) E;have q:=r.n.step o;have G:s.ex.v.ownBlock≠some g:=fun e=>by have:=A g e;rw[h.kg]at this;cases this
 exact⟨oQ h.fresh z.size F,by rw[o.jl g h.box.lt];exact h.kg,(z.block g h.box.lt (fun e=>G e.symm)).trans h.box,
  ⟨⟨q.pu,q.po,q.du,q.mo,q.mv,q.ma,q.ri⟩,kE r.le o,r.jL,r.jG,r.jH,r.jv,r.jM,r.jN,r.hle,r.me.grow o z A (by decide),iY.mk' D,r.en.grow o z A (by decide),ni _ _ _ _ _,ni _ _ _ _ _,ni _ _ _ _ _⟩,o⟩
theorem ib.nG{κ:hr}{s':hA}{c':hl}(z:∀k,w.heap.size≤k→κ k=0)(o:κ g=1)(A:ha w g 142 Q)(D:ik κ (kn s') c' l5 w)(j:Nat)(v:Value)(E:s'.cs=Q.setIfInBounds j v):
 ib κ g s' c' (w.setCell ⟨g,j,none⟩ v)∧ht κ w κ (w.setCell ⟨g,j,none⟩ v):=by
 have r:hn g w (w.setCell ⟨g,j,none⟩ v):=(hn.refl g w).setCell (p:=⟨g,j,none⟩) (.inl rfl) v;exact⟨⟨fun k o=>z k (Nat.le_trans r.size o),o,by rw[E];exact A.set j v,D.box r o⟩,.hT r (by omega)⟩
structure HI (s0:hA) (c0:hl) (k:Nat) (s:hA) (c:hl):Prop where
 p:s.p=s0.p
 hX:s.hX=s0.hX
 gen:s.gen=s0.gen
 hO:s.hO=s0.hO
 h7:s.h7=s0.h7
 hN:s.hN<18446744073709551616
 ep:s.ep=s0.ep
 calm:s.calm=s0.calm
 em:s.em=s0.em
 du:c.du=c0.du
 es:c.es=c0.es
 rs:c.rs=c0.rs
 ms:∀m∈c.ms,my m
 ml:c.ms.length=c0.ms.length
 us:c.us.length=c0.us.length
 ds:∀d∈c.ds,d.am<18446744073709551616
 dl:c.ds.length≤256+k
 xl:c.xs.length≤128+k
 mo:∀m∈c.mo,(m.yh.n≤1000000∧m.nh.n≤1000000)∧0<m.yh.n∧0<m.nh.n
 kT:c.mo.length≤32+k
 mm:c.mm.length≤1000000
theorem HI.more{o:hA}{r:hl}{k':Nat}{s:hA}{c:hl}(h:HI o r k s c)(z:k≤k'):HI o r k' s c:=
 ⟨h.p,h.hX,h.gen,h.hO,h.h7,h.hN,h.ep,h.calm,h.em,h.du,h.es,h.rs,h.ms,h.ml,h.us,h.ds,by have:=h.dl;omega,by have:=h.xl;omega,h.mo,by have:=h.kT;omega,h.mm⟩
theorem HI.start{s F:hA}{c:hl}{mo:List hp}(r:FG s c)(I:qn s F)(o:k0 c.mo mo)(A:jE s c)(J:∀m∈c.mo,0<m.yh.n∧0<m.nh.n):HI s c 0 F {c with mo:=mo}:=by
 obtain⟨K,G,O,Q,R,S,T,U,V⟩:=n7 I;have X:=o.1;have Y:=r.kT;refine⟨K,G,O,Q,R,by rw[S];exact A.hN,T,U,V,rfl,rfl,rfl,A.ms,rfl,rfl,A.ds,r.dl,r.xl,fun m W=>?_,by show mo.length≤_;omega,by show c.mm.length≤_;rw[r.mm];omega⟩;obtain⟨j,D,e⟩:=List.getElem_of_mem W;obtain⟨y,z,E,Z,aa⟩:=o.2 j _ (iB (by rw[←o.1];exact D));rw[List.getElem?_eq_getElem D,e]at E;injection E with E;have:=A.mo _ (List.getElem_mem (by rw[←o.1];exact D):c.mo[j]∈c.mo);have G:=J _ (List.getElem_mem (by rw[←o.1];exact D):c.mo[j]∈c.mo);rw[E];exact⟨⟨by show y.n≤_;omega,by show z.n≤_;omega⟩,by show 0<y.n;omega,by show 0<z.n;omega⟩
def HP(κ:hr)(g:Nat)(r:hA)(z:hl)(k:Nat)(w:World)(e:Ending)(w':World):Prop:=∃(E:Int) (o:hr) (s':hA) (c':hl),e= .returned (.int .i64 E)∧ib o g s' c' w'∧ht κ w o w'∧HI r z (k+1) s' c'
theorem HP.same{κ:hr}{o:hA}{r:hl}{s:hA}{c:hl}{w':World}(h:ib κ g s c w')(z:ht κ w κ w')(A:HI o r k s c):HP κ g o r k w (.returned (.int .i64 E)) w':=⟨E,κ,s,c,rfl,h,z,A.more (Nat.le_succ k)⟩
theorem Gn{us:List Nat}{i:Int}(h:(h0.rj us i x).2=0):(h0.rj us i x).1.length=us.length:=by
 unfold h0.rj at h⊢;split
 ·rename_i hc;rw[if_pos hc]at h;cases h
 rename_i hc;rw[if_neg hc]at h;split
 ·rename_i hd;rw[if_pos hd]at h;cases h
 simp
def pG(us:List Nat)(w:World)(e:Ending)(w':World):Prop:=∃(v:Value) (E:Int),e= .returned (.tuple #[v,int i64 E])∧Below w.heap.size w w'∧(E=0→∃L:List Nat,L.length=us.length∧Wd L∧w'.ownsRow w.heap.size 22 1 v L.length (L.map uw))
theorem pG.no{us:List Nat}{w':World}{v:Value}(o:E≠0)(r:Below w.heap.size w w'):pG us w (.returned (.tuple #[v,int i64 E])) w':=⟨v,E,rfl,r,fun e=>absurd e o⟩
theorem lD.mv{us:List Nat}{w':World}{r:List Nat×Int}{e:Ending}(h:lD w r e w')(o:r.2=0→r.1.length=us.length):pG us w e w':=by
 obtain⟨v,z,A,D,E⟩:=h;exact⟨v,r.2,z,E,fun F=>⟨r.1,o F,D,A⟩⟩
theorem vm(A:Option Addr)(n c:Nat)(i:Int)(x:Nat)(us:List Nat)(w:World)(h:jk w w.heap.size A n us)(o:n≤1000000)(r:x<18446744073709551616)(z: -9223372036854775808≤i∧i≤9223372036854775807):
 Calls prog 210 #[.slice A n c,int i64 i,int u64 x] w (pG us w):=(zY A n c i x us w h o r z).mono fun _ _ k=>lD.mv k Gn
theorem Gp(A:Option Addr)(n c:Nat)(i j:Int)(x:Nat)(us:List Nat)(w:World)(h:jk w w.heap.size A n us)(K:n≤1000000)(O:x<18446744073709551616)(z: -9223372036854775808≤i∧i≤9223372036854775807)(D: -9223372036854775808≤j∧j≤9223372036854775807):
 Calls prog 209 #[.slice A n c,int i64 i,int i64 j,int u64 x] w (pG us w):=by
 by_cases o:i<0∨(us.length:Int)≤i
 ·rw[h.1]at o
  have H:=g' (tM A n c i o w);clear o h z D;go_enter func209,ntmps209;go_wp2_with fail;refine H.mono ?_;rintro e w' ⟨rfl,rfl⟩;go_wp2;go_ret2;exact pG.no (by decide) hz
 obtain⟨k,rfl⟩:∃k:Nat,i=k:=⟨i.toNat,by omega⟩;have H:=g' (tL A n c k (by have:=h.1;omega) w);by_cases F:j<0∨(us.length:Int)≤j
 ·rw[h.1]at F
  have Q:=g' (tM A n c j F w);clear o F h z D;go_enter func209,ntmps209;go_wp2_with fail;refine H.mono ?_;rintro e w' ⟨rfl,rfl⟩;go_wp2_with fail;refine Q.mono ?_;rintro e w' ⟨rfl,rfl⟩;go_wp2;go_ret2;exact pG.no (by decide) hz
 obtain⟨l,rfl⟩:∃l:Nat,j=l:=⟨j.toNat,by omega⟩;obtain⟨Q,W,G⟩:=hs (tL A n c l (by have:=h.1;omega) w) (vm A n c k x us w h K O z) (And.intro K (And.intro O (And.intro D h.1)));clear o F h z D O K;go_enter func209,ntmps209;go_wp2_with fail;refine H.mono ?_;rintro e w' ⟨rfl,rfl⟩;go_wp2_with fail;refine Q.mono ?_;rintro e w' ⟨rfl,rfl⟩;go_wp2_with fail;refine W.mono ?_;rintro e X ⟨v,E,rfl,I,R⟩;by_cases J:E=0
 ·subst J
  obtain⟨L,T,U,S⟩:=R rfl;obtain⟨u,rfl,Y,-⟩:=jZ S;have V:=p2.2 ⟨(n8 S).2.2.2,U⟩;obtain⟨Z,aa,r⟩:=hs (vR u.A u.n u.c l x L X V (by have:=G.1;have:=G.2.2.2;omega) G.2.1 G.2.2.1) T I;clear R T U S V Y I;simp only[Sl.v];go_wp2_with fail;refine Z.mono ?_;rintro e ag ⟨v,rfl,ab,ac,ad⟩;go_wp2;go_ret2;exact⟨v,_,rfl,r.trans (ad.mono r.size),fun ae=>⟨_,(yA ae).trans aa,ac,ab.mono r.size⟩⟩
 have ah:(E !=0)=true:=by simp[J]
 obtain⟨af,r⟩:=hg J I;clear R J I;go_wp2;go_ret2;exact pG.no af r
theorem Gq(κ:hr)(g:Nat)(s:hA)(c:hl)(w:World)(h:ib κ g s c w)(i:Int)(b:Bool)(r:b=decide (0≤i∧i<(s.pu.n:Int))):
 Calls prog 208 #[.pointer (some ⟨g,0,none⟩),int i64 i] w fun e w'=>e= .returned (.bool b)∧w=w':=by
 have D:=h.box.all;clear h;subst r;by_cases o:0≤i
 ·have z:=hZ o
  obtain⟨E,A⟩:=ho (decide (i<(s.pu.n:Int)));clear A;go_enter func208,ntmps208;go_wp2;go_ret;refine⟨?_,rfl⟩;simp[o]
 have z:=h1 o;go_enter func208,ntmps208;go_wp2;go_ret;refine⟨?_,rfl⟩;simp
theorem Gr(κ:hr)(g:Nat)(s:hA)(c:hl)(w:World)(d:DD)(h:ib κ g s c w):
 Calls prog 138 #[.pointer (some ⟨g,0,none⟩),.agg d.cs] w fun e w'=>∃E:Int,e= .returned (int i64 E)∧Below w.heap.size w w':=by
 have G:=g' (fun W (hb:Below w.heap.size w W) i=>Gq κ g s c W (h.below hb) i _ rfl);obtain⟨I,K,z,O⟩:=iF w d.cs 70;have S:=h.below z;have T:=g' (ht.of (κ:=κ) z);obtain⟨U,o,Q⟩:=hs O z K;clear O S z K;have aa:=U.all;clear h T;go_enter func138,ntmps138;go_upto_region 1 with(fail)
 rw[Q.out];clear Q;by_cases A:d.k=5
 ·have V:=jU A
  clear A;go_wp2;go_ret;exact⟨_,rfl,o⟩
 have V:=iM A;clear A;go_wp2_with fail;refine hE (G I o _) ?_;obtain⟨X,R⟩:=ho (decide (0≤d.ac∧d.ac<(s.pu.n:Int)));rw[R];clear R;cases X
 ·go_wp2
  go_ret;exact⟨_,rfl,o⟩
 by_cases D:d.k=1
 ·have Y:=jU D
  clear D;go_wp2_with fail;refine hE (G I o _) ?_;obtain⟨J,r⟩:=ho (decide (0≤d.h8∧d.h8<(s.pu.n:Int)));rw[r];clear r;cases J<;>(go_wp2;go_ret;exact⟨_,rfl,o⟩)
 have Y:=iM D;clear D;by_cases F:d.wh=2
 ·have Z:=jU F
  clear F;go_wp2_with fail;refine hE (G I o _) ?_;obtain⟨J,r⟩:=ho (decide (0≤d.h8∧d.h8<(s.pu.n:Int)));rw[r];clear r;cases J<;>(go_wp2;go_ret;exact⟨_,rfl,o⟩)
 have Z:=iM F;clear F;go_wp2;go_ret;exact⟨_,rfl,o⟩
theorem ib.kK{κ:hr}{s:hA}{c:hl}{m:Mem}(h:ib κ g s c w)(o:c.ms[i]?=some m)(D:s.me=⟨some ⟨b,0,none⟩,s.me.n,s.me.c⟩):w.rangeAt b (i*6) m.enc∧w.there b (i*6) 6:=by
 obtain⟨E,r,_,_,_,z⟩:=h.lx o;have F:E=b:=by rw[D]at r;simpa using(congrArg Sl.A r).symm
 subst F;have G:=(jh.1 o).1;exact⟨nH Mem.len z o,oP z (i*6) 6 (by omega)⟩
theorem ib.lO{κ:hr}{s:hA}{c:hl}{m:Mem}(h:ib κ g s c w)(o:c.ms[i]?=some m)(r:s.me=⟨some ⟨b,0,none⟩,s.me.n,s.me.c⟩)(j:Nat)(v:Value)(z:m.enc[j]?=some v):w.cell? ⟨b,i*6+j,none⟩=some v:=(h.kK o r).1 j v z
theorem ib.o7{κ:hr}{s:hA}{c:hl}(h:ib κ g s c w)(o:s.me=⟨some ⟨b,0,none⟩,n,L⟩):w.cell? ⟨g,33,none⟩=some (.slice (some ⟨b,0,none⟩) n L):=h.box.cell (j:=33) (v:= .slice (some ⟨b,0,none⟩) n L) (by show(#[s.me.v]:Array Value)[0]?=_;rw[o];rfl)
def Gs(k:Int):Prop:=k=3∨k=4∨k=7
theorem Gt(κ:hr)(g:Nat)(s:hA)(c:hl)(w:World)(d:DD)(h:ib κ g s c w)(J:0≤d.me)(ao:c.ms.length≤1000000):
 Calls prog 139 #[.pointer (some ⟨g,0,none⟩),.agg d.cs] w fun e w'=>∃E:Int,e= .returned (int i64 E)∧Below w.heap.size w w'∧(E=0→Gs d.k→d.me<(c.ms.length:Int)):=by
 obtain⟨i,am⟩:∃i:Nat,d.me=(i:Int):=⟨d.me.toNat,by omega⟩;have D:=h.kz;obtain⟨A,ap,al,aq⟩:=iF w d.cs 70;have ar:=h.below al;have ax:=g' (ht.of (κ:=κ) al);obtain⟨U,Q,z,au⟩:=h5 aq ar al ap;clear aq ar al ap;have aB:=U.all;obtain⟨W,R⟩:=hg am (And.intro D ao);rw[am];clear h ax J ao am D;go_enter func139,ntmps139;go_upto_region 1 with(fail)
 rw[au.out];clear au;by_cases V:d.k=3
 ·have ay:=jU V
  clear V;go_wp2;refine gZ.iP (fun w'=>ib κ g s c w'∧ha w' w.heap.size 70 d.cs) 14 (by kernel_rfl) (by rintro _ _ (_|_) _ _ h<;>exact h) (⟨Q.below hM,U.drew⟩) fun K o=>?_;refine gZ.tq K 0 (gZ.sq 0 14 false []) (by kernel_rfl) o ?_;iterate 14(refine gZ.t1 rfl rfl (fun w' r=>by try simp only[S3];have Y:=r.2.cell (j:=2) (v:=int i64 (i:Int)) (by rw[←W.out];rfl);have Z:=r.1.box.all;go_simp;try rfl) ?_;try simp only[S4,S3])
  refine gZ.hH (fun o=>?_);clear o;refine gZ.ia rfl ?_;by_cases F:i<s.me.n
  ·have S:decide (s.me.n≤i)=false:=by simp;omega
   obtain⟨m,J⟩:∃m,c.ms[i]?=some m:=⟨_,iB (by rw[←R.1];exact F)⟩;obtain⟨b,G,_⟩:=Q.lx J;rw[←R.1]at G;obtain⟨aa,D⟩:=hk s.me.n;obtain⟨ab,T⟩:=hk s.me.c;obtain⟨ad,ae,af⟩:=hs (show s.me=⟨some ⟨b,0,none⟩,aa,ab⟩ by rw[D,T];exact G) G J;rw[←D]at F S⊢;obtain⟨ag,ah⟩:=hg D F;clear J G D T;go_wp2;refine gZ.iP (fun w'=>ib κ g s c w'∧ha w' w.heap.size 70 d.cs) 13 (by kernel_rfl) (by rintro _ _ (_|_) _ _ h<;>exact h) (⟨(Q.below hM).below hM,U.drew.drew⟩) fun K o=>?_;refine gZ.tq K 0 (gZ.sq 0 13 false []) (by kernel_rfl) o ?_;iterate 13(refine gZ.t1 rfl rfl (fun w' r=>by try simp only[S3];have Y:=r.2.cell (j:=2) (v:=int i64 (i:Int)) (by rw[←W.out];rfl);have Z:=r.2.cell (j:=1) (v:=int i64 d.ac) rfl;have av:=r.1.o7 ad;have aw:=r.1.lO af ae 4 (int i64 m.own) rfl;go_simp;try rfl) ?_;try simp only[S4,S3])
   refine gZ.hH (fun o=>?_);clear o;refine gZ.ia rfl ?_;by_cases I:m.own=d.ac
   ·have O:=jU I
    have ai:(m.own !=d.ac)=false:=by simp[bne,O]
    clear I;go_wp2;go_ret;exact⟨_,rfl,z.trans (((Below.drew hM):Below A.heap.size A _).mono z.size),fun _ _=>by have:=ah.out;have:=R.1;have:=ag.out;omega⟩
   have O:=iM I;have ai:(m.own !=d.ac)=true:=by simp[bne,O]
   clear I;go_wp2;go_ret;exact⟨_,rfl,z.trans (((Below.drew hM):Below A.heap.size A _).mono z.size),fun h=>absurd h (by decide)⟩
  have aj:s.me.n≤i:=by omega
  have S:decide (s.me.n≤i)=true:=by simpa using aj
  clear F;go_wp2;go_ret;exact⟨_,rfl,z.trans ((hM:Below A.heap.size A _).mono z.size),fun h=>absurd h (by decide)⟩
 have ay:=iM V;by_cases X:d.k=4
 ·have az:=jU X
  clear V X;go_wp2;refine gZ.iP (fun w'=>ib κ g s c w'∧ha w' w.heap.size 70 d.cs) 14 (by kernel_rfl) (by rintro _ _ (_|_) _ _ h<;>exact h) (⟨Q.below hM,U.drew⟩) fun K o=>?_;refine gZ.tq K 0 (gZ.sq 0 14 false []) (by kernel_rfl) o ?_;iterate 14(refine gZ.t1 rfl rfl (fun w' r=>by try simp only[S3];have Y:=r.2.cell (j:=2) (v:=int i64 (i:Int)) (by rw[←W.out];rfl);have Z:=r.1.box.all;go_simp;try rfl) ?_;try simp only[S4,S3])
  refine gZ.hH (fun o=>?_);clear o;refine gZ.ia rfl ?_;by_cases F:i<s.me.n
  ·have S:decide (s.me.n≤i)=false:=by simp;omega
   obtain⟨m,J⟩:∃m,c.ms[i]?=some m:=⟨_,iB (by rw[←R.1];exact F)⟩;obtain⟨b,G,_⟩:=Q.lx J;rw[←R.1]at G;obtain⟨aa,D⟩:=hk s.me.n;obtain⟨ab,T⟩:=hk s.me.c;obtain⟨ad,ae,af⟩:=hs (show s.me=⟨some ⟨b,0,none⟩,aa,ab⟩ by rw[D,T];exact G) G J;rw[←D]at F S⊢;obtain⟨ag,ah⟩:=hg D F;clear J G D T;go_wp2;refine gZ.iP (fun w'=>ib κ g s c w'∧ha w' w.heap.size 70 d.cs) 13 (by kernel_rfl) (by rintro _ _ (_|_) _ _ h<;>exact h) (⟨(Q.below hM).below hM,U.drew.drew⟩) fun K o=>?_;refine gZ.tq K 0 (gZ.sq 0 13 false []) (by kernel_rfl) o ?_;iterate 13(refine gZ.t1 rfl rfl (fun w' r=>by try simp only[S3];have Y:=r.2.cell (j:=2) (v:=int i64 (i:Int)) (by rw[←W.out];rfl);have Z:=r.2.cell (j:=1) (v:=int i64 d.ac) rfl;have av:=r.1.o7 ad;have aw:=r.1.lO af ae 4 (int i64 m.own) rfl;go_simp;try rfl) ?_;try simp only[S4,S3])
   refine gZ.hH (fun o=>?_);clear o;refine gZ.ia rfl ?_;by_cases I:m.own=d.ac
   ·have O:=jU I
    have ai:(m.own !=d.ac)=false:=by simp[bne,O]
    clear I;go_wp2;go_ret;exact⟨_,rfl,z.trans (((Below.drew hM):Below A.heap.size A _).mono z.size),fun _ _=>by have:=ah.out;have:=R.1;have:=ag.out;omega⟩
   have O:=iM I;have ai:(m.own !=d.ac)=true:=by simp[bne,O]
   clear I;go_wp2;go_ret;exact⟨_,rfl,z.trans (((Below.drew hM):Below A.heap.size A _).mono z.size),fun h=>absurd h (by decide)⟩
  have aj:s.me.n≤i:=by omega
  have S:decide (s.me.n≤i)=true:=by simpa using aj
  clear F;go_wp2;go_ret;exact⟨_,rfl,z.trans ((hM:Below A.heap.size A _).mono z.size),fun h=>absurd h (by decide)⟩
 have az:=iM X;by_cases ak:d.k=7
 ·have aA:=jU ak
  clear V X ak;go_wp2;refine gZ.iP (fun w'=>ib κ g s c w'∧ha w' w.heap.size 70 d.cs) 14 (by kernel_rfl) (by rintro _ _ (_|_) _ _ h<;>exact h) (⟨Q.below hM,U.drew⟩) fun K o=>?_;refine gZ.tq K 0 (gZ.sq 0 14 false []) (by kernel_rfl) o ?_;iterate 14(refine gZ.t1 rfl rfl (fun w' r=>by try simp only[S3];have Y:=r.2.cell (j:=2) (v:=int i64 (i:Int)) (by rw[←W.out];rfl);have Z:=r.1.box.all;go_simp;try rfl) ?_;try simp only[S4,S3])
  refine gZ.hH (fun o=>?_);clear o;refine gZ.ia rfl ?_;by_cases F:i<s.me.n
  ·have S:decide (s.me.n≤i)=false:=by simp;omega
   obtain⟨m,J⟩:∃m,c.ms[i]?=some m:=⟨_,iB (by rw[←R.1];exact F)⟩;obtain⟨b,G,_⟩:=Q.lx J;rw[←R.1]at G;obtain⟨aa,D⟩:=hk s.me.n;obtain⟨ab,T⟩:=hk s.me.c;obtain⟨ad,ae,af⟩:=hs (show s.me=⟨some ⟨b,0,none⟩,aa,ab⟩ by rw[D,T];exact G) G J;rw[←D]at F S⊢;obtain⟨ag,ah⟩:=hg D F;clear J G D T;go_wp2;refine gZ.iP (fun w'=>ib κ g s c w'∧ha w' w.heap.size 70 d.cs) 13 (by kernel_rfl) (by rintro _ _ (_|_) _ _ h<;>exact h) (⟨(Q.below hM).below hM,U.drew.drew⟩) fun K o=>?_;refine gZ.tq K 0 (gZ.sq 0 13 false []) (by kernel_rfl) o ?_;iterate 13(refine gZ.t1 rfl rfl (fun w' r=>by try simp only[S3];have Y:=r.2.cell (j:=2) (v:=int i64 (i:Int)) (by rw[←W.out];rfl);have Z:=r.2.cell (j:=1) (v:=int i64 d.ac) rfl;have av:=r.1.o7 ad;have aw:=r.1.lO af ae 4 (int i64 m.own) rfl;go_simp;try rfl) ?_;try simp only[S4,S3])
   refine gZ.hH (fun o=>?_);clear o;refine gZ.ia rfl ?_;by_cases I:m.own=d.ac
   ·have O:=jU I
    have ai:(m.own !=d.ac)=false:=by simp[bne,O]
    clear I;go_wp2;go_ret;exact⟨_,rfl,z.trans (((Below.drew hM):Below A.heap.size A _).mono z.size),fun _ _=>by have:=ah.out;have:=R.1;have:=ag.out;omega⟩
   have O:=iM I;have ai:(m.own !=d.ac)=true:=by simp[bne,O]
   clear I;go_wp2;go_ret;exact⟨_,rfl,z.trans (((Below.drew hM):Below A.heap.size A _).mono z.size),fun h=>absurd h (by decide)⟩
  have aj:s.me.n≤i:=by omega
  have S:decide (s.me.n≤i)=true:=by simpa using aj
  clear F;go_wp2;go_ret;exact⟨_,rfl,z.trans ((hM:Below A.heap.size A _).mono z.size),fun h=>absurd h (by decide)⟩
 have aA:=iM ak;have an:=g' (And.intro V (And.intro X ak));clear V X ak;go_wp2;go_ret;exact⟨_,rfl,z,fun _ h=>by rcases h with h|h|h;exact absurd h an.1;exact absurd h an.2.1;exact absurd h an.2.2⟩
end hB
end Go.Proofs.YtffbipddbnkdjaaGreat
