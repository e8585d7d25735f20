/- What functions compute at any arguments, and plain facts: bullionref07.Ticks comes to an end; bullionref07.Right comes to an end; Steps through a region that draws no order, one operation at a time; The walks of the supply, sixth part: Mint, Burn. Conditions: those that each theorem names. -/
import Derived.Test.YtffbipddbnkdjaaGreatZ06
import Derived.Test.YtffbipddbnkdjaaGreatZ08
import Derived.Deep.Cut
set_option maxRecDepth 100000
set_option maxHeartbeats 40000000
set_option linter.all false
open Go Go.Proofs.Tryz
open Go.Value(int)
open Go.IntKind(i64 u64)
variable{A T:Option Addr}{n g b L k B i x a m j q c p s r d h u N y:Nat}{E z:Int}{P:Program}{w W X Z:World}{e t:TypeId}{f:Nat→Value}{l:List Bool}{V U:Value}{Y:List Nat}{S:List Value}{R:List Int}{Q:Array Value}{O:List (List Nat)}{M:Bool}{K:Ending}{J:Addr}{I:Nat→Nat}{H:Option Nat}
namespace Go.Proofs.YtffbipddbnkdjaaGreat
namespace hB
open RowKit
open hG hf hU kd
def mV(o:World)(N:Nat)(v:Value)(w:World):Prop:=∃g A n c,v= .pointer (some ⟨g,0,none⟩)∧o.heap.size≤g∧ha w g 280 #[.slice A n c]∧kf o.heap.size w (.agg #[.slice A n c]) N∧Below o.heap.size o w
theorem mV.mk{w':World}(z:W.heap.size≤g)(E:ha w g 280 Q)(F:Q= #[.slice none 0 0])(G:kf b w (.agg #[.slice A n c]) N)(I:W.heap.size≤b)(J:0<n→∀r,A=some r→r.block≠g)(K:Below W.heap.size W w)(O:w'=w.setCell ⟨g,0,none⟩ (.slice A n c)):mV W N (.pointer (some ⟨g,0,none⟩)) w':=by
 subst O F;refine⟨g,A,n,c,rfl,z,E.set 0 _,?_,K.setCell z _⟩;obtain⟨V,n',c',ds,o,R,D,S,T,U⟩:=G;injection o with o;have o:=congrArg (fun x:Array Value=>x[0]?) o;simp at o;obtain⟨rfl,rfl,rfl⟩:=o;exact⟨A,n,c,ds,rfl,R,⟨D.1,by
  rw[World.size_setCell];rcases Nat.eq_zero_or_pos n with e|e
  ·rw[e];exact Rd.nil
  exact D.2.set (J e) _⟩,S,T,fun r e=>Nat.le_trans I (U r e)⟩
theorem yf{x:Value}(h:ha w g t #[x]){v:Value}(o:[x][j]?=some v):w.cell? ⟨g,0+j,none⟩=some v:=by rw[Nat.zero_add];exact h.cell (by simpa using o)
theorem kf.lo{lo:Nat}(h:kf lo w (.agg #[.slice A n c]) N)(r:Addr)(e:A=some r):lo≤r.block:=by
 obtain⟨D,n',c',ds,o,E,F,G,I,z⟩:=h;injection o with o;have o:=congrArg (fun x:Array Value=>x[0]?) o;simp at o;obtain⟨rfl,rfl,rfl⟩:=o;exact z r e
theorem kf.hi(h:kf g w (.agg #[.slice A n c]) N)(D:0<n)(r:Addr)(e:A=some r):r.block<w.heap.size:=by
 obtain⟨G,n',c',ds,o,I,E,J,K,O⟩:=h;injection o with o;have o:=congrArg (fun x:Array Value=>x[0]?) o;simp at o;obtain⟨rfl,rfl,rfl⟩:=o;obtain⟨Q,z,F,_⟩:=E.2 0 D;rw[e]at z;cases z;exact F
theorem Ea(p:hx)(b2:p.jE)(E:p.inc≤2147483648)(F:p.ih≤4294967296)(w:World):Calls prog 148 #[.agg p.cs] w fun e w'=>∃t:Nat,e= .returned (.int .u64 t)∧t≤1048577∧Below w.heap.size w w':=by
 obtain⟨D,b3,c6,c7⟩:=iF w p.cs 110;obtain⟨ak,c8,b4,be,b5,bf,ac,aE⟩:=mI (show w.heap.size+1=D.heap.size by rw[←b3];simp) b3 c6 (And.intro c7 (Below.refl D.heap.size D)) (fun W=>rm p.inc b2.inc W) (fun W=>rm p.ih b2.ih W) (Sm.of (N:=p.inc) (by omega)) (Sm.of (N:=p.ih) (by omega));obtain⟨aa,e8,b6⟩:∃aa:Nat,IntKind.u64.wrap (2*(p.quot:Int))=(aa:Int)∧aa<18446744073709551616:=rN _;obtain⟨ab,e9,b7⟩:∃ab:Nat,IntKind.u64.wrap ((p.cap:Int) -(p.floor:Int))=(ab:Int)∧ab<18446744073709551616:=rN _;obtain⟨b8,bg,aF,aG,c9,ei⟩:=ku (fun W=>rm aa b6 W) (fun W=>rm ab b7 W) (Sm.of (N:=aa) (by omega)) (Sm.of (N:=ab) (by omega)) (show p.inc*p.ih≤9223372036854775808 from Nat.le_trans (Nat.mul_le_mul E F) (by decide)) (Sm.of (N:=aa*ab) (Nat.le_trans (Nat.mul_le_mul (Nat.le_of_lt b6) (Nat.le_of_lt b7)) (by decide)));clear c6 c7 b3 b2 E F b6 b7;go_enter func148,ntmps148;go_upto_region 1 with(fail)
 rw[c8.out];clear c8;go_cut [3] (fun ej A=>mV D (p.inc*p.ih) ej A)
 case first=>
  refine gZ.iP (fun w'=>ha w' w.heap.size 110 p.cs∧Below D.heap.size D w') 9 (by kernel_rfl) (by rintro _ _ (_|_) _ _ h<;>exact h) (⟨be.1.drew,Below.drew be.2⟩) fun al o=>?_;refine gZ.tq al 5 (gZ.sq 0 2 false (gZ.sq 3 2 false [])) (by kernel_rfl) o ?_;iterate 4(refine gZ.t1 rfl rfl (fun w' T=>by try simp only[S3];have ek:=T.1.all;go_simp;try rfl) ?_;try simp only[S4,S3])
  refine gZ.hH (fun o=>?_);refine gZ.lN 2 7 (n:=4) rfl rfl rfl (by kernel_rfl) (fun K r=>?_) (fun K r=>?_);focus
   (try simp only[S3])
   go_simp;refine(b5.out _).mono ?_;rintro e I ⟨e',rfl,b9,b'⟩;obtain⟨fa,fb,fc,rfl⟩:=b9.form;have U:Hid (ha I w.heap.size 110 p.cs∧Below D.heap.size D I):=g' ⟨(o.1).1.to b',(o.1).2.trans (b'.mono (o.1).2.size)⟩;obtain⟨fd,da⟩:=hg (show D.heap.size≤D.heap.size from(o.1).2.size) b9;clear b9 b';refine r.out _ _ U trivial (fun o=>?_);(try simp only[S4,S3])
   refine gZ.lN 5 7 (n:=3) rfl rfl rfl (by kernel_rfl) (fun K r=>?_) (fun K r=>?_);focus
    (try simp only[S3])
    go_simp;refine(bf.out _).mono ?_;rintro e J ⟨fe,rfl,ca,bh⟩;obtain⟨ff,fg,fh,rfl⟩:=ca.form;have V:Hid (ha J w.heap.size 110 p.cs∧Below D.heap.size D J):=g' ⟨U.1.to bh,U.2.trans (bh.mono U.2.size)⟩;obtain⟨cb,fi,cc⟩:=hs (da.to bh) (show D.heap.size≤I.heap.size from U.2.size) ca;clear ca bh;refine r.out _ _ V trivial (fun o=>?_);(try simp only[S4,S3])
    refine gZ.lN 6 7 (n:=2) rfl rfl rfl (by kernel_rfl) (fun K r=>?_) (fun K r=>?_);focus
     (try simp only[S3])
     go_simp;refine(oj _ _ _ _ _ cb.out cc.out ac aE).mono ?_;rintro e R ⟨fj,rfl,cd,aH⟩;obtain⟨fk,fl,fm,rfl⟩:=cd.form;have aI:Hid (ha R w.heap.size 110 p.cs∧Below D.heap.size D R):=g' ⟨V.1.to aH,V.2.trans (aH.mono V.2.size)⟩;obtain⟨el,em,en,db⟩:=h5 (cb.to aH) (cc.to aH) (show D.heap.size≤J.heap.size from V.2.size) cd;clear cd aH;refine r.out _ _ aI trivial (fun o=>?_);(try simp only[S4,S3])
     refine gZ.hY 7 (n:=1) rfl rfl (by kernel_rfl) (fun K r=>?_);(try simp only[S3])
     go_simp;have ad:Below R.heap.size R (R.alloc (.cells #[.slice none 0 0] 280)):=hz.alloc hj _;have bi:ha (R.alloc (.cells #[.slice none 0 0] 280)) R.heap.size 280 #[.slice none 0 0]:=ha.new R _ _ _ rfl;obtain⟨dc,dd⟩:=ho (R.alloc (.cells #[.slice none 0 0] 280));rw[dd]at ad bi⊢;obtain⟨bj,aJ⟩:=hk R.heap.size;have de:D.heap.size≤bj:=by rw[aJ];exact aI.2.size
     rw[←aJ]at bi;have eo:=g' aJ;have bk:Hid (ha dc w.heap.size 110 p.cs∧Below D.heap.size D dc):=g' ⟨aI.1.to ad,aI.2.trans (ad.mono aI.2.size)⟩;obtain⟨fn,fo,ep,ce,cf⟩:=jg (el.to ad) (em.to ad) (db.to ad) bi de;try rw[←aJ]
     clear ad bi dd de aJ;refine r.out _ _ bk trivial (fun o=>?_);(try simp only[S4,S3])
     refine gZ.hY 8 (n:=0) rfl rfl (by kernel_rfl) (fun K r=>?_);(try simp only[S3])
     have ae:=ce.all;have af:=ce.frozen 0;go_simp;refine r.out _ _ (⟨bk.1.other (a:=⟨bj,0,none⟩) (show w.heap.size≠bj from by have E:=cf.out;have F:=ak.out;omega) _,bk.2.setCell (p:=⟨bj,0,none⟩) cf _⟩) trivial (fun o=>?_);clear o;refine gZ.ia (by kernel_rfl) ?_;go_wp2_with fail;go_meet;exact mV.mk cf ce rfl ep en (fun X G e=>by have E:=kf.hi db X G e;have F:=eo.out;omega) bk.2 rfl
    rotate_left;focus
     (try simp only[S3])
     go_simp;have am:Below J.heap.size J (J.alloc (.cells #[.slice none 0 0] 280)):=hz.alloc hj _;have bl:ha (J.alloc (.cells #[.slice none 0 0] 280)) J.heap.size 280 #[.slice none 0 0]:=ha.new J _ _ _ rfl;obtain⟨bm,df⟩:=ho (J.alloc (.cells #[.slice none 0 0] 280));rw[df]at am bl⊢;obtain⟨aK,bn⟩:=hk J.heap.size;have dg:D.heap.size≤aK:=by rw[bn];exact V.2.size
     rw[←bn]at bl;have aL:Hid (ha bm w.heap.size 110 p.cs∧Below D.heap.size D bm):=g' ⟨V.1.to am,V.2.trans (am.mono V.2.size)⟩;obtain⟨dh,di,dj,cg⟩:=h5 (cb.to am) (cc.to am) bl dg;try rw[←bn]
     clear am bl df dg bn;refine r.out _ _ aL trivial (fun o=>?_);(try simp only[S4,S3])
     refine gZ.hY 6 (n:=1) rfl rfl (by kernel_rfl) (fun K r=>?_);(try simp only[S3])
     go_simp;refine(oj _ _ _ _ _ dh.out di.out ac aE).mono ?_;rintro e dk ⟨fp,rfl,ch,an⟩;obtain⟨fq,fr,fs,rfl⟩:=ch.form;have bo:Hid (ha dk w.heap.size 110 p.cs∧Below D.heap.size D dk):=g' ⟨aL.1.to an,aL.2.trans (an.mono aL.2.size)⟩;obtain⟨ft,fu,ci,eq,dl,er⟩:=ku (dh.to an) (di.to an) (dj.to an) (show D.heap.size≤bm.heap.size from aL.2.size) ch (show aK<bm.heap.size from dj.lt);clear ch an;refine r.out _ _ bo trivial (fun o=>?_);(try simp only[S4,S3])
     refine gZ.hY 8 (n:=0) rfl rfl (by kernel_rfl) (fun K r=>?_);(try simp only[S3])
     have ae:=ci.all;have af:=ci.frozen 0;go_simp;refine r.out _ _ (⟨bo.1.other (a:=⟨aK,0,none⟩) (show w.heap.size≠aK from by have E:=cg.out;have F:=ak.out;omega) _,bo.2.setCell (p:=⟨aK,0,none⟩) cg _⟩) trivial (fun o=>?_);clear o;refine gZ.ia (by kernel_rfl) ?_;go_wp2_with fail;go_meet;exact mV.mk cg ci rfl dl eq (fun X G e=>by have E:=kf.lo dl G e;have F:=er.out;omega) bo.2 rfl
    rotate_left
   rotate_left;focus
    (try simp only[S3])
    go_simp;have aM:Below I.heap.size I (I.alloc (.cells #[.slice none 0 0] 280)):=hz.alloc hj _;have bp:ha (I.alloc (.cells #[.slice none 0 0] 280)) I.heap.size 280 #[.slice none 0 0]:=ha.new I _ _ _ rfl;obtain⟨cj,dm⟩:=ho (I.alloc (.cells #[.slice none 0 0] 280));rw[dm]at aM bp⊢;obtain⟨aN,bq⟩:=hk I.heap.size;have dn:D.heap.size≤aN:=by rw[bq];exact U.2.size
    rw[←bq]at bp;have aO:Hid (ha cj w.heap.size 110 p.cs∧Below D.heap.size D cj):=g' ⟨U.1.to aM,U.2.trans (aM.mono U.2.size)⟩;obtain⟨et,eu,ck⟩:=hs (da.to aM) bp dn;try rw[←bq]
    clear aM bp dm dn bq;refine r.out _ _ aO trivial (fun o=>?_);(try simp only[S4,S3])
    refine gZ.hY 5 (n:=2) rfl rfl (by kernel_rfl) (fun K r=>?_);(try simp only[S3])
    go_simp;refine(bf.out _).mono ?_;rintro e br ⟨fv,rfl,cl,aP⟩;obtain⟨fw,fx,fy,rfl⟩:=cl.form;have aQ:Hid (ha br w.heap.size 110 p.cs∧Below D.heap.size D br):=g' ⟨aO.1.to aP,aO.2.trans (aP.mono aO.2.size)⟩;obtain⟨dp,dq,fz,dr⟩:=h5 (et.to aP) (eu.to aP) (show D.heap.size≤cj.heap.size from aO.2.size) cl;clear cl aP;refine r.out _ _ aQ trivial (fun o=>?_);(try simp only[S4,S3])
    refine gZ.hY 6 (n:=1) rfl rfl (by kernel_rfl) (fun K r=>?_);(try simp only[S3])
    go_simp;refine(oj _ _ _ _ _ dp.out dr.out ac aE).mono ?_;rintro e dt ⟨fA,rfl,cm,ao⟩;obtain⟨fB,fC,fD,rfl⟩:=cm.form;have bt:Hid (ha dt w.heap.size 110 p.cs∧Below D.heap.size D dt):=g' ⟨aQ.1.to ao,aQ.2.trans (ao.mono aQ.2.size)⟩;obtain⟨fE,fF,cn,ev,du,ew⟩:=ku (dp.to ao) (dr.to ao) (dq.to ao) (show D.heap.size≤br.heap.size from aQ.2.size) cm (show aN<br.heap.size from dq.lt);clear cm ao;refine r.out _ _ bt trivial (fun o=>?_);(try simp only[S4,S3])
    refine gZ.hY 8 (n:=0) rfl rfl (by kernel_rfl) (fun K r=>?_);(try simp only[S3])
    have ae:=cn.all;have af:=cn.frozen 0;go_simp;refine r.out _ _ (⟨bt.1.other (a:=⟨aN,0,none⟩) (show w.heap.size≠aN from by have E:=ck.out;have F:=ak.out;omega) _,bt.2.setCell (p:=⟨aN,0,none⟩) ck _⟩) trivial (fun o=>?_);clear o;refine gZ.ia (by kernel_rfl) ?_;go_wp2_with fail;go_meet;exact mV.mk ck cn rfl du ev (fun X G e=>by have E:=kf.lo du G e;have F:=ew.out;omega) bt.2 rfl
   rotate_left
  rotate_left;focus
   (try simp only[S3])
   go_simp;rw[show(D.alloc (.cells #[.slice none 0 0] 280)).drew=D.drew.alloc (.cells #[.slice none 0 0] 280)from rfl];have bu:Below D.drew.heap.size D.drew (D.drew.alloc (.cells #[.slice none 0 0] 280)):=hz.alloc hj _;have bv:ha (D.drew.alloc (.cells #[.slice none 0 0] 280)) D.heap.size 280 #[.slice none 0 0]:=ha.new D.drew _ _ _ rfl;obtain⟨co,dv⟩:=ho (D.drew.alloc (.cells #[.slice none 0 0] 280));rw[dv]at bu bv⊢;obtain⟨aR,bw⟩:=hk D.heap.size;have dw:D.heap.size≤aR:=by rw[bw];exact(o.1).2.size
   rw[←bw]at bv;have aS:Hid (ha co w.heap.size 110 p.cs∧Below D.heap.size D co):=g' ⟨(o.1).1.to bu,(o.1).2.trans (bu.mono (o.1).2.size)⟩;obtain⟨ex,cp⟩:=hg bv dw;try rw[←bw]
   clear bu bv dv dw bw;refine r.out _ _ aS trivial (fun o=>?_);(try simp only[S4,S3])
   refine gZ.hY 2 (n:=3) rfl rfl (by kernel_rfl) (fun K r=>?_);(try simp only[S3])
   go_simp;refine(b5.out _).mono ?_;rintro e cq ⟨fG,rfl,cr,bx⟩;obtain⟨fH,fI,fJ,rfl⟩:=cr.form;have aT:Hid (ha cq w.heap.size 110 p.cs∧Below D.heap.size D cq):=g' ⟨aS.1.to bx,aS.2.trans (bx.mono aS.2.size)⟩;obtain⟨ey,fK,ez⟩:=hs (ex.to bx) (show D.heap.size≤co.heap.size from aS.2.size) cr;clear cr bx;refine r.out _ _ aT trivial (fun o=>?_);(try simp only[S4,S3])
   refine gZ.hY 5 (n:=2) rfl rfl (by kernel_rfl) (fun K r=>?_);(try simp only[S3])
   go_simp;refine(bf.out _).mono ?_;rintro e bz ⟨fL,rfl,ct,aU⟩;obtain⟨fM,fN,fO,rfl⟩:=ct.form;have aV:Hid (ha bz w.heap.size 110 p.cs∧Below D.heap.size D bz):=g' ⟨aT.1.to aU,aT.2.trans (aU.mono aT.2.size)⟩;obtain⟨dx,dy,fP,dz⟩:=h5 (ez.to aU) (ey.to aU) (show D.heap.size≤cq.heap.size from aT.2.size) ct;clear ct aU;refine r.out _ _ aV trivial (fun o=>?_);(try simp only[S4,S3])
   refine gZ.hY 6 (n:=1) rfl rfl (by kernel_rfl) (fun K r=>?_);(try simp only[S3])
   go_simp;refine(oj _ _ _ _ _ dx.out dz.out ac aE).mono ?_;rintro e dA ⟨fQ,rfl,cu,ap⟩;obtain⟨fR,fS,fT,rfl⟩:=cu.form;have bA:Hid (ha dA w.heap.size 110 p.cs∧Below D.heap.size D dA):=g' ⟨aV.1.to ap,aV.2.trans (ap.mono aV.2.size)⟩;obtain⟨fU,fV,cv,eA,dB,eB⟩:=ku (dx.to ap) (dz.to ap) (dy.to ap) (show D.heap.size≤bz.heap.size from aV.2.size) cu (show aR<bz.heap.size from dy.lt);clear cu ap;refine r.out _ _ bA trivial (fun o=>?_);(try simp only[S4,S3])
   refine gZ.hY 8 (n:=0) rfl rfl (by kernel_rfl) (fun K r=>?_);(try simp only[S3])
   have ae:=cv.all;have af:=cv.frozen 0;go_simp;refine r.out _ _ (⟨bA.1.other (a:=⟨aR,0,none⟩) (show w.heap.size≠aR from by have E:=cp.out;have F:=ak.out;omega) _,bA.2.setCell (p:=⟨aR,0,none⟩) cp _⟩) trivial (fun o=>?_);clear o;refine gZ.ia (by kernel_rfl) ?_;go_wp2_with fail;go_meet;exact mV.mk cp cv rfl dB eA (fun X G e=>by have E:=kf.lo dB G e;have F:=eB.out;omega) bA.2 rfl
  rotate_left
 case rest=>
  obtain⟨A,rfl⟩:∃A:World,A=wc:=⟨_,rfl⟩;have eC:=g' hcut;obtain⟨aW,aq,ar,au,rfl,dC,dD,dE,bB⟩:=hcut;obtain⟨dF,dG,fW,cw,dH,bC⟩:=ku dD dE dC (kY (be.1.below bB (by have:=ak.out;omega)) (Below.refl A.heap.size A)) bB (show w.heap.size+1≤A.heap.size from by have E:=ak.out;have F:=bB.size;omega);clear dD dE dC bB b5 bf ac aE be;go_upto_region 2 with(fail)
  go_cut [4] (fun eD av=>mV A (aa*ab) eD av)
  case first=>
   refine gZ.iP (fun w'=>ha w' w.heap.size 110 p.cs∧Below A.heap.size A w') 13 (by kernel_rfl) (by rintro _ _ (_|_) _ _ h<;>exact h) (⟨cw.1.drew,Below.drew cw.2⟩) fun al o=>?_;refine gZ.tq al 5 (gZ.sq 0 3 false (gZ.sq 4 5 false [])) (by kernel_rfl) o ?_;iterate 8(refine gZ.t1 rfl rfl (fun w' T=>by try simp only[S3];have ek:=T.1.all;go_simp;try rfl) ?_;try simp only[S4,S3])
   refine gZ.hH (fun o=>?_);refine gZ.lN 3 11 (n:=4) rfl rfl rfl (by kernel_rfl) (fun K r=>?_) (fun K r=>?_);focus
    (try simp only[S3])
    go_simp;refine(b8.out _).mono ?_;rintro e O ⟨fX,rfl,cx,cy⟩;obtain⟨fY,fZ,f0,rfl⟩:=cx.form;have Y:Hid (ha O w.heap.size 110 p.cs∧Below A.heap.size A O):=g' ⟨(o.1).1.to cy,(o.1).2.trans (cy.mono (o.1).2.size)⟩;obtain⟨f1,dI⟩:=hg (show A.heap.size≤A.heap.size from(o.1).2.size) cx;clear cx cy;refine r.out _ _ Y trivial (fun o=>?_);(try simp only[S4,S3])
    refine gZ.lN 9 11 (n:=3) rfl rfl rfl (by kernel_rfl) (fun K r=>?_) (fun K r=>?_);focus
     (try simp only[S3])
     go_simp;refine(bg.out _).mono ?_;rintro e Q ⟨f2,rfl,cz,bD⟩;obtain⟨f3,f4,f5,rfl⟩:=cz.form;have Z:Hid (ha Q w.heap.size 110 p.cs∧Below A.heap.size A Q):=g' ⟨Y.1.to bD,Y.2.trans (bD.mono Y.2.size)⟩;obtain⟨cA,f6,cB⟩:=hs (dI.to bD) (show A.heap.size≤O.heap.size from Y.2.size) cz;clear cz bD;refine r.out _ _ Z trivial (fun o=>?_);(try simp only[S4,S3])
     refine gZ.lN 10 11 (n:=2) rfl rfl rfl (by kernel_rfl) (fun K r=>?_) (fun K r=>?_);focus
      (try simp only[S3])
      go_simp;refine(oj _ _ _ _ _ cA.out cB.out aF aG).mono ?_;rintro e S ⟨f7,rfl,cC,aX⟩;obtain⟨f8,f9,f',rfl⟩:=cC.form;have aY:Hid (ha S w.heap.size 110 p.cs∧Below A.heap.size A S):=g' ⟨Z.1.to aX,Z.2.trans (aX.mono Z.2.size)⟩;obtain⟨eE,eF,eG,dJ⟩:=h5 (cA.to aX) (cB.to aX) (show A.heap.size≤Q.heap.size from Z.2.size) cC;clear cC aX;refine r.out _ _ aY trivial (fun o=>?_);(try simp only[S4,S3])
      refine gZ.hY 11 (n:=1) rfl rfl (by kernel_rfl) (fun K r=>?_);(try simp only[S3])
      go_simp;have ag:Below S.heap.size S (S.alloc (.cells #[.slice none 0 0] 280)):=hz.alloc hj _;have bE:ha (S.alloc (.cells #[.slice none 0 0] 280)) S.heap.size 280 #[.slice none 0 0]:=ha.new S _ _ _ rfl;obtain⟨dK,dL⟩:=ho (S.alloc (.cells #[.slice none 0 0] 280));rw[dL]at ag bE⊢;obtain⟨bF,aZ⟩:=hk S.heap.size;have dM:A.heap.size≤bF:=by rw[aZ];exact aY.2.size
      rw[←aZ]at bE;have eH:=g' aZ;have bG:Hid (ha dK w.heap.size 110 p.cs∧Below A.heap.size A dK):=g' ⟨aY.1.to ag,aY.2.trans (ag.mono aY.2.size)⟩;obtain⟨ga,gb,eI,cD,cE⟩:=jg (eE.to ag) (eF.to ag) (dJ.to ag) bE dM;try rw[←aZ]
      clear ag bE dL dM aZ;refine r.out _ _ bG trivial (fun o=>?_);(try simp only[S4,S3])
      refine gZ.hY 12 (n:=0) rfl rfl (by kernel_rfl) (fun K r=>?_);(try simp only[S3])
      have ae:=cD.all;have af:=cD.frozen 0;go_simp;refine r.out _ _ (⟨bG.1.other (a:=⟨bF,0,none⟩) (show w.heap.size≠bF from by have E:=cE.out;have F:=bC.out;omega) _,bG.2.setCell (p:=⟨bF,0,none⟩) cE _⟩) trivial (fun o=>?_);clear o;refine gZ.ia (by kernel_rfl) ?_;go_wp2_with fail;go_meet;exact mV.mk cE cD rfl eI eG (fun X G e=>by have E:=kf.hi dJ X G e;have F:=eH.out;omega) bG.2 rfl
     rotate_left;focus
      (try simp only[S3])
      go_simp;have aw:Below Q.heap.size Q (Q.alloc (.cells #[.slice none 0 0] 280)):=hz.alloc hj _;have bH:ha (Q.alloc (.cells #[.slice none 0 0] 280)) Q.heap.size 280 #[.slice none 0 0]:=ha.new Q _ _ _ rfl;obtain⟨bI,dN⟩:=ho (Q.alloc (.cells #[.slice none 0 0] 280));rw[dN]at aw bH⊢;obtain⟨a0,bJ⟩:=hk Q.heap.size;have dO:A.heap.size≤a0:=by rw[bJ];exact Z.2.size
      rw[←bJ]at bH;have a1:Hid (ha bI w.heap.size 110 p.cs∧Below A.heap.size A bI):=g' ⟨Z.1.to aw,Z.2.trans (aw.mono Z.2.size)⟩;obtain⟨dP,dQ,dR,cF⟩:=h5 (cA.to aw) (cB.to aw) bH dO;try rw[←bJ]
      clear aw bH dN dO bJ;refine r.out _ _ a1 trivial (fun o=>?_);(try simp only[S4,S3])
      refine gZ.hY 10 (n:=1) rfl rfl (by kernel_rfl) (fun K r=>?_);(try simp only[S3])
      go_simp;refine(oj _ _ _ _ _ dP.out dQ.out aF aG).mono ?_;rintro e dS ⟨gc,rfl,cG,ax⟩;obtain⟨gd,ge,gg,rfl⟩:=cG.form;have bK:Hid (ha dS w.heap.size 110 p.cs∧Below A.heap.size A dS):=g' ⟨a1.1.to ax,a1.2.trans (ax.mono a1.2.size)⟩;obtain⟨gh,gi,cH,eJ,dT,eK⟩:=ku (dP.to ax) (dQ.to ax) (dR.to ax) (show A.heap.size≤bI.heap.size from a1.2.size) cG (show a0<bI.heap.size from dR.lt);clear cG ax;refine r.out _ _ bK trivial (fun o=>?_);(try simp only[S4,S3])
      refine gZ.hY 12 (n:=0) rfl rfl (by kernel_rfl) (fun K r=>?_);(try simp only[S3])
      have ae:=cH.all;have af:=cH.frozen 0;go_simp;refine r.out _ _ (⟨bK.1.other (a:=⟨a0,0,none⟩) (show w.heap.size≠a0 from by have E:=cF.out;have F:=bC.out;omega) _,bK.2.setCell (p:=⟨a0,0,none⟩) cF _⟩) trivial (fun o=>?_);clear o;refine gZ.ia (by kernel_rfl) ?_;go_wp2_with fail;go_meet;exact mV.mk cF cH rfl dT eJ (fun X G e=>by have E:=kf.lo dT G e;have F:=eK.out;omega) bK.2 rfl
     rotate_left
    rotate_left;focus
     (try simp only[S3])
     go_simp;have a2:Below O.heap.size O (O.alloc (.cells #[.slice none 0 0] 280)):=hz.alloc hj _;have bL:ha (O.alloc (.cells #[.slice none 0 0] 280)) O.heap.size 280 #[.slice none 0 0]:=ha.new O _ _ _ rfl;obtain⟨cI,dU⟩:=ho (O.alloc (.cells #[.slice none 0 0] 280));rw[dU]at a2 bL⊢;obtain⟨a3,bM⟩:=hk O.heap.size;have dV:A.heap.size≤a3:=by rw[bM];exact Y.2.size
     rw[←bM]at bL;have a4:Hid (ha cI w.heap.size 110 p.cs∧Below A.heap.size A cI):=g' ⟨Y.1.to a2,Y.2.trans (a2.mono Y.2.size)⟩;obtain⟨eL,eM,cJ⟩:=hs (dI.to a2) bL dV;try rw[←bM]
     clear a2 bL dU dV bM;refine r.out _ _ a4 trivial (fun o=>?_);(try simp only[S4,S3])
     refine gZ.hY 9 (n:=2) rfl rfl (by kernel_rfl) (fun K r=>?_);(try simp only[S3])
     go_simp;refine(bg.out _).mono ?_;rintro e bN ⟨gj,rfl,cK,a5⟩;obtain⟨gk,gl,gm,rfl⟩:=cK.form;have a6:Hid (ha bN w.heap.size 110 p.cs∧Below A.heap.size A bN):=g' ⟨a4.1.to a5,a4.2.trans (a5.mono a4.2.size)⟩;obtain⟨dW,dX,gn,dY⟩:=h5 (eL.to a5) (eM.to a5) (show A.heap.size≤cI.heap.size from a4.2.size) cK;clear cK a5;refine r.out _ _ a6 trivial (fun o=>?_);(try simp only[S4,S3])
     refine gZ.hY 10 (n:=1) rfl rfl (by kernel_rfl) (fun K r=>?_);(try simp only[S3])
     go_simp;refine(oj _ _ _ _ _ dW.out dY.out aF aG).mono ?_;rintro e dZ ⟨go,rfl,cL,ay⟩;obtain⟨gp,gq,gr,rfl⟩:=cL.form;have bO:Hid (ha dZ w.heap.size 110 p.cs∧Below A.heap.size A dZ):=g' ⟨a6.1.to ay,a6.2.trans (ay.mono a6.2.size)⟩;obtain⟨gs,gt,cM,eN,d0,eO⟩:=ku (dW.to ay) (dY.to ay) (dX.to ay) (show A.heap.size≤bN.heap.size from a6.2.size) cL (show a3<bN.heap.size from dX.lt);clear cL ay;refine r.out _ _ bO trivial (fun o=>?_);(try simp only[S4,S3])
     refine gZ.hY 12 (n:=0) rfl rfl (by kernel_rfl) (fun K r=>?_);(try simp only[S3])
     have ae:=cM.all;have af:=cM.frozen 0;go_simp;refine r.out _ _ (⟨bO.1.other (a:=⟨a3,0,none⟩) (show w.heap.size≠a3 from by have E:=cJ.out;have F:=bC.out;omega) _,bO.2.setCell (p:=⟨a3,0,none⟩) cJ _⟩) trivial (fun o=>?_);clear o;refine gZ.ia (by kernel_rfl) ?_;go_wp2_with fail;go_meet;exact mV.mk cJ cM rfl d0 eN (fun X G e=>by have E:=kf.lo d0 G e;have F:=eO.out;omega) bO.2 rfl
    rotate_left
   rotate_left;focus
    (try simp only[S3])
    go_simp;rw[show(A.alloc (.cells #[.slice none 0 0] 280)).drew=A.drew.alloc (.cells #[.slice none 0 0] 280)from rfl];have bP:Below A.drew.heap.size A.drew (A.drew.alloc (.cells #[.slice none 0 0] 280)):=hz.alloc hj _;have bQ:ha (A.drew.alloc (.cells #[.slice none 0 0] 280)) A.heap.size 280 #[.slice none 0 0]:=ha.new A.drew _ _ _ rfl;obtain⟨cN,d1⟩:=ho (A.drew.alloc (.cells #[.slice none 0 0] 280));rw[d1]at bP bQ⊢;obtain⟨a7,bR⟩:=hk A.heap.size;have d2:A.heap.size≤a7:=by rw[bR];exact(o.1).2.size
    rw[←bR]at bQ;have a8:Hid (ha cN w.heap.size 110 p.cs∧Below A.heap.size A cN):=g' ⟨(o.1).1.to bP,(o.1).2.trans (bP.mono (o.1).2.size)⟩;obtain⟨eP,cO⟩:=hg bQ d2;try rw[←bR]
    clear bP bQ d1 d2 bR;refine r.out _ _ a8 trivial (fun o=>?_);(try simp only[S4,S3])
    refine gZ.hY 3 (n:=3) rfl rfl (by kernel_rfl) (fun K r=>?_);(try simp only[S3])
    go_simp;refine(b8.out _).mono ?_;rintro e cP ⟨gu,rfl,cQ,bS⟩;obtain⟨gv,gw,gx,rfl⟩:=cQ.form;have a9:Hid (ha cP w.heap.size 110 p.cs∧Below A.heap.size A cP):=g' ⟨a8.1.to bS,a8.2.trans (bS.mono a8.2.size)⟩;obtain⟨eQ,gy,eR⟩:=hs (eP.to bS) (show A.heap.size≤cN.heap.size from a8.2.size) cQ;clear cQ bS;refine r.out _ _ a9 trivial (fun o=>?_);(try simp only[S4,S3])
    refine gZ.hY 9 (n:=2) rfl rfl (by kernel_rfl) (fun K r=>?_);(try simp only[S3])
    go_simp;refine(bg.out _).mono ?_;rintro e bT ⟨gz,rfl,cR,a'⟩;obtain⟨gA,gB,gC,rfl⟩:=cR.form;have ba:Hid (ha bT w.heap.size 110 p.cs∧Below A.heap.size A bT):=g' ⟨a9.1.to a',a9.2.trans (a'.mono a9.2.size)⟩;obtain⟨d3,d4,gD,d5⟩:=h5 (eR.to a') (eQ.to a') (show A.heap.size≤cP.heap.size from a9.2.size) cR;clear cR a';refine r.out _ _ ba trivial (fun o=>?_);(try simp only[S4,S3])
    refine gZ.hY 10 (n:=1) rfl rfl (by kernel_rfl) (fun K r=>?_);(try simp only[S3])
    go_simp;refine(oj _ _ _ _ _ d3.out d5.out aF aG).mono ?_;rintro e d6 ⟨gE,rfl,cS,az⟩;obtain⟨gF,gG,gH,rfl⟩:=cS.form;have bU:Hid (ha d6 w.heap.size 110 p.cs∧Below A.heap.size A d6):=g' ⟨ba.1.to az,ba.2.trans (az.mono ba.2.size)⟩;obtain⟨gI,gJ,cT,eS,d7,eT⟩:=ku (d3.to az) (d5.to az) (d4.to az) (show A.heap.size≤bT.heap.size from ba.2.size) cS (show a7<bT.heap.size from d4.lt);clear cS az;refine r.out _ _ bU trivial (fun o=>?_);(try simp only[S4,S3])
    refine gZ.hY 12 (n:=0) rfl rfl (by kernel_rfl) (fun K r=>?_);(try simp only[S3])
    have ae:=cT.all;have af:=cT.frozen 0;go_simp;refine r.out _ _ (⟨bU.1.other (a:=⟨a7,0,none⟩) (show w.heap.size≠a7 from by have E:=cO.out;have F:=bC.out;omega) _,bU.2.setCell (p:=⟨a7,0,none⟩) cO _⟩) trivial (fun o=>?_);clear o;refine gZ.ia (by kernel_rfl) ?_;go_wp2_with fail;go_meet;exact mV.mk cO cT rfl d7 eS (fun X G e=>by have E:=kf.lo d7 G e;have F:=eT.out;omega) bU.2 rfl
   rotate_left
  case rest=>
   obtain⟨av,rfl⟩:∃av:World,av=wc:=⟨_,rfl⟩;obtain⟨bb,aA,aB,aC,rfl,eU,d8,d9,bV⟩:=hcut;obtain⟨eV,eW,eX,eY,ea⟩:=jg d8 d9 (dF.to bV) (dG.to bV) ((b4.trans (dH.mono b4.size)).trans (bV.mono (Nat.le_trans b4.size dH.size)));clear d8 d9 eU bV b8 bg aF aG dF dG cw eC;go_wp2;go_loopw [5,6] (fun cU cV wr=>∃l h:Nat,cU= .int .u64 l∧cV= .int .u64 h∧l<h∧h≤1048577∧Below av.heap.size av wr) (fun cU cV _=>(intOf cV).toNat-(intOf cU).toNat)
   case atStart=>exact⟨0,1048577,rfl,rfl,by omega,by omega,hz⟩
   case round=>
    obtain⟨l,h,rfl,rfl,gK,eZ,eb⟩:=hrel;have ah:=g' eb;clear eb;obtain⟨d,cW⟩:=hk (h-l);have gL:IntKind.u64.wrap ((h:Int) -(l:Int))=(d:Int):=by rw[cW];exact(IntWalk.u64_in _ (by omega)).trans (by omega)
    by_cases bW:1<d
    ·have e0:=hZ bW
     have e1:decide ((1:Int)<(d:Int))=true:=by simp;omega
     obtain⟨bX,ec⟩:=hk (l+h);have gM:IntKind.u64.wrap ((l:Int)+(h:Int))=(bX:Int):=by rw[ec];exact(IntWalk.u64_in _ (by omega)).trans (by omega)
     obtain⟨m,e2⟩:=hk (bX/2);have e3:((bX:Int)/2)=(m:Int):=by omega
     have gN:IntKind.u64.wrap ((bX:Int)/2)=(m:Int):=(IntWalk.u64_in _ (by omega)).trans e3;have gO:IntKind.u64.wrap (m:Int)=(m:Int):=IntWalk.u64_in _ (by omega);obtain⟨cX,ed⟩:=hk (m+1);have gP:IntKind.u64.wrap ((m:Int)+1)=(cX:Int):=by rw[ed];exact(IntWalk.u64_in _ (by omega)).trans (by omega)
     obtain⟨aD,bY⟩:=hk (m*cX);have ee:aD≤1048577*1048578:=by rw[bY];exact Nat.mul_le_mul (by omega) (by omega)
     have gQ:IntKind.u64.wrap ((m:Int)*(cX:Int))=(aD:Int):=by rw[bY,Int.natCast_mul,←Int.natCast_mul,←bY];exact IntWalk.u64_in _ (by omega)
     obtain⟨e4,e5,ac,e6,bc⟩:=jg (fun W=>rm aD (by omega) W) (Sm.of (N:=aD) (by omega)) (Sm.of (N:=p.inc*p.ih) (by have:=c9.out;omega)) (Sm.of (N:=p.inc*p.ih*aD) (Nat.le_trans (Nat.mul_le_mul c9.out ee) (by decide))) (show l<m∧m<h by omega);clear bW ec e2 ed bY ee cW;go_upto_region 7 with(fail)
     refine gZ.iP (fun w'=>ha w' aW 280 #[.slice aq ar au]∧ha w' bb 280 #[.slice aA aB aC]∧Below wr.heap.size wr w') 10 (by kernel_rfl) (by rintro _ _ (_|_) _ _ h<;>exact h) (⟨(eX.to ah.out).drew,(eV.to ah.out).drew,hM⟩) fun al o=>?_;refine gZ.tq al 4 (gZ.sq 0 5 false (gZ.sq 7 1 false [])) (by kernel_rfl) o ?_;iterate 6((first|(refine gZ.jK (.agg #[.slice aq ar au]) rfl (yieldsIf_load_mid (by rfl) 280 (.tmp 3) rfl aW (0) rfl ([.slice aq ar au]) _ (fun w' T=>by have cY:=gZ.px T;exact fun j v cZ=>yf cY.1 cZ) underlying280 rfl (by kernel_rfl)) ?_)|(refine gZ.jK (.agg #[.slice aA aB aC]) rfl (yieldsIf_load_mid (by rfl) 280 (.tmp 4) rfl bb (0) rfl ([.slice aA aB aC]) _ (fun w' T=>by have cY:=gZ.px T;exact fun j v cZ=>yf cY.2.1 cZ) underlying280 rfl (by kernel_rfl)) ?_)|(refine gZ.t1 rfl rfl (fun w' T=>by try simp only[S3];go_simp;try rfl) ?_));try simp only[S4,S3])
     refine gZ.hH (fun o=>?_);refine gZ.hY 5 (n:=3) rfl rfl (by kernel_rfl) (fun K r=>?_);(try simp only[S3])
     go_simp;refine(e4.out _).mono ?_;rintro e c0 ⟨gR,rfl,c1,bZ⟩;obtain⟨gS,gT,gU,rfl⟩:=c1.form;have ef:=g' c1;have ai:Hid (ha c0 aW 280 #[.slice aq ar au]∧ha c0 bb 280 #[.slice aA aB aC]∧Below wr.heap.size wr c0):=g' ⟨o.1.1.to bZ,o.1.2.1.to bZ,o.1.2.2.trans (bZ.mono o.1.2.2.size)⟩;clear c1 bZ;refine r.out _ _ ai trivial (fun o=>?_);(try simp only[S4,S3])
     refine gZ.hY 6 (n:=2) rfl rfl (by kernel_rfl) (fun K r=>?_);(try simp only[S3])
     go_simp;refine(oj _ _ _ _ _ ((eY.to ah.out).to ai.2.2) ef.out ac.out e5.out).mono ?_;rintro e c2 ⟨gV,rfl,c3,b0⟩;obtain⟨gW,gX,gY,rfl⟩:=c3.form;have eg:=g' c3;have aj:Hid (ha c2 aW 280 #[.slice aq ar au]∧ha c2 bb 280 #[.slice aA aB aC]∧Below wr.heap.size wr c2):=g' ⟨ai.1.to b0,ai.2.1.to b0,ai.2.2.trans (b0.mono ai.2.2.size)⟩;clear c3 b0 ef ai;refine r.out _ _ aj trivial (fun o=>?_);(try simp only[S4,S3])
     refine gZ.hY 8 (n:=1) rfl rfl (by kernel_rfl) (fun K r=>?_);(try simp only[S3])
     go_simp;refine hI (Ao _ _ _ _ _ eg.out ((eW.to ah.out).to aj.2.2) e6.out ei.out) fun c4 b1=>?_;have c5:Hid (ha c4 aW 280 #[.slice aq ar au]∧ha c4 bb 280 #[.slice aA aB aC]∧Below wr.heap.size wr c4):=g' ⟨aj.1.to b1,aj.2.1.to b1,aj.2.2.trans (b1.mono aj.2.2.size)⟩;clear b1 eg aj;obtain⟨z,bd⟩:=ho (oi (p.inc*p.ih*aD) (aa*ab));rw[bd];clear bd;refine r.out _ _ c5 trivial (fun o=>?_);(try simp only[S4,S3])
     refine gZ.tq al 0 [(9,false)] (by kernel_rfl) o ?_;iterate 1(refine gZ.t1 rfl rfl (fun w' T=>by try simp only[S3];go_simp;try rfl) ?_;try simp only[S4,S3])
     refine gZ.hH (fun o=>?_);clear o;refine gZ.ia (by kernel_rfl) ?_;have eh:=g' (ah.trans (c5.2.2.mono ah.size));clear c5;by_cases bd:0≤z
     ·have e7:=hZ bd
      go_wp2;exact⟨⟨l,m,rfl,rfl,bc.1,by have:=bc.2;omega,eh.out⟩,by have:=bc.out;simp[intOf];omega⟩
     have e7:=h1 bd;go_wp2;exact⟨⟨m,h,rfl,rfl,bc.2,by omega,eh.out⟩,by have:=bc.out;simp[intOf];omega⟩
    have e0:=h1 bW;have e1:decide ((1:Int)<(d:Int))=false:=by simp;omega
    clear bW cW;go_wp2;go_ret;exact⟨h,rfl,eZ,ea.trans (ah.mono ea.size)⟩
def RB(w:World)(e:Ending)(w':World):Prop:=∃b:Bool,e= .returned (.bool b)∧Below w.heap.size w w'
theorem Eb(p:hx):(prog.info? 110).map (·.size)=some p.cs.size:=by kernel_rfl
theorem Ec(p:hx)(ac:p.jE)(w:World):Calls prog 73 #[.agg p.cs] w (RB w):=by
 obtain⟨I,ad,ae,af⟩:=iF w p.cs 110;obtain⟨ag,G,K⟩:=hs ad ae af;clear ad ae af;obtain⟨ah,O⟩:=hk (decide (1≤p.inc∧p.inc≤2147483648));obtain⟨aQ,ai⟩:=hg (fun W=>om p.inc 1 2147483648 ah O W) O;clear O;obtain⟨aj,Q⟩:=hk (decide (p.inc≤p.ix∧p.ix≤1099511627776));obtain⟨aR,bm⟩:=hg (fun W=>om p.ix p.inc 1099511627776 aj Q W) Q;clear Q;obtain⟨ak,R⟩:=hk (decide (p.ix≤p.cap∧p.cap≤1099511627776));obtain⟨aS,bn⟩:=hg (fun W=>om p.cap p.ix 1099511627776 ak R W) R;clear R;obtain⟨al,S⟩:=hk (decide (p.inc≤p.up∧p.up≤1099511627776));obtain⟨aT,bo⟩:=hg (fun W=>om p.up p.inc 1099511627776 al S W) S;clear S;obtain⟨am,T⟩:=hk (decide (1≤p.ih∧p.ih≤4294967296));obtain⟨aU,aV⟩:=hg (fun W=>om p.ih 1 4294967296 am T W) T;clear T;obtain⟨an,U⟩:=hk (decide (p.ih≤p.iR∧p.iR≤4294967296));obtain⟨aW,bp⟩:=hg (fun W=>om p.iR p.ih 4294967296 an U W) U;clear U;obtain⟨ao,V⟩:=hk (decide (1≤p.quot∧p.quot≤1099511627776));obtain⟨aX,bq⟩:=hg (fun W=>om p.quot 1 1099511627776 ao V W) V;clear V;obtain⟨ap,X⟩:=hk (decide (1≤p.iS∧p.iS≤p.quot));obtain⟨aY,br⟩:=hg (fun W=>om p.iS 1 p.quot ap X W) X;clear X;obtain⟨aq,Y⟩:=hk (decide (1≤p.ig∧p.ig≤72057594037927936));obtain⟨aZ,bt⟩:=hg (fun W=>om p.ig 1 72057594037927936 aq Y W) Y;clear Y;obtain⟨ar,au⟩:=hk (decide (0≤p.iV∧p.iV≤1000));have a0:=g' (fun W=>nR p.iV 0 1000 ar au W);clear au;obtain⟨av,aw⟩:=hk (decide (0≤p.wait∧p.wait≤50));have a1:=g' (fun W=>nR p.wait 0 50 av aw W);clear aw;obtain⟨ax,ay⟩:=hk (decide (0≤p.iK∧p.iK≤1000));have a2:=g' (fun W=>nR p.iK 0 1000 ax ay W);clear ay;obtain⟨az,aA⟩:=hk (decide (1≤p.iW∧p.iW≤1000));have a3:=g' (fun W=>nR p.iW 1 1000 az aA W);clear aA;obtain⟨aB,aC⟩:=hk (decide (0≤p.ic∧p.ic≤64));have a4:=g' (fun W=>nR p.ic 0 64 aB aC W);clear aC;obtain⟨aD,aE⟩:=hk (decide (0≤p.iE∧p.iE≤1000));have a5:=g' (fun W=>nR p.iE 0 1000 aD aE W);clear aE;obtain⟨aF,aG⟩:=hk (decide (0≤p.iN∧p.iN≤10000));have a6:=g' (fun W=>nR p.iN 0 10000 aF aG W);clear aG;obtain⟨aH,aI⟩:=hk (decide (0≤p.iI∧p.iI≤10000));have a7:=g' (fun W=>nR p.iI 0 10000 aH aI W);clear aI;obtain⟨aJ,aK⟩:=hk (decide (0≤p.iO∧p.iO≤10000));have a8:=g' (fun W=>nR p.iO 0 10000 aJ aK W);clear aK;obtain⟨aL,aM⟩:=hk (decide (1≤p.iy∧p.iy≤64));have a9:=g' (fun W=>nR p.iy 1 64 aL aM W);clear aM;obtain⟨r,aN⟩:=ho (p.ix%p.inc);have bu:(p.ix:Int).tmod (p.inc:Int)=(r:Int):=by rw[←Int.ofNat_tmod,aN]
 clear aN;have a':=g' ac;clear ac;go_enter func73,ntmps73;go_upto_region 1 with(fail)
 rw[ag.out];clear ag;have bv:=K.all;go_cut [58] (fun c D=>∃b:Bool,c= .bool b∧D=I∧(b=false→p.inc≤2147483648))
 case first=>
  as_aux_lemma=>
   go_wp2_with fail;refine hE (aQ _) ?_;cases ah
   ·go_wp2
    go_meet;exact⟨true,rfl,rfl,fun h=>by cases h⟩
   have bw:¬p.inc=0:=by have h:=ai.out;simp at h;omega
   go_wp2_with fail;refine hE (aR _) ?_;cases aj
   ·go_wp2
    go_meet;exact⟨true,rfl,rfl,fun h=>by cases h⟩
   skip;by_cases A:r≠0
   ·have ba:((r:Int) !=0)=true:=by simpa using A
    clear A;go_wp2;go_meet;exact⟨true,rfl,rfl,fun h=>by cases h⟩
   have ba:((r:Int) !=0)=false:=by simpa using A
   clear A;by_cases J:p.floor<p.inc
   ·have bb:=hZ J
    clear J;go_wp2;go_meet;exact⟨true,rfl,rfl,fun h=>by cases h⟩
   have bb:=h1 J;clear J;by_cases E:p.cap≤p.floor
   ·have bc:decide (p.cap≤p.floor)=true:=by simpa using E
    have Z:decide ((p.cap:Int)≤(p.floor:Int))=true:=by simp;omega
    clear E;go_wp2;go_meet;exact⟨true,rfl,rfl,fun h=>by cases h⟩
   have bc:decide (p.cap≤p.floor)=false:=by simpa using E
   have Z:decide ((p.cap:Int)≤(p.floor:Int))=false:=by simp;omega
   clear E;go_wp2_with fail;refine hE (aS _) ?_;cases ak
   ·go_wp2
    go_meet;exact⟨true,rfl,rfl,fun h=>by cases h⟩
   skip;go_wp2_with fail;refine hE (aT _) ?_;cases al
   ·go_wp2
    go_meet;exact⟨true,rfl,rfl,fun h=>by cases h⟩
   skip;by_cases aO:1099511627776<p.down
   ·have bd:decide ((1099511627776:Int)<(p.down:Int))=true:=by simp;omega
    clear aO;go_wp2;go_meet;exact⟨true,rfl,rfl,fun h=>by cases h⟩
   have bd:decide ((1099511627776:Int)<(p.down:Int))=false:=by simp;omega
   clear aO;go_wp2;go_meet;exact⟨false,rfl,rfl,fun _=>by have h:=ai.out;simp at h;omega⟩
 case rest=>
  obtain⟨b,rfl,o,z⟩:=hcut;rw[o];clear o;have be:=g' z;clear z;cases b
  ·go_upto_region 3 with(fail)
   go_cut [95] (fun c D=>∃b:Bool,c= .bool b∧D=I∧(b=false→p.ih≤4294967296))
   case first=>
    as_aux_lemma=>
     go_wp2_with fail;refine hE (aU _) ?_;cases am
     ·go_wp2
      go_meet;exact⟨true,rfl,rfl,fun h=>by cases h⟩
     skip;go_wp2_with fail;refine hE (aW _) ?_;cases an
     ·go_wp2
      go_meet;exact⟨true,rfl,rfl,fun h=>by cases h⟩
     skip;go_wp2_with fail;refine hE (aX _) ?_;cases ao
     ·go_wp2
      go_meet;exact⟨true,rfl,rfl,fun h=>by cases h⟩
     skip;go_wp2_with fail;refine hE (aY _) ?_;cases ap
     ·go_wp2
      go_meet;exact⟨true,rfl,rfl,fun h=>by cases h⟩
     skip;by_cases E:4294967296<p.recover
     ·have Z:decide ((4294967296:Int)<(p.recover:Int))=true:=by simp;omega
      clear E;go_wp2;go_meet;exact⟨true,rfl,rfl,fun h=>by cases h⟩
     have Z:decide ((4294967296:Int)<(p.recover:Int))=false:=by simp;omega
     clear E;go_wp2_with fail;refine hE (aZ _) ?_;cases aq
     ·go_wp2
      go_meet;exact⟨true,rfl,rfl,fun h=>by cases h⟩
     skip;go_wp2;go_meet;exact⟨false,rfl,rfl,fun _=>by have h:=aV.out;simp at h;omega⟩
   case rest=>
    obtain⟨b,rfl,o,z⟩:=hcut;rw[o];clear o;have bf:=g' z;clear z;cases b
    ·go_upto_region 5 with(fail)
     go_cut [127] (fun c D=>∃b:Bool,c= .bool b∧D=I∧(b=false→True))
     case first=>
      as_aux_lemma=>
       by_cases aP:4294967296<p.iT
       ·have bg:decide ((4294967296:Int)<(p.iT:Int))=true:=by simp;omega
        clear aP;go_wp2;go_meet;exact⟨true,rfl,rfl,fun h=>by cases h⟩
       have bg:decide ((4294967296:Int)<(p.iT:Int))=false:=by simp;omega
       clear aP;by_cases F:1099511627776<p.iU
       ·have bh:decide ((1099511627776:Int)<(p.iU:Int))=true:=by simp;omega
        clear F;go_wp2;go_meet;exact⟨true,rfl,rfl,fun h=>by cases h⟩
       have bh:decide ((1099511627776:Int)<(p.iU:Int))=false:=by simp;omega
       clear F;go_wp2_with fail;refine hE (a0 _) ?_;cases ar
       ·go_wp2
        go_meet;exact⟨true,rfl,rfl,fun h=>by cases h⟩
       skip;go_wp2_with fail;refine hE (a1 _) ?_;cases av
       ·go_wp2
        go_meet;exact⟨true,rfl,rfl,fun h=>by cases h⟩
       skip;go_wp2_with fail;refine hE (a2 _) ?_;cases ax
       ·go_wp2
        go_meet;exact⟨true,rfl,rfl,fun h=>by cases h⟩
       skip;go_wp2_with fail;refine hE (a3 _) ?_;cases az
       ·go_wp2
        go_meet;exact⟨true,rfl,rfl,fun h=>by cases h⟩
       skip;go_wp2;go_meet;exact⟨false,rfl,rfl,fun _=>trivial⟩
     case rest=>
      obtain⟨b,rfl,o,z⟩:=hcut;rw[o];clear o;have bx:=g' z;clear z;cases b
      ·go_upto_region 7 with(fail)
       go_cut [161] (fun c D=>∃b:Bool,c= .bool b∧D=I∧(b=false→True))
       case first=>
        as_aux_lemma=>
         go_wp2_with fail;refine hE (a4 _) ?_;cases aB
         ·go_wp2
          go_meet;exact⟨true,rfl,rfl,fun h=>by cases h⟩
         skip;go_wp2_with fail;refine hE (a5 _) ?_;cases aD
         ·go_wp2
          go_meet;exact⟨true,rfl,rfl,fun h=>by cases h⟩
         skip;go_wp2_with fail;refine hE (a6 _) ?_;cases aF
         ·go_wp2
          go_meet;exact⟨true,rfl,rfl,fun h=>by cases h⟩
         skip;go_wp2_with fail;refine hE (a7 _) ?_;cases aH
         ·go_wp2
          go_meet;exact⟨true,rfl,rfl,fun h=>by cases h⟩
         skip;go_wp2_with fail;refine hE (a8 _) ?_;cases aJ
         ·go_wp2
          go_meet;exact⟨true,rfl,rfl,fun h=>by cases h⟩
         skip;go_wp2_with fail;refine hE (a9 _) ?_;cases aL
         ·go_wp2
          go_meet;exact⟨true,rfl,rfl,fun h=>by cases h⟩
         skip;go_wp2;go_meet;exact⟨false,rfl,rfl,fun _=>trivial⟩
       case rest=>
        obtain⟨b,rfl,o,z⟩:=hcut;rw[o];clear o;have bz:=g' z;clear z;cases b
        ·have bi:=g' (fun W=>Ea p a' (be rfl) (bf rfl) W)
         go_wp2_with (first|(refine hR K rO (Eb p) rfl rfl rfl rfl ?_));refine(bi _).mono ?_;rintro e bA ⟨t,rfl,bB,aa⟩;obtain⟨ab,bj⟩:=hg (hJ G aa) (K.to aa);have bC:=bj.all;clear aa;obtain⟨m,bD,bE⟩:∃m:Nat,IntKind.u64.wrap ((p.ih:Int)*(t:Int))=(m:Int)∧m<18446744073709551616:=rN _;by_cases F:t≤1048576
         ·have bk:decide ((t:Int)≤1048576)=true:=by simp;omega
          by_cases A:m≤p.ig
          ·have bl:decide (m≤p.ig)=true:=by simpa using A
           clear F A;go_wp2;go_ret;exact⟨_,rfl,ab⟩
          have bl:decide (m≤p.ig)=false:=by simpa using A
          clear F A;go_wp2;go_ret;exact⟨_,rfl,ab⟩
         have bk:decide ((t:Int)≤1048576)=false:=by simp;omega
         clear F;go_wp2;go_ret;exact⟨_,rfl,ab⟩
        go_wp2;go_ret;exact⟨_,rfl,G⟩
      go_wp2;go_ret;exact⟨_,rfl,G⟩
    go_wp2;go_ret;exact⟨_,rfl,G⟩
  go_wp2;go_ret;exact⟨_,rfl,G⟩
end hB
namespace ht
open RowKit
section
variable {P:Program} {ops:Array Oper} {Q:Exit→Act→World→Prop} {a:Act} {w:World} {rest:List Oper} {o:Oper}
theorem s1(v:Value)(r:Region.wanted o (yielded ops a.tmps)=true)(z:(execOp a.eval o).run P w= .ok (.value v) w)(h:wpList P ops Q rest (a.put o.dst v) w):wpList P ops Q (o::rest) a w:=
 wpList_step fun K A=>by rw[if_pos r];unfold Oper.wp;rw[z];exact A _ _ h
end
end ht
namespace hC
open RowKit
open hG hf kd h0 hU
def h4:Array Value:= #[int u64 0,int u64 0,int u64 0,int u64 0,int u64 0,int u64 0,int u64 0,int u64 0,int u64 0,int u64 0,int u64 0,int u64 0,int u64 0,int u64 0,
 int i64 0,int i64 0,int i64 0,int i64 0,int i64 0,int i64 0,int i64 0,int i64 0,int i64 0,int i64 0,
 int u64 0,int u64 0,int u64 0,int u64 0,int u64 0,int i64 0,int i64 0,.bool false,
 .slice none 0 0,.slice none 0 0,.slice none 0 0,.slice none 0 0,.slice none 0 0,.slice none 0 0,.slice none 0 0,.slice none 0 0,.slice none 0 0]
instance:hf.jP h4 fun o r=>(∀j,o.frozen? ⟨r,j,none⟩=false)∧hf.hh o r 0 (int u64 0)∧hf.hh o r 1 (int u64 0)∧hf.hh o r 2 (int u64 0)∧hf.hh o r 3 (int u64 0)∧hf.hh o r 4 (int u64 0)∧hf.hh o r 5 (int u64 0)∧hf.hh o r 6 (int u64 0)∧hf.hh o r 7 (int u64 0)∧hf.hh o r 8 (int u64 0)∧hf.hh o r 9 (int u64 0)∧hf.hh o r 10 (int u64 0)∧hf.hh o r 11 (int u64 0)∧hf.hh o r 12 (int u64 0)∧hf.hh o r 13 (int u64 0)∧hf.hh o r 14 (int i64 0)∧hf.hh o r 15 (int i64 0)∧hf.hh o r 16 (int i64 0)∧hf.hh o r 17 (int i64 0)∧hf.hh o r 18 (int i64 0)∧hf.hh o r 19 (int i64 0)∧hf.hh o r 20 (int i64 0)∧hf.hh o r 21 (int i64 0)∧hf.hh o r 22 (int i64 0)∧hf.hh o r 23 (int i64 0)∧hf.hh o r 24 (int u64 0)∧hf.hh o r 25 (int u64 0)∧hf.hh o r 26 (int u64 0)∧hf.hh o r 27 (int u64 0)∧hf.hh o r 28 (int u64 0)∧hf.hh o r 29 (int i64 0)∧hf.hh o r 30 (int i64 0)∧hf.hh o r 31 (.bool false)∧hf.hh o r 32 (.slice none 0 0)∧hf.hh o r 33 (.slice none 0 0)∧hf.hh o r 34 (.slice none 0 0)∧hf.hh o r 35 (.slice none 0 0)∧hf.hh o r 36 (.slice none 0 0)∧hf.hh o r 37 (.slice none 0 0)∧hf.hh o r 38 (.slice none 0 0)∧hf.hh o r 39 (.slice none 0 0)∧hf.hh o r 40 (.slice none 0 0):=⟨fun h=>⟨h.frozen,hf.jX h⟩⟩
theorem kA:h4.all (·.oneCell')=true:=by simp[h4,Value.oneCell']
def lC(o:Array Value)(m t:Nat):Array Value:=(o.setIfInBounds 26 (int u64 m)).setIfInBounds 28 (int u64 t)
def l2(o:Array Value)(t b:Nat):Array Value:=(o.setIfInBounds 28 (int u64 t)).setIfInBounds 27 (int u64 b)
theorem th(o:Array Value)(m t:Nat):(lC o m t).size=o.size:=by simp[lC]
theorem rZ(o:Array Value)(m t:Nat):(l2 o m t).size=o.size:=by simp[l2]
theorem tj(h:Q.all (·.oneCell')=true)(i:Nat){v:Value}(r:v.oneCell'=true):(Q.setIfInBounds i v).all (·.oneCell')=true:=by
 rw[Array.all_eq_true_iff_forall_mem]at h⊢;intro u z;rcases Array.mem_or_eq_of_mem_setIfInBounds z with o|o
 ·exact h u o
 subst o;exact r
theorem E4(h:Q.all (·.oneCell')=true)(m t:Nat):(lC Q m t).all (·.oneCell')=true:=tj (tj h _ rfl) _ rfl
theorem E5(h:Q.all (·.oneCell')=true)(m t:Nat):(l2 Q m t).all (·.oneCell')=true:=tj (tj h _ rfl) _ rfl
structure E6 (w:World) (cs:Array Value) (W0:World):Prop where
 below:Below w.heap.size w W0
 b1:ha W0 w.heap.size 46 cs
 b2:ha W0 (w.heap.size+1) 46 h4
theorem two(w:World)(o:Array Value):E6 w o ((w.alloc (.cells o 46)).alloc (.cells h4 46)):=by
 have r:Below w.heap.size w (w.alloc (.cells o 46)):=hz.alloc hj _;exact⟨r.alloc r.size _,(ha.new w _ _ _ rfl).alloc _,ha.new _ _ _ _ (by simp)⟩
theorem E7(s:St)(o:s.Ok)(ab:s.cs.all (·.oneCell')=true)(n m t:Nat)(J:m=s.hO+n)(K:t=s.hN+n)(ac:s.gen+s.hO+n≤min s.hX 4611686018427387904)(ad:t<18446744073709551616)(w:World):
 Calls prog 108 #[.agg s.cs,int u64 n] w fun e w'=>e= .returned (.tuple #[.agg (lC s.cs m t),int i64 0])∧Below w.heap.size w w':=by
 have O:=two w s.cs;obtain⟨A,F⟩:=ho ((w.alloc (.cells s.cs 46)).alloc (.cells h4 46));rw[F]at O;obtain⟨Q,D,ae⟩:=O;have af:=g' F;have ag:=o.hX;have R:=o.gen;have S:=o.hO;have T:(prog.info? 46).map (·.size)=some s.cs.size:=by rw[o.size];exact ox
 have G:=g' T;have ah:=o;have U:=g' (fun W=>xg s.hX s.gen s.hO n W R S (by omega) ag true (by simp;omega));have V:Hid (∀W:World,Calls prog 167 #[int u64 4611686018427387904,.slice (some ⟨W.heap.size,0,none⟩) 3 3] (W.alloc (.cells #[int u64 s.gen,int u64 s.hO,int u64 n] 22)) fun e w'=>e= .returned (.bool true)∧W.alloc (.cells #[int u64 s.gen,int u64 s.hO,int u64 n] 22)=w'):=
  g' (fun W=>xg 4611686018427387904 s.gen s.hO n W R S (by omega) (by omega) true (by simp;omega))
 have X:=g' (fun W=>mj s.hN n t K ad W);have ar:s.hO+n<18446744073709551616:=by omega
 have au:=(IntWalk.u64_in (n:=(s.hO:Int)+(n:Int)) (by omega)).trans (show(s.hO:Int)+(n:Int)=(m:Int) by omega);obtain⟨av,r⟩:=hg J o;clear F T J K o ah ac;go_enter func108,ntmps108;have ai:Hid ((w.alloc (.cells s.cs 46)).alloc (.cells pL 46)=A):=af;go_upto_region 1 with(fail)
 rw[ai.out];have aw:=D.cell r.out.w9;have ax:=D.cell r.out.xa;have ay:=D.cell r.out.ud;have Y:=Q.alloc Q.size (.cells #[int u64 s.gen,int u64 s.hO,int u64 n] 22);have z:=D.alloc (.cells #[int u64 s.gen,int u64 s.hO,int u64 n] 22);have Z:=ae.alloc (.cells #[int u64 s.gen,int u64 s.hO,int u64 n] 22);obtain⟨aj,I⟩:=ho (A.alloc (.cells #[int u64 s.gen,int u64 s.hO,int u64 n] 22));rw[I]at Y z Z;have ak:=g' I;clear I;have az:=z.cell r.out.ud;have aA:=z.cell r.out.p1;have aB:=z.frozen 26;go_wp2_with fail;all_goals
  (first|with_reducible (refine(U.out A).mono ?_)|with_reducible (refine(V.out A).mono ?_))
  rintro e w' ⟨rfl,rfl⟩;rw[ak.out];go_wp2_with fail;refine(X.out aj).mono ?_;rintro e w' ⟨rfl,rfl⟩;have E:=z.set 26 (int u64 m);have aa:=Z.other (a:=⟨w.heap.size,26,none⟩) (by simp) (int u64 m);have aC:=E.cell (j:=28) (v:=int u64 s.hN) (by rw[Array.getElem?_setIfInBounds_ne (by decide)];exact r.out.p1);have aD:=E.frozen 28;have al:=E.set 28 (int u64 t);have am:=aa.other (a:=⟨w.heap.size,28,none⟩) (by simp) (int u64 t);have an:=(Y.setCell (p:=⟨w.heap.size,26,none⟩) (by simp) (int u64 m)).setCell (p:=⟨w.heap.size,28,none⟩) (by simp) (int u64 t);clear U V X E aa;go_wp2_with (first
   |refine pK rfl 46 (.tmp 2) rfl w.heap.size rfl 46 (lC s.cs m t) _ al iX rfl (by rw[th];exact G.out) ?_
   |refine ob rfl 46 (.tmp 4) (.tmp 37) rfl (w.heap.size+1) (lC s.cs m t) rfl rfl 46 _ am (by rw[th];exact G.out) (by rw[th,r.out.size];rfl) (E4 ab _ _) ?_)
  intro aE ao ap _ _;have aq:=ap _ _ (by omega) an;go_wp2;exact bodyPost_ret (v:= .tuple #[.agg (lC s.cs m t),int i64 0]) (jy results108 _ _ _ _ _ _ _ rfl rfl ao iX rfl (by rw[th];exact G.out)) rfl ⟨rfl,aq⟩
theorem E8(s:St)(o:s.Ok)(R:s.cs.all (·.oneCell')=true)(n b t:Nat)(G:b=s.h7+n)(S:s.hN=t+n)(T:b<18446744073709551616)(w:World):
 Calls prog 115 #[.agg s.cs,int u64 n] w fun e w'=>e= .returned (.tuple #[.agg (l2 s.cs t b),int i64 0])∧Below w.heap.size w w':=by
 have I:=two w s.cs;obtain⟨D,E⟩:=ho ((w.alloc (.cells s.cs 46)).alloc (.cells h4 46));rw[E]at I;obtain⟨U,r,V⟩:=I;have X:Hid ((w.alloc (.cells s.cs 46)).alloc (.cells pL 46)=D):=g' E;have af:=o.hX;have ag:=o.gen;have ah:=o.hO;have ai:=o.h7;have Y:=o.hN;have J:(prog.info? 46).map (·.size)=some s.cs.size:=by rw[o.size];exact ox
 obtain⟨F,z,K,O⟩:=h5 J o (fun W=>sj s.hN n t (by omega) Y W) (fun W=>mj s.h7 n b G T W);clear E J o G S;go_enter func115,ntmps115;go_upto_region 1 with(fail)
 rw[X.out];have aj:=r.cell z.out.p1;have ak:=r.cell z.out.sJ;have al:=r.cell z.out.p1;have am:=r.frozen 28;go_wp2_with fail;refine(K D).mono ?_;rintro e w' ⟨rfl,rfl⟩;go_wp2_with fail;refine(O D).mono ?_;rintro e w' ⟨rfl,rfl⟩;have A:=r.set 28 (int u64 t);have Q:=V.other (a:=⟨w.heap.size,28,none⟩) (by simp) (int u64 t);have an:=A.cell (j:=27) (v:=int u64 s.h7) (by rw[Array.getElem?_setIfInBounds_ne (by decide)];exact z.out.sJ);have ao:=A.frozen 27;have Z:=A.set 27 (int u64 b);have aa:=Q.other (a:=⟨w.heap.size,27,none⟩) (by simp) (int u64 b);have ab:=(U.setCell (p:=⟨w.heap.size,28,none⟩) (by simp) (int u64 t)).setCell (p:=⟨w.heap.size,27,none⟩) (by simp) (int u64 b);clear K O A Q;go_wp2_with (first
  |refine pK rfl 46 (.tmp 2) rfl w.heap.size rfl 46 (l2 s.cs t b) _ Z iX rfl (by rw[rZ];exact F) ?_
  |refine ob rfl 46 (.tmp 4) (.tmp 34) rfl (w.heap.size+1) (l2 s.cs t b) rfl rfl 46 _ aa (by rw[rZ];exact F) (by rw[rZ,z.out.size];rfl) (E5 R _ _) ?_)
 intro ap ac ad _ _;have ae:=ad _ _ (by omega) ab;go_wp2;exact bodyPost_ret (v:= .tuple #[.agg (l2 s.cs t b),int i64 0]) (jy results115 _ _ _ _ _ _ _ rfl rfl ac iX rfl (by rw[rZ];exact F)) rfl ⟨rfl,ae⟩
theorem E9(s:St)(o:s.Ok)(n:Nat)(D:n<18446744073709551616)(E:s.hN<n)(w:World):
 Calls prog 115 #[.agg s.cs,int u64 n] w fun e w'=>e= .returned (.tuple #[.agg h4,int i64 171])∧Below w.heap.size w w':=by
 have r:=two w s.cs;obtain⟨z,A⟩:=ho ((w.alloc (.cells s.cs 46)).alloc (.cells h4 46));rw[A]at r;obtain⟨F,G,I⟩:=r;have J:Hid ((w.alloc (.cells s.cs 46)).alloc (.cells pL 46)=z):=g' A;have T:(prog.info? 46).map (·.size)=some s.cs.size:=by rw[o.size];exact ox
 obtain⟨K,O⟩:=hg o (fun W=>tK s.hN n E D W);go_enter func115,ntmps115;go_upto_region 1 with(fail)
 rw[J.out];have U:=G.cell K.p1;go_wp2_with fail;refine hE (O z) ?_
 ·go_wp2_with (refine ob rfl 46 (.tmp 4) (.tmp 18) rfl (w.heap.size+1) h4 rfl rfl 46 _ I ox rfl kA ?_)
  intro V Q R _ _;have S:=R _ _ (by omega) F;go_wp2;exact bodyPost_ret (v:= .tuple #[.agg h4,int i64 171]) (jy results115 _ _ _ _ _ _ _ rfl rfl Q iX rfl ox) rfl ⟨rfl,S⟩
theorem E'(s:St)(o:s.Ok)(n t:Nat)(G:s.hN=t+n)(A:18446744073709551616≤s.h7+n)(w:World):
 Calls prog 115 #[.agg s.cs,int u64 n] w fun e w'=>e= .returned (.tuple #[.agg h4,int i64 10])∧Below w.heap.size w w':=by
 have D:=two w s.cs;obtain⟨r,z⟩:=ho ((w.alloc (.cells s.cs 46)).alloc (.cells h4 46));rw[z]at D;obtain⟨I,E,J⟩:=D;have K:Hid ((w.alloc (.cells s.cs 46)).alloc (.cells pL 46)=r):=g' z;have O:=o.h7;have Q:=o.hN;have R:(prog.info? 46).map (·.size)=some s.cs.size:=by rw[o.size];exact ox
 obtain⟨F,S,T⟩:=hs o (fun W=>sj s.hN n t (by omega) Q W) (fun W=>pQ s.h7 n O (by omega) A W);clear z R o G A;go_enter func115,ntmps115;go_upto_region 1 with(fail)
 rw[K.out];have Y:=E.cell F.p1;have Z:=E.cell F.sJ;go_wp2_with fail;refine hE (S r) ?_;go_wp2_with fail;refine hE (T r) ?_
 ·go_wp2_with (refine ob rfl 46 (.tmp 4) (.tmp 28) rfl (w.heap.size+1) h4 rfl rfl 46 _ J ox rfl kA ?_)
  intro aa U V _ _;have X:=V _ _ (by omega) I;go_wp2;exact bodyPost_ret (v:= .tuple #[.agg h4,int i64 10]) (jy results115 _ _ _ _ _ _ _ rfl rfl U iX rfl ox) rfl ⟨rfl,X⟩
end hC
end Go.Proofs.YtffbipddbnkdjaaGreat
