/- What functions compute at any arguments, and plain facts: A tick's fines; A tick's mint: who was there, with their standings; Which motions are to be done: moot.Ripe. Conditions: those that each theorem names. -/
import Derived.Test.YtffbipddbnkdjaaGreatZ23
set_option maxRecDepth 100000
set_option maxHeartbeats 40000000
set_option linter.all false
open Go Go.Proofs.Tryz
open Go.Value(int)
open Go.IntKind(i64 u64)
variable{A T:Option Addr}{n g b L k B i x a m j q c p s r d h u N y:Nat}{E z:Int}{P:Program}{w W X Z:World}{e t:TypeId}{f:Nat→Value}{l:List Bool}{V U:Value}{Y:List Nat}{S:List Value}{R:List Int}{Q:Array Value}{O:List (List Nat)}{M:Bool}{K:Ending}{J:Addr}{I:Nat→Nat}{H:Option Nat}
namespace Go.Proofs.YtffbipddbnkdjaaGreat
namespace hB
open RowKit
open hG hf hC h0 hU
theorem Fa{p:hx}{m:Mem}(h:MG m)(o:Int):MG (lA m (mx p (im m) o)):=⟨⟨by have:=h.iq.hD;simp only[lA,mx,im];omega,h.iq.hP,h.iq.h9,h.iq.str,h.iq.own,h.iq.h3⟩,by have:=h.hD;simp only[lA,mx,im];omega,h.hP⟩
def qT(t:Tk)(c:hl)(r:Rc)(k:Nat)(S:TS):Prop:=S.r=r∧∃ms a x y,S.t={t with s:={t.s with hN:=a},r:={t.r with h7:=x,j5:=y}}∧S.c={c with ms:=ms}∧ms.length=c.ms.length∧(∀m∈ms,MG m)∧a<18446744073709551616∧x≤k*1099511627776∧y≤k*1099511627776
theorem qT.more{t:Tk}{c:hl}{r:Rc}{k':Nat}{S:TS}(h:qT t c r k S)(o:k≤k'):qT t c r k' S:=by
 obtain⟨z,A,a,x,y,D,E,F,G,I,J,K⟩:=h;have:k*1099511627776≤k'*1099511627776:=Nat.mul_le_mul_right _ o;exact⟨z,A,a,x,y,D,E,F,G,I,Nat.le_trans J this,Nat.le_trans K this⟩
theorem Fb(κ:hr)(g B b:Nat)(t:Tk)(c:hl)(r:Rc)(w:World)(av:iG t.s.p=true)(aR:c.mm.length≤1000000)(aS:t.s.me=⟨some ⟨b,0,none⟩,t.s.me.n,t.s.me.c⟩)(k:Nat)(aT:k≤1000000)(S:TS)(W:World)(m:Mem)(br:CJ κ g B w (qT t c r) k S W)(af:S.c.ms[k]?=some m):
 Calls prog 113 #[int i64 k,.pointer (some ⟨b,k*6,none⟩),.pointer (some ⟨B,0,none⟩)] W fun e V=>e= .returned (.tuple #[])∧∃bt,CJ κ g B w (qT t c r) (k+1) bt V:=by
 obtain⟨E,G,aw,F,aU⟩:=br;have aV:=g' (aU.more (Nat.le_succ k));obtain⟨aW,ms,a,x,y,X,aX,aY,ax,bu,bv,bw⟩:=aU;obtain⟨Y,o,bL,Z⟩:=S;simp only at X aW aX af G F;subst aW aX;have ay:o.s.p=t.s.p:=by rw[X]
 have aZ:o.s.me=t.s.me:=by rw[X]
 have a0:o.r.h7=x∧o.r.j5=y∧o.s.hN=a:=by rw[X];exact⟨rfl,rfl,rfl⟩
 have E:hK Y g o {c with ms:=ms} Z W:=E;have ag:=ax m (List.mem_of_getElem? af);obtain⟨A,a1⟩:=hk o.r.mode;obtain⟨u,az⟩:=hk (oB (mQ o.s.p (im m) A) o.s.p.iI);obtain⟨v,a2⟩:=hk (mQ o.s.p (im m) A-u);have bx:=xm o.s.p (im m) A;have bz:(im m).hD=m.hD:=rfl;have bA:=ag.hD;have bB:u≤1099511627776:=by
  have:=ue (mQ o.s.p (im m) A) o.s.p.iI (by rw[ay];exact(j6 av).iI.2);rw[←az]at this;omega
 have bC:v≤1099511627776:=by omega
 obtain⟨bD,a3,bE⟩:=hs (fun V (bF:hK Y g o {c with ms:=ms} Z V)=>vd Y g o _ Z k (by omega) V bF aR) (fun V=>BK o.s.p (by rw[ay];exact av) (im m) (vf ag.iq) A u v az a2 V) (Fa (p:=o.s.p) ag A);obtain⟨J,a4⟩:=hk ((a+(u+v))%18446744073709551616);have bG:x+u<18446744073709551616∧y+v<18446744073709551616:=by
  have:k*1099511627776≤1000000*1099511627776:=Nat.mul_le_mul_right _ aT;omega
 have Q:u64.wrap ((u:Int)+(v:Int))=((u+v:Nat):Int):=by rw[IntKind.wrap_u64];omega
 have aA:u64.wrap ((a:Int)+((u+v:Nat):Int))=((J:Nat):Int):=by rw[a4,IntKind.wrap_u64];omega
 have a5:u64.wrap ((x:Int)+(u:Int))=((x+u:Nat):Int):=by rw[IntKind.wrap_u64];omega
 have bH:u64.wrap ((y:Int)+(v:Int))=((y+v:Nat):Int):=by rw[IntKind.wrap_u64];omega
 have ab:=g' (show J<18446744073709551616∧x+u≤(k+1)*1099511627776∧y+v≤(k+1)*1099511627776 by
  refine⟨by omega,?_,?_⟩<;>(rw[Nat.add_mul];omega))
 obtain⟨aB,ah,aC,a6,a7,a8,aD,aE,aF⟩:=og (show o.s.me=⟨some ⟨b,0,none⟩,o.s.me.n,o.s.me.c⟩ by rw[aZ];exact aS) af E G aw F (And.intro aY (And.intro ax X)) a1 a0;have bM:=aw.all;obtain⟨bN,a9⟩:=ho (u+v);obtain⟨ac,a'⟩:=ho (x+u);obtain⟨ai,ba⟩:=ho (y+v);rw[a9]at Q aA;rw[a']at a5 ab;rw[ba]at bH ab;clear E G aw F aY ax X af ag aS av aR aT ay aZ az a2 bx bz bA bB bC a4 bG bu bv bw a1 a0 a9 a' ba;go_enter func113,ntmps113;go_wp2_with fail;refine(bD _ aC).mono ?_;rintro e I ⟨bI,rfl,aj⟩;obtain⟨ak,R,aG⟩:=hs (aC.below aj) (a7.to aj) (a6.trans (ht.of aj));clear aj;cases bI;rotate_left
 ·go_wp2
  refine bodyPost_ret (results_none rfl _ _ _) rfl ?_;exact⟨rfl,⟨Y,o,_,Z⟩,ak,aG,R,a8,aV⟩
 clear aC a7 a6 aV;go_wp2;refine gZ.rg (fun w'=>ha w' B 136 #[.pointer (some ⟨g,0,none⟩)]) (fun w'=>hK Y g o {c with ms:=ms} Z w') 20 23 (by kernel_rfl) (by rintro _ _ (_|_) _ _ h<;>exact h) R.drew (ak.below hM) fun al z=>?_;refine gZ.tq al 9 (gZ.sq 0 14 true []) (by kernel_rfl) z ?_;iterate 14((first|(refine gZ.tY 0 ((o.s.p.cs).toList) (fun w' D=>D.2.box) (by kernel_rfl) hQ (by kernel_rfl) rfl rfl rfl rfl rfl ?_)|(refine gZ.jK (.agg ((im m).enc).toArray) rfl (yieldsIf_load_mid (by rfl) 96 (.tmp 19) rfl b ((k*6)) rfl ((im m).enc) _ (fun w' D=>by have⟨G,E⟩:=gZ.mU D;exact(E.oT ah aB).1) km rfl (by kernel_rfl)) ?_)|(refine gZ.t1 rfl rfl (fun w' D=>by try simp only[S3];first|(have⟨G,E⟩:=D;have T:=G.all;have bb:=E.box.cell (j:=42) (v:=int i64 A) (by rw[aE.out];rfl);go_simp;try rfl)|(have T:=D.all;go_simp;try rfl)) ?_));try simp only[S4,S3])
 refine gZ.hH (fun z=>?_);refine gZ.lN 14 19 (n:=8) rfl rfl rfl (by kernel_rfl) (fun K F=>?_) (fun K F=>?_);focus
  (try simp only[S3])
  go_simp;refine hI (a3 _) fun Q O=>?_;have am:=g' (show Below I.heap.size I Q from hJ hM O);refine F.out _ _ (z.1.to O) ((z.2 rfl).below O) (fun z=>?_);(try simp only[S4,S3])
  refine gZ.tq al 4 (gZ.sq 15 2 true (gZ.sq 17 2 false [])) (by kernel_rfl) z ?_;iterate 4(refine gZ.t1 rfl rfl (fun w' D=>by try simp only[S3];first|(have⟨G,E⟩:=D;have T:=G.all;have bb:=E.box.cell (j:=42) (v:=int i64 A) (by rw[aE.out];rfl);go_simp;try rfl)|(have T:=D.all;go_simp;try rfl)) ?_;try simp only[S4,S3])
  refine gZ.hH (fun z=>?_);refine gZ.hY 19 (n:=3) rfl rfl (by kernel_rfl) (fun K F=>?_);(try simp only[S3])
  go_simp;refine F.out _ _ (z.1.alloc _) ((z.2 rfl).below (hz.alloc hj _)) (fun z=>?_);(try simp only[S4,S3])
  obtain⟨U,an⟩:=hg (ha.new Q Q.heap.size 96 jT rfl) (am.alloc am.size (.cells jT 96));have aH:=am.size;obtain⟨bc,bd⟩:=ho (Q.alloc (.cells jT 96));obtain⟨L,ad⟩:=ho Q.heap.size;rw[bd]at U an⊢;rw[ad]at U aH⊢;have aI:=g' aH;clear am bd ad aH z
 rotate_left;focus
  (try simp only[S3])
  go_simp;have be:Below I.heap.size I (I.drew.alloc (.cells jT 96)):=hM.alloc hj _;have bf:=g' (ha.new I.drew I.heap.size 96 jT rfl);refine F.out _ _ (z.1.alloc _) ((z.2 rfl).below (hz.alloc hj _)) (fun z=>?_);(try simp only[S4,S3])
  refine gZ.hY 14 (n:=7) rfl rfl (by kernel_rfl) (fun K F=>?_);(try simp only[S3])
  go_simp;refine hI (a3 _) fun bc O=>?_;obtain⟨an,U⟩:=hg (hJ be O) (bf.to O);clear be bf;refine F.out _ _ (z.1.to O) ((z.2 rfl).below O) (fun z=>?_);(try simp only[S4,S3])
  refine gZ.tq al 3 (gZ.sq 15 2 true (gZ.sq 17 2 false [])) (by kernel_rfl) z ?_;iterate 4(refine gZ.t1 rfl rfl (fun w' D=>by try simp only[S3];first|(have⟨G,E⟩:=D;have T:=G.all;have bb:=E.box.cell (j:=42) (v:=int i64 A) (by rw[aE.out];rfl);go_simp;try rfl)|(have T:=D.all;go_simp;try rfl)) ?_;try simp only[S4,S3])
  refine gZ.hH (fun z=>?_);obtain⟨L,ad⟩:=ho I.heap.size;have aI:=g' (show I.heap.size≤L by omega);have bg:(I.drew).heap.size=I.heap.size:=rfl;try rw[bg]
  clear bg;rw[ad]at U⊢;clear ad z
 rotate_left;all_goals (
  refine gZ.jc 20 (n:=2) rfl rfl (by kernel_rfl) (by kernel_rfl) (fun K F=>?_);(try simp only[S3])
  rw[if_pos (by rfl)];refine wp_store_row 96 (.tmp 5) (.tmp 27) rfl L (mx o.s.p (im m) A).cs rfl rfl 96 (jT) U (by kernel_rfl) (by kernel_rfl) (by kernel_rfl) ?_;obtain⟨aJ,aa⟩:=hg (U.row (mx o.s.p (im m) A).cs) (pJ an aI (mx o.s.p (im m) A).cs);obtain⟨aA,bh⟩:=ho (bc.setRow L (mx o.s.p (im m) A).cs);rw[bh]at aJ aa⊢;clear bh z an U aI;refine F.out _ _ (R.below aa R.lt) (fun z=>?_);refine gZ.tq al 0 (gZ.sq 21 2 false []) (by kernel_rfl) z ?_;iterate 2(refine gZ.t1 rfl rfl (fun w' D=>by try simp only[S3];first|(have⟨G,E⟩:=D;have T:=G.all;go_simp;try rfl)|(have T:=D.all;go_simp;try rfl)) ?_;try simp only[S4,S3])
  refine gZ.hH (fun z=>?_);clear z;refine gZ.ia rfl ?_;obtain⟨ao,bi,bj⟩:=hs (ak.below aa) (R.below aa R.lt) (aG.trans (ht.of aa));have bk:=(ao.oT ah aB).2;obtain⟨aK,ap⟩:=ao.nb (ao.kK ah aB).2.2 ah 0 (mx o.s.p (im m) A).cs.toList (lA m (mx o.s.p (im m) A)) (by simp[Std.cs]) rfl;rw[Nat.add_zero]at aK ap;obtain⟨aq,ae,aL⟩:=hs (ap.keep bi a8) aK (bj.trans ap);clear aK ap ak R aG aa;go_upto_region 3 with(first|(refine hR aJ km (by kernel_rfl) rfl rfl rfl rfl ?_)|(refine wpList_store_mid rfl 96 (.tmp 33) (.tmp 31) rfl b (k*6) (mx o.s.p (im m) A).cs rfl rfl bk (by kernel_rfl) (by kernel_rfl) ?_))
  generalize aA.setCells b (k*6) (mx o.s.p (im m) A).cs.toList=a5 at ae aq aL⊢;clear bk aJ ao bi bj;have bO:=aq.1.all;have bP:=ae.box.cell (j:=28) (v:=int u64 a) (by rw[←aF.2.2];rfl);have bQ:=ae.box.frozen 28;obtain⟨bl,aM⟩:=ae.num (t':={o with s:={o.s with hN:=J}}) rfl 28 (int u64 J) rfl;obtain⟨aN,ar,bm⟩:=hs (aM.keep aq.1 aq.2) bl (aL.trans aM);clear bl aM;have bR:=aN.1.all;have bS:=ar.box.cell (j:=49) (v:=int u64 x) (by rw[←aF.1];rfl);have bT:=ar.box.frozen 49;obtain⟨bn,aO⟩:=ar.num (t':={o with s:={o.s with hN:=J},r:={o.r with h7:=ac}}) rfl 49 (int u64 ac) rfl;obtain⟨aP,au,bo⟩:=hs (aO.keep aN.1 aN.2) bn (bm.trans aO);clear bn aO;have bU:=aP.1.all;have bV:=au.box.cell (j:=50) (v:=int u64 y) (by rw[←aF.2.1];rfl);have bW:=au.box.frozen 50;obtain⟨bp,aQ⟩:=au.num (t':={o with s:={o.s with hN:=J},r:={o.r with h7:=ac,j5:=ai}}) rfl 50 (int u64 ai) rfl;obtain⟨bq,bJ,bK⟩:=hs (aQ.keep aP.1 aP.2) bp (bo.trans aQ);clear bp aQ ae ar au aL bm bo;go_wp2;go_end0;exact⟨rfl,⟨Y,{o with s:={o.s with hN:=J},r:={o.r with h7:=ac,j5:=ai}},_,Z⟩,bJ,bK,bq.1,bq.2,rfl,_,J,ac,ai,(by rw[aD.2.2]),rfl,by rw[List.length_set];exact aD.1,nf aD.2.1 bE,ab.1,ab.2.1,ab.2.2⟩)
def r0(s:hA):hC.St:=⟨s.cs,s.hX,s.gen,s.hO,s.h7,s.hN,s.pu.A,s.pu.n,s.pu.c,[],s.me.A,s.me.n,s.me.c,[],s.po.A,s.po.n,s.po.c,[],s.du.A,s.du.n,s.du.c,[]⟩
structure qh (s:hA):Prop where
 hX:s.hX<18446744073709551616
 gen:s.gen<18446744073709551616
 hO:s.hO<18446744073709551616
 h7:s.h7<18446744073709551616
 hN:s.hN<18446744073709551616
theorem yN{s:hA}(h:qh s):(r0 s).Ok:=⟨rfl,rfl,rfl,rfl,rfl,rfl,rfl,rfl,rfl,rfl,h.hX,h.gen,h.hO,h.h7,h.hN,(fun _ h=>by cases h),(fun _ h=>by cases h),(fun _ h=>by cases h)⟩
def Tk.tail(t:Tk):List Value:=[int i64 t.r.ep,int i64 t.r.mode,.bool t.r.q,int u64 t.r.lu,int u64 t.r.act,int u64 t.r.hO,int u64 t.r.jB,int u64 t.r.kept,int u64 t.r.h7,int u64 t.r.j5,t.r.ou.v,t.r.le.v,t.r.st.v,t.r.dn.v,int i64 t.wt]
theorem yO(t:Tk):t.cs=(t.s.cs.toList++t.tail).toArray:=rfl
theorem qi(s:hA):s.cs.toList.length=41:=rfl
theorem yP(t:Tk)(s:hA):({t with s:=s}:Tk).cs=hf.splice t.cs 0 s.cs.toList:=by
 apply Array.ext_getElem?;intro j;rw[x2 _ _ _ _ (by rw[qi];show 0+41≤56;omega),yO,yO t,qi];simp only[List.getElem?_toArray,Nat.zero_le,true_and,Nat.zero_add,Nat.sub_zero];by_cases o:j<41
 ·rw[if_pos o,List.getElem?_append_left (by rw[qi];exact o)]
 rw[if_neg o,List.getElem?_append_right (by rw[qi];omega),List.getElem?_append_right (by rw[qi];omega),qi,qi];rfl
theorem Fc(s:hA)(t b:Nat):hC.l2 s.cs t b=({s with hN:=t,h7:=b}:hA).cs:=rfl
theorem Fe(s:hA)(m t:Nat):hC.lC s.cs m t=({s with hO:=m,hN:=t}:hA).cs:=rfl
theorem Ff(s:hA)(t b:Nat):(hC.l2 s.cs t b).all (·.oneCell')=true:=by kernel_rfl
theorem yQ(s:hA)(t b:Nat):(hC.lC s.cs t b).all (·.oneCell')=true:=by kernel_rfl
theorem kA:hC.h4.all (·.oneCell')=true:=by kernel_rfl
def Fg(s:hA)(w:World)(e:Ending)(w':World):Prop:=∃(o:Array Value) (E:Int),e= .returned (.tuple #[.agg o,int i64 E])∧Below w.heap.size w w'∧o.size=41∧o.all (·.oneCell')=true∧(E=0→∃t b,o=hC.l2 s.cs t b∧t<18446744073709551616∧b<18446744073709551616)
theorem Fh(s:hA)(h:qh s)(n:Nat)(E:n<18446744073709551616)(w:World):Calls prog 115 #[.agg s.cs,int u64 n] w (Fg s w):=by
 have A:=yN h;rcases Nat.lt_or_ge s.hN n with D|D
 ·exact(hC.E9 (r0 s) A n E D w).mono fun e w' ⟨o,r⟩=>⟨hC.h4,171,o,r,rfl,kA,fun h=>by cases h⟩
 rcases Nat.lt_or_ge (s.h7+n) 18446744073709551616 with z|z
 ·exact(hC.E8 (r0 s) A (ln s) n (s.h7+n) (s.hN-n) rfl (by show s.hN=_;omega) z w).mono fun e w' ⟨o,r⟩=>⟨hC.l2 s.cs (s.hN-n) (s.h7+n),0,o,r,by rw[hC.rZ];rfl,Ff s _ _,fun _=>⟨_,_,rfl,by have:=h.hN;omega,z⟩⟩
 exact(hC.E' (r0 s) A n (s.hN-n) (by show s.hN=_;omega) z w).mono fun e w' ⟨o,r⟩=>⟨hC.h4,10,o,r,rfl,kA,fun h=>by cases h⟩
theorem Fi{t:Tk}(h:t.r.h7=0∧t.r.j5=0):t={t with s:={t.s with hN:=t.s.hN},r:={t.r with h7:=0,j5:=0}}:=by
 obtain⟨s,⟨e,m,q,p,a,n,d,k,b,f,o,l,z,A⟩,D⟩:=t;simp only at h;obtain⟨rfl,rfl⟩:=h;rfl
def Fj(κ:hr)(g:Nat)(t:Tk)(c:hl)(r:Rc)(w w':World):Prop:=∃o ms a b x y,ht κ w o w'∧ms.length=c.ms.length∧(∀m∈ms,MG m)∧a<18446744073709551616∧b<18446744073709551616∧x≤128*1099511627776∧y≤128*1099511627776∧
 hK o g {t with s:={t.s with hN:=a,h7:=b},r:={t.r with h7:=x,j5:=y}} {c with ms:=ms} r w'
theorem Fk(κ:hr)(g:Nat)(t:Tk)(c:hl)(r:Rc)(w:World)(h:hK κ g t c r w)(am:iG t.s.p=true)(aI:∀m∈c.ms,MG m)(aJ:t.s.me.n≤128)(aK:c.mm.length≤1000000)(an:qh t.s)(aL:t.r.h7=0∧t.r.j5=0):
 Calls prog 62 #[.pointer (some ⟨g,0,none⟩)] w fun e w'=>e= .returned (.tuple #[])∧Fj κ g t c r w w':=by
 have ao:Below w.heap.size w (w.alloc (.cells #[.pointer (some ⟨g,0,none⟩)] 136)):=hz.alloc hj _;have X:ha (w.alloc (.cells #[.pointer (some ⟨g,0,none⟩)] 136)) w.heap.size 136 #[.pointer (some ⟨g,0,none⟩)]:=ha.new w _ _ _ rfl;have G:=h.below ao;have ap:κ w.heap.size=0:=h.fresh _ hj;have aq:=g' (ht.of (κ:=κ) ao);obtain⟨br,ar⟩:=ho (w.alloc (.cells #[.pointer (some ⟨g,0,none⟩)] 136));obtain⟨B,au⟩:=ho w.heap.size;rw[ar]at X G aq;rw[au]at X ap;have bt:=X.all;obtain⟨aM,aN,aO,bj,bk⟩:=jg G X ap ar au;clear ao X G ap ar au;have aP:=g' (rY 113 (enters_of func113 (by kernel_rfl) rfl) #[.pointer (some ⟨B,0,none⟩)] g t.s.me (CJ κ g B w (qT t c r))
  (fun k S W z=>⟨z.1,by obtain⟨_,_,_,_,_,ms,a,x,y,aQ,_⟩:=z;rw[aQ]⟩)
  (fun k S W aR z av=>z.below av)
  (fun k S W m z aw am=>⟨z.1,z.2.1,z.2.2.1,z.2.2.2.1,z.2.2.2.2.more (Nat.le_succ k)⟩)
  (fun k S W m b z aw _ av=>Fb κ g B b t c r w am aK av k (by
    have aQ:=(jh.1 aw).1;have bu:=hK.kz z.1;obtain⟨_,_,_,_,_,ms,a,x,y,bl,_⟩:=z;have bv:S.t.s.me.n=t.s.me.n:=by rw[bl]
    omega) S W m z aw)
  ⟨κ,t,c,r⟩ _ ⟨aM,aq,aN,aO,rfl,c.ms,t.s.hN,0,0,(Fi aL),rfl,rfl,aI,an.hN,by omega,by omega⟩ (by omega))
 obtain⟨Y,bm⟩:=hg an aJ;clear h am aI aK an aL aJ;go_enter func62,ntmps62;go_upto_region 1 with(fail)
 rw[bj.out,bk.out];go_wp2_with fail;refine aP.mono ?_;rintro e D ⟨rfl,S,aS,ax,aT,ay,aU,ms,a,x,y,ah,aV,aW,aX,az,aY,aZ⟩;obtain⟨ai,F,bw,a0⟩:=S;simp only at ah aU aV ax ay;subst aU aV;have aA:qh F.s∧F.r.h7=x:=by rw[ah];exact⟨⟨Y.hX,Y.gen,Y.hO,Y.h7,az⟩,rfl⟩
 have aB:t.s.me.n*1099511627776≤128*1099511627776:=Nat.mul_le_mul_right _ bm;obtain⟨a1,aC,a2,T,bx,I,a3,aD⟩:=mI (fun aR=>Fh F.s aA.1 x (by omega) aR) (show hK ai g F {c with ms:=ms} a0 D from aS) ax aT ay (And.intro aW (And.intro aX (And.intro az (kY (Nat.le_trans aY aB) (Nat.le_trans aZ aB))))) ah aA.2;clear aS ax aT ay aW aX az aY aZ aA aB ah aM aq aN aO aP;go_wp2;refine gZ.rg (fun w'=>ha w' B 136 #[.pointer (some ⟨g,0,none⟩)]) (fun w'=>hK ai g F {c with ms:=ms} a0 w') 14 16 (by kernel_rfl) (by rintro _ _ (_|_) _ _ h<;>exact h) T.drew (aC.below hM) fun aj o=>?_;refine gZ.tq aj 7 (gZ.sq 0 9 true []) (by kernel_rfl) o ?_;iterate 9((first|(refine gZ.tY 0 ((F.s.cs).toList) (fun w' A=>A.2.box) (by kernel_rfl) iX (by kernel_rfl) rfl rfl rfl rfl rfl ?_)|(refine gZ.t1 rfl rfl (fun w' A=>by try simp only[S3];first|(have⟨hS,G⟩:=A;have Q:=hS.all;have a4:=G.box.cell (j:=49) (v:=int u64 x) (by rw[←aD.out];rfl);go_simp;try rfl)|(have Q:=A.all;go_simp;try rfl)) ?_));try simp only[S4,S3])
 refine gZ.hH (fun o=>?_);refine gZ.lN 9 13 (n:=6) rfl rfl rfl (by kernel_rfl) (fun K J=>?_) (fun K J=>?_);focus
  (try simp only[S3])
  go_simp;refine(a1 _).mono ?_;rintro e U ⟨Z,E,rfl,O,aa,ab,ac⟩;obtain⟨ak,ad⟩:=hg (show Below D.heap.size D U from hJ hM O) (And.intro aa (And.intro ab ac));clear aa ab ac;refine J.out _ _ (o.1.to O) ((o.2 rfl).below O) (fun o=>?_);(try simp only[S4,S3])
  refine gZ.tq aj 3 [(10,true),(11,true),(12,false)] (by kernel_rfl) o ?_;iterate 3(refine gZ.t1 rfl rfl (fun w' A=>by try simp only[S3];first|(have⟨hS,G⟩:=A;have Q:=hS.all;have a4:=G.box.cell (j:=49) (v:=int u64 x) (by rw[←aD.out];rfl);go_simp;try rfl)|(have Q:=A.all;go_simp;try rfl)) ?_;try simp only[S4,S3])
  refine gZ.hH (fun o=>?_);refine gZ.hY 13 (n:=2) rfl rfl (by kernel_rfl) (fun K J=>?_);(try simp only[S3])
  go_simp;refine J.out _ _ (o.1.alloc _) ((o.2 rfl).below (hz.alloc hj _)) (fun o=>?_);(try simp only[S4,S3])
  change gZ.kI _ _ _ _ _ _ _ _ _ (U.alloc (.cells hC.h4 46));obtain⟨R,al⟩:=hg (ha.new U U.heap.size 46 hC.h4 rfl) (ak.alloc ak.size (.cells hC.h4 46));have aE:=ak.size;obtain⟨a5,a6⟩:=ho (U.alloc (.cells hC.h4 46));obtain⟨L,ae⟩:=ho U.heap.size;rw[a6]at R al⊢;rw[ae]at R aE⊢;have aF:=g' aE;clear ak a6 ae aE o
 rotate_left;focus
  (try simp only[S3])
  go_simp;have a7:Below D.heap.size D (D.drew.alloc (.cells hC.h4 46)):=hM.alloc hj _;have a8:=g' (ha.new D.drew D.heap.size 46 hC.h4 rfl);refine J.out _ _ (o.1.alloc _) ((o.2 rfl).below (hz.alloc hj _)) (fun o=>?_);(try simp only[S4,S3])
  refine gZ.hY 9 (n:=5) rfl rfl (by kernel_rfl) (fun K J=>?_);(try simp only[S3])
  go_simp;refine(a1 _).mono ?_;rintro e a5 ⟨Z,E,rfl,O,aa,ab,ac⟩;obtain⟨al,R,ad⟩:=hs (hJ a7 O) (a8.to O) (And.intro aa (And.intro ab ac));clear a7 a8 aa ab ac;refine J.out _ _ (o.1.to O) ((o.2 rfl).below O) (fun o=>?_);(try simp only[S4,S3])
  refine gZ.tq aj 2 [(10,true),(11,true),(12,false)] (by kernel_rfl) o ?_;iterate 3(refine gZ.t1 rfl rfl (fun w' A=>by try simp only[S3];first|(have⟨hS,G⟩:=A;have Q:=hS.all;have a4:=G.box.cell (j:=49) (v:=int u64 x) (by rw[←aD.out];rfl);go_simp;try rfl)|(have Q:=A.all;go_simp;try rfl)) ?_;try simp only[S4,S3])
  refine gZ.hH (fun o=>?_);obtain⟨L,ae⟩:=ho D.heap.size;have aF:=g' (show D.heap.size≤L by omega);have a9:(D.drew).heap.size=D.heap.size:=rfl;try rw[a9]
  clear a9;rw[ae]at R⊢;clear ae o
 rotate_left;all_goals (
  refine gZ.jc 14 (n:=1) rfl rfl (by kernel_rfl) (by kernel_rfl) (fun K J=>?_);(try simp only[S3])
  rw[if_pos (by rfl)];refine wp_store_row 46 (.tmp 2) (.tmp 18) rfl L Z rfl rfl 46 hC.h4 R (by rw[ad.1];kernel_rfl) (by rw[ad.1];rfl) ad.2.1 ?_;obtain⟨a',V⟩:=hg (R.row Z) (pJ al aF Z);obtain⟨bn,ba⟩:=ho (a5.setRow L Z);rw[ba]at a' V⊢;clear ba o al R aF;refine J.out _ _ (T.below V T.lt) (fun o=>?_);refine gZ.tq aj 0 [(15,false)] (by kernel_rfl) o ?_;iterate 1(refine gZ.t1 rfl rfl (fun w' A=>by try simp only[S3];first|(have⟨hS,G⟩:=A;have Q:=hS.all;go_simp;try rfl)|(have Q:=A.all;go_simp;try rfl)) ?_;try simp only[S4,S3])
  refine gZ.hH (fun o=>?_);clear o;refine gZ.ia rfl ?_;obtain⟨aG,bo,bb⟩:=hs (aC.below V) (T.below V T.lt) (a2.trans (ht.of V));have bz:=bo.all;clear aC T a2 V;by_cases aH:E=0
  ·subst aH
   obtain⟨af,ag,bp,bc,bd⟩:=ad.2.2 rfl;subst bp;obtain⟨be,bf⟩:=aG.uQ (t':={F with s:={F.s with hN:=af,h7:=ag}}) rfl 0 (hC.l2 F.s.cs af ag).toList (by rw[Fc];exact yP F _);have bq:=aG.box.there 0 41 (by show 0+41≤56;omega);obtain⟨bg,bh,bi⟩:=hs be (bb.trans bf) (And.intro bc bd);clear be bf bc bd;go_wp2_with (first|(refine hR a' iX (by kernel_rfl) rfl rfl rfl rfl ?_)|(refine wpList_store_mid rfl 46 (.tmp 25) (.tmp 23) rfl g 0 (hC.l2 F.s.cs af ag) rfl rfl bq (by kernel_rfl) (by kernel_rfl) ?_;generalize bn.setCells g 0 (hC.l2 F.s.cs af ag).toList=w3 at bg bh⊢));go_end0;exact⟨rfl,ai,ms,af,ag,x,y,bh,I.1,I.2.1,bi.1,bi.2,I.2.2.2.1,I.2.2.2.2,(by have h:=bg.out;rw[a3.out]at h;exact h)⟩
  have bA:=iM aH;clear aH;go_wp2;go_end0;exact⟨rfl,ai,ms,a,t.s.h7,x,y,bb,I.1,I.2.1,I.2.2.1,Y.h7,I.2.2.2.1,I.2.2.2.2,(by have h:=aG.out;rw[a3.out]at h;exact h)⟩)
theorem Fl:(prog.info? 96).map (fun i=>(i.zero,i.size,i.bytes))=some (some (.agg #[int u64 0,int u64 0,int u64 0,int i64 0]),4,32):=by kernel_rfl
structure ng (L:World) (s u:Sl) (zs:List Int) (ds:List Std) (W:World):Prop where
 hb:Below L.heap.size L W
 b1:ha W L.heap.size 40 #[s.v]
 b2:ha W (L.heap.size+1) 175 #[u.v]
 r1:W.ownsRow (L.heap.size+2) 3 1 s.v zs.length (zs.map iw)
 r2:W.ownsRow (L.heap.size+2) 96 4 u.v ds.length (flat Std.enc ds)
 ap:Ap s.v u.v
theorem ng.below{L:World}{s u:Sl}{ds:List Std}(h:ng L s u R ds W)(o:Below W.heap.size W w):ng L s u R ds w:=
 ⟨hJ h.hb o,h.b1.to o,h.b2.to o,j0 h.r1 fun k r=>o.block k (h.r1.lt k r).2,j0 h.r2 fun k r=>o.block k (h.r2.lt k r).2,h.ap⟩
theorem ng.n1{L:World}{s u:Sl}{ds:List Std}(h:ng L s u R ds W):s.n=R.length:=by
 rcases h.r1.2 with⟨hv,o⟩|⟨_,_,_,hv,_⟩<;>(unfold Sl.v at hv;cases s;simp only at hv;cases hv)
 ·exact o.symm
 rfl
theorem ng.n2{L:World}{s u:Sl}{ds:List Std}(h:ng L s u R ds W):u.n=ds.length:=by
 rcases h.r2.2 with⟨hv,o⟩|⟨_,_,_,hv,_⟩<;>(unfold Sl.v at hv;cases u;simp only at hv;cases hv)
 ·exact o.symm
 rfl
structure qU (L:World) (s u s':Sl) (zs:List Int) (z:Int) (ds:List Std) (W:World):Prop where
 hb:Below L.heap.size L W
 b1:ha W L.heap.size 40 #[s.v]
 b2:ha W (L.heap.size+1) 175 #[u.v]
 r1:W.ownsRow (L.heap.size+2) 3 1 s'.v (zs.length+1) ((zs++[z]).map iw)
 r2:W.ownsRow (L.heap.size+2) 96 4 u.v ds.length (flat Std.enc ds)
 ap:Ap s'.v u.v
theorem qU.below{L:World}{s u s':Sl}{ds:List Std}(h:qU L s u s' R z ds W)(o:Below W.heap.size W w):qU L s u s' R z ds w:=
 ⟨hJ h.hb o,h.b1.to o,h.b2.to o,j0 h.r1 fun k r=>o.block k (h.r1.lt k r).2,j0 h.r2 fun k r=>o.block k (h.r2.lt k r).2,h.ap⟩
theorem tk{v:Value}{xs:List Value}(r:w.grownBy W v.ownBlock)(z:w.ownsRow b e L v n xs)(o:ha w g t Q)(A:g<b):ha W g t Q:=
 (r.block g o.lt (fun e=>by have:=(z.lt g e.symm).1;omega)).trans o
theorem qj{L:World}{v:Value}{xs:List Value}(o:Below L.heap.size L w)(r:w.grownBy W v.ownBlock)(z:w.ownsRow b e g v n xs)(D:L.heap.size≤b):Below L.heap.size L W:=
 o.grown r o.size (fun k A=>by have:=(z.lt k A).1;omega)
theorem ng.grow{L:World}{s u:Sl}{ds:List Std}(h:ng L s u R ds W)(A:w.ownsRow (L.heap.size+2) 3 1 (.slice (some ⟨b,0,none⟩) (R.length+1) n) (R.length+1) (R.map iw++[int i64 z]))
 (o:W.grownBy w s.v.ownBlock) (D:s.v.ownBlock=some b∨b=W.heap.size):qU L s u ⟨some ⟨b,0,none⟩,R.length+1,n⟩ R z ds w:=by
 refine⟨qj h.hb o h.r1 (by omega),tk o h.r1 h.b1 (by omega),tk o h.r1 h.b2 (by omega),by rw[List.map_append];exact A,?_,?_⟩
 ·refine h.r2.kept o ?_
  rcases h.ap.symm with r|r
  ·exact .inl r
  exact .inr r
 have:=h.ap.symm.step h.r2 (u':= .slice (some ⟨b,0,none⟩) (R.length+1) n) (m:=W.heap.size) (by
  rcases D with e|e
  ·left;rw[e];rfl
  right;rw[←e];rfl) hj
 exact this.symm
theorem vh{v:Value}{xs:List Value}(r:w.grownBy W v.ownBlock)(z:w.ownsRow b e L v n xs)(o:ha w g t Q)(A:t≠e):ha W g t Q:=
 (r.block g o.lt (fun e=>xH o z A e.symm)).trans o
theorem qU.grow{L:World}{s u s':Sl}{ds:List Std}{d:Std}(h:qU L s u s' R z ds W)(A:X.ownsRow (L.heap.size+2) 96 4 (.slice (some ⟨b,0,none⟩) (ds.length+1) n) (ds.length+1) (flat Std.enc ds++d.enc))
 (o:W.grownBy X u.v.ownBlock) (G:u.v.ownBlock=some b∨b=W.heap.size):
 Below L.heap.size L X∧ha X L.heap.size 40 #[s.v]∧ha X (L.heap.size+1) 175 #[u.v]∧
  ng L s' ⟨some ⟨b,0,none⟩,ds.length+1,n⟩ (R++[z]) (ds++[d]) ((X.setCell ⟨L.heap.size,0,none⟩ s'.v).setCell ⟨L.heap.size+1,0,none⟩ (Sl.v ⟨some ⟨b,0,none⟩,ds.length+1,n⟩)):=by
 have D:=qj h.hb o h.r2 (by omega);have E:=tk o h.r2 h.b1 (by omega);have F:=tk o h.r2 h.b2 (by omega);refine⟨D,E,F,?_,?_,?_,?_,?_,?_⟩
 ·exact(D.setCell (p:=⟨L.heap.size,0,none⟩) hj _).setCell (p:=⟨L.heap.size+1,0,none⟩) (by show _≤L.heap.size+1;omega) _
 ·exact(E.set 0 s'.v).other (by show L.heap.size≠L.heap.size+1;omega) _
 ·exact(F.other (by show L.heap.size+1≠L.heap.size;omega) _).set 0 _
 ·rw[List.length_append]
  refine j0 ?_ (w:=X) fun k r=>?_
  ·exact h.r1.kept o h.ap
  have:=(h.r1.lt k r).1;rw[Below.heap_setCell _ _ _ _ (by show k≠L.heap.size+1;omega),Below.heap_setCell _ _ _ _ (by show k≠L.heap.size;omega)]
 ·rw[List.length_append,ld,mi]
  refine j0 A fun k r=>?_;have:=(A.lt k r).1;rw[Below.heap_setCell _ _ _ _ (by show k≠L.heap.size+1;omega),Below.heap_setCell _ _ _ _ (by show k≠L.heap.size;omega)]
 exact h.ap.step h.r1 (m:=W.heap.size) (by
  rcases G with e|e
  ·left;rw[e];rfl
  right;rw[←e];rfl) hj
def MJ(L:World)(t:Tk)(c:hl)(r:Rc)(κ:hr)(k:Nat)(S:TS)(W:World):Prop:=S=⟨κ,t,c,r⟩∧∃s u o ds,ng L s u o ds W∧o.length=ds.length∧o.length≤k∧∀z∈o,0≤z∧z<(k:Int)
theorem Fm(κ:hr)(g B b:Nat)(t:Tk)(c:hl)(r:Rc)(L:World)(am:hK κ g t c r L)(az:ha L B 136 #[.pointer (some ⟨g,0,none⟩)])(aP:c.mm.length≤1000000)(aQ:t.s.me=⟨some ⟨b,0,none⟩,t.s.me.n,t.s.me.c⟩)(k:Nat)(bl:k≤100000)(S:TS)(W:World)(m:Mem)(a2:MJ L t c r κ k S W)(aA:S.c.ms[k]?=some m):
 Calls prog 109 #[int i64 k,.pointer (some ⟨b,k*6,none⟩),.pointer (some ⟨B,0,none⟩),.pointer (some ⟨L.heap.size,0,none⟩),.pointer (some ⟨L.heap.size+1,0,none⟩)] W fun e ae=>e= .returned (.tuple #[])∧∃a3,MJ L t c r κ (k+1) a3 ae:=by
 obtain⟨rfl,s,u,O,ds,an,aR,aS,ad⟩:=a2;simp only at aA;obtain⟨aB,aC,aD,aE,aF⟩:=info_parts qf;obtain⟨a4,a5,a6,a7,a8⟩:=info_parts Fl;obtain⟨a9,aT,bm,a',ba,aG,ak,af⟩:=mI (fun ae (bb:hK κ g t c r ae)=>vd κ g t _ r k (by omega) ae bb aP) (fun ae (hb:Below L.heap.size L ae)=>am.below hb) (fun ae (hb:Below L.heap.size L ae)=>az.to hb) aQ aA an (And.intro aR (And.intro aS ad)) (show O.length≤100000∧ds.length≤100000 by omega);have aU:=an.n1;have aV:=an.n2;have bn:=(az.to an.hb).all;obtain⟨ao,aH⟩:=hk L.heap.size;obtain⟨aI,aJ⟩:=hk (L.heap.size+1);have o:=g' (And.intro aH aJ);rw[←aJ,←aH];obtain⟨ap,bo,aq⟩:=s;obtain⟨aK,bp,aL⟩:=u;simp only at aU aV;subst aU aV;clear am az aQ aA an aR aS ad aP aH aJ;go_enter func109,ntmps109;go_wp2_with fail;refine(a9 _ (aT _ aG.hb)).mono ?_;rintro e F ⟨bc,rfl,aW⟩;have al:=g' (aG.below aW);clear aW;cases bc
 ·go_wp2
  go_end0;exact⟨rfl,_,rfl,_,_,O,ds,al,ak.1,Nat.le_succ_of_le ak.2.1,fun z ad=>by have:=ak.2.2 z ad;omega⟩
 clear aG;go_wp2;refine gZ.rg (fun w'=>True) (fun w'=>Below L.heap.size L w'∧w'.cell? ⟨ao,0,none⟩=some (.slice ap O.length aq)∧w'.cell? ⟨aI,0,none⟩=some (.slice aK ds.length aL)) 11 13 (by kernel_rfl) (by rintro _ _ (_|_) _ _ h<;>exact h) trivial (⟨Below.drew al.hb,by rw[o.1];exact al.b1.cell (j:=0) rfl,by rw[o.2];exact al.b2.cell (j:=0) rfl⟩) fun bd Q=>?_;refine gZ.tq bd 6 (gZ.sq 0 2 true (gZ.sq 4 1 true (gZ.sq 5 3 false (gZ.sq 8 1 true [])))) (by kernel_rfl) Q ?_;iterate 7((first|(refine gZ.jK (.agg ((im m).enc).toArray) rfl (yieldsIf_load_mid (by rfl) 96 (.tmp 17) rfl b ((k*6)) rfl ((im m).enc) _ (fun w' aM=>by have⟨hS,am⟩:=gZ.mU aM;exact((aT _ am.1).oT ba a').1) km rfl (by kernel_rfl)) ?_)|(refine gZ.t1 rfl rfl (fun w' aM=>by try simp only[S3];first|(have⟨hS,am⟩:=aM;go_simp;try rfl)|(go_simp;try rfl)) ?_));try simp only[S4,S3])
 refine gZ.hH (fun Q=>?_);refine gZ.lN 2 9 (n:=5) rfl rfl rfl (by kernel_rfl) (fun K A=>?be) (fun K A=>?bf)
 case' be=>
  (try simp only[S3])
  go_simp;change K _ (F.drew.alloc (.cells #[int i64 k] 3));have D:Below F.heap.size F (F.drew.alloc (.cells #[int i64 k] 3)):=hM.alloc hj _;have I:=ha.new F.drew F.heap.size 3 #[int i64 k] rfl;obtain⟨E,U⟩:=ho (F.drew.alloc (.cells #[int i64 k] 3));rw[U]at D I⊢;obtain⟨Z,ag⟩:=hg (al.below D) I;obtain⟨ax,V⟩:=ho F.heap.size;have X:(F.drew).heap.size=F.heap.size:=rfl;try rw[X]
  rw[V]at ag⊢;clear D I U V X;refine A.out _ _ trivial (⟨Z.hb,by rw[o.1];exact Z.b1.cell (j:=0) rfl,by rw[o.2];exact Z.b2.cell (j:=0) rfl⟩) (fun Q=>?_);(try simp only[S4,S3])
  refine gZ.lN 3 9 (n:=4) rfl rfl rfl (by kernel_rfl) (fun K A=>?bg) (fun K A=>?bh)
  case' bg=>
   (try simp only[S3])
   rw[if_pos (by rfl)];refine wp_append_lies _ (.tmp 10) (.tmp 12) 40 (by rfl) (L.heap.size+2) 3 aB _ 1 8 kB aC aD aE aF (by rfl) (by omega) (.slice ap O.length aq) O.length (O.map iw) (by rfl) Z.r1 ⟨ax,0,none⟩ 1 1 [int i64 k] (by rfl) (by rfl) (fun j v J=>by rw[hG.k1];exact ag.cell (by simpa using J)) (by intro v J;simp at J;subst J;rfl) (by omega) (by have:=af.out;unfold maxLen;omega) (by have:=af.out;omega) (by have aN:=Z.b2.lt;omega) _ rfl ?_;intro ar au aa ab Y ac ai;have G:=g' (Z.grow ab Y ac);clear ab Y ac ai;refine A.out _ _ trivial (⟨G.hb,by rw[o.1];exact G.b1.cell (j:=0) rfl,by rw[o.2];exact G.b2.cell (j:=0) rfl⟩) (fun Q=>?_);(try simp only[S4])
   refine gZ.hY 9 (n:=3) rfl rfl (by kernel_rfl) (fun K A=>?_);(try simp only[S3])
   go_simp;change K _ (aa.alloc (.cells (im m).cs 96));have D:Below aa.heap.size aa (aa.alloc (.cells (im m).cs 96)):=hz.alloc hj _;have I:=ha.new aa aa.heap.size 96 (im m).cs rfl;obtain⟨av,U⟩:=ho (aa.alloc (.cells (im m).cs 96));rw[U]at D I⊢;obtain⟨R,T⟩:=hg (G.below D) I;obtain⟨aO,V⟩:=ho aa.heap.size;have X:(aa).heap.size=aa.heap.size:=rfl;try rw[X]
   rw[V]at T⊢;clear D I U V X;refine A.out _ _ trivial (⟨R.hb,by rw[o.1];exact R.b1.cell (j:=0) rfl,by rw[o.2];exact R.b2.cell (j:=0) rfl⟩) (fun Q=>?_);(try simp only[S4,S3])
   obtain⟨aX,ah⟩:=ho av;rw[ah]at R T⊢;have aw:=g' R;clear ah Q
  case' bh=>
   (try simp only[S3])
   go_simp;change K _ (E.alloc (.cells (im m).cs 96));have D:Below E.heap.size E (E.alloc (.cells (im m).cs 96)):=hz.alloc hj _;have I:=ha.new E E.heap.size 96 (im m).cs rfl;obtain⟨aa,U⟩:=ho (E.alloc (.cells (im m).cs 96));rw[U]at D I⊢;obtain⟨G,ag,T⟩:=hs (Z.below D) (ag.to D) I;obtain⟨aO,V⟩:=ho E.heap.size;have X:(E).heap.size=E.heap.size:=rfl;try rw[X]
   rw[V]at T⊢;clear D I U V X;refine A.out _ _ trivial (⟨G.hb,by rw[o.1];exact G.b1.cell (j:=0) rfl,by rw[o.2];exact G.b2.cell (j:=0) rfl⟩) (fun Q=>?_);(try simp only[S4,S3])
   refine gZ.hY 3 (n:=3) rfl rfl (by kernel_rfl) (fun K A=>?_);(try simp only[S3])
   rw[if_pos (by rfl)];refine wp_append_lies _ (.tmp 10) (.tmp 12) 40 (by rfl) (L.heap.size+2) 3 aB _ 1 8 kB aC aD aE aF (by rfl) (by omega) (.slice ap O.length aq) O.length (O.map iw) (by rfl) G.r1 ⟨ax,0,none⟩ 1 1 [int i64 k] (by rfl) (by rfl) (fun j v J=>by rw[hG.k1];exact ag.cell (by simpa using J)) (by intro v J;simp at J;subst J;rfl) (by omega) (by have:=af.out;unfold maxLen;omega) (by have:=af.out;omega) (by have aN:=G.b2.lt;omega) _ rfl ?_;intro ar au av ab Y ac ai;obtain⟨R,T⟩:=hg (G.grow ab Y ac) (vh Y G.r1 T (by decide));clear ab Y ac ai;refine A.out _ _ trivial (⟨R.hb,by rw[o.1];exact R.b1.cell (j:=0) rfl,by rw[o.2];exact R.b2.cell (j:=0) rfl⟩) (fun Q=>?_);(try simp only[S4])
   obtain⟨aX,ah⟩:=ho av;rw[ah]at R T⊢;have aw:=g' R;clear ah Q
 case' bf=>
  (try simp only[S3])
  go_simp;change K _ (F.drew.alloc (.cells (im m).cs 96));have D:Below F.heap.size F (F.drew.alloc (.cells (im m).cs 96)):=hM.alloc hj _;have I:=ha.new F.drew F.heap.size 96 (im m).cs rfl;obtain⟨E,U⟩:=ho (F.drew.alloc (.cells (im m).cs 96));rw[U]at D I⊢;obtain⟨Z,T⟩:=hg (al.below D) I;obtain⟨aO,V⟩:=ho F.heap.size;have X:(F.drew).heap.size=F.heap.size:=rfl;try rw[X]
  rw[V]at T⊢;clear D I U V X;refine A.out _ _ trivial (⟨Z.hb,by rw[o.1];exact Z.b1.cell (j:=0) rfl,by rw[o.2];exact Z.b2.cell (j:=0) rfl⟩) (fun Q=>?_);(try simp only[S4,S3])
  refine gZ.hY 2 (n:=4) rfl rfl (by kernel_rfl) (fun K A=>?_);(try simp only[S3])
  go_simp;change K _ (E.alloc (.cells #[int i64 k] 3));have D:Below E.heap.size E (E.alloc (.cells #[int i64 k] 3)):=hz.alloc hj _;have I:=ha.new E E.heap.size 3 #[int i64 k] rfl;obtain⟨aa,U⟩:=ho (E.alloc (.cells #[int i64 k] 3));rw[U]at D I⊢;obtain⟨G,T,ag⟩:=hs (Z.below D) (T.to D) I;obtain⟨ax,V⟩:=ho E.heap.size;have X:(E).heap.size=E.heap.size:=rfl;try rw[X]
  rw[V]at ag⊢;clear D I U V X;refine A.out _ _ trivial (⟨G.hb,by rw[o.1];exact G.b1.cell (j:=0) rfl,by rw[o.2];exact G.b2.cell (j:=0) rfl⟩) (fun Q=>?_);(try simp only[S4,S3])
  refine gZ.hY 3 (n:=3) rfl rfl (by kernel_rfl) (fun K A=>?_);(try simp only[S3])
  rw[if_pos (by rfl)];refine wp_append_lies _ (.tmp 10) (.tmp 12) 40 (by rfl) (L.heap.size+2) 3 aB _ 1 8 kB aC aD aE aF (by rfl) (by omega) (.slice ap O.length aq) O.length (O.map iw) (by rfl) G.r1 ⟨ax,0,none⟩ 1 1 [int i64 k] (by rfl) (by rfl) (fun j v J=>by rw[hG.k1];exact ag.cell (by simpa using J)) (by intro v J;simp at J;subst J;rfl) (by omega) (by have:=af.out;unfold maxLen;omega) (by have:=af.out;omega) (by have aN:=G.b2.lt;omega) _ rfl ?_;intro ar au av ab Y ac ai;obtain⟨R,T⟩:=hg (G.grow ab Y ac) (vh Y G.r1 T (by decide));clear ab Y ac ai;refine A.out _ _ trivial (⟨R.hb,by rw[o.1];exact R.b1.cell (j:=0) rfl,by rw[o.2];exact R.b2.cell (j:=0) rfl⟩) (fun Q=>?_);(try simp only[S4])
  obtain⟨aX,ah⟩:=ho av;rw[ah]at R T⊢;have aw:=g' R;clear ah Q
 all_goals (
  refine gZ.hY 10 (n:=2) rfl rfl (by kernel_rfl) (fun K A=>?_);(try simp only[S3])
  rw[if_pos (by rfl)];refine wp_append_lies _ (.tmp 14) (.tmp 19) 175 (by rfl) (L.heap.size+2) 96 a4 _ 4 32 underlying175 a5 a6 a7 a8 (by rfl) (by omega) (.slice aK ds.length aL) ds.length (flat Std.enc ds) (by rfl) aw.r2 ⟨aO,0,none⟩ 1 1 (im m).enc (by rfl) (by rfl) (fun j v J=>by rw[hG.k1];exact T.cell (by simpa[Std.cs,Std.enc]using J)) (fun v J=>List.all_eq_true.1 (show(im m).enc.all (·.oneCell')=true from rfl) v J) (by omega) (by have:=af.out;unfold maxLen;omega) (by have:=af.out;omega) (by have aN:=aw.b2.lt;omega) _ rfl ?_;intro bi bj ay ab Y ac ai;obtain⟨aY,aZ,a0,a1⟩:=aw.grow (d:=im m) ab Y ac;obtain⟨aj,bk⟩:=hg (And.intro aY (And.intro aZ a0)) a1;clear aY aZ a0 a1 ab Y ac ai;refine A.out _ _ trivial (⟨aj.1,by rw[o.1];exact aj.2.1.cell (j:=0) rfl,by rw[o.2];exact aj.2.2.cell (j:=0) rfl⟩) (fun Q=>?_);(try simp only[S4])
  refine gZ.jc 11 (n:=1) rfl rfl (by kernel_rfl) (by kernel_rfl) (fun K A=>?_);(try simp only[S3])
  have bq:ay.cell? ⟨ao,0,none⟩=some (.slice ap O.length aq):=by rw[o.1];exact aj.2.1.cell (j:=0) rfl
  have br:ay.frozen? ⟨ao,0,none⟩=false:=by rw[o.1];exact aj.2.1.frozen 0
  go_simp;refine A.out _ _ trivial (fun Q=>?_);refine gZ.jc 12 (n:=0) rfl rfl (by kernel_rfl) (by kernel_rfl) (fun K A=>?_);(try simp only[S3])
  have bt:(ay.setCell ⟨ao,0,none⟩ (.slice (some ⟨ar,0,none⟩) (O.length+1) au)).cell? ⟨aI,0,none⟩=some (.slice aK ds.length aL):=by rw[o.1,o.2];exact(aj.2.2.other (by show L.heap.size+1≠L.heap.size;omega) _).cell (j:=0) rfl
  have bu:(ay.setCell ⟨ao,0,none⟩ (.slice (some ⟨ar,0,none⟩) (O.length+1) au)).frozen? ⟨aI,0,none⟩=false:=by rw[o.1,o.2];exact(aj.2.2.other (by show L.heap.size+1≠L.heap.size;omega) _).frozen 0
  go_simp;refine A.out _ _ trivial (fun Q=>?_);clear Q;refine gZ.ia rfl ?_;go_wp2;go_end0;refine⟨rfl,_,rfl,(⟨some ⟨ar,0,none⟩,O.length+1,au⟩:Sl),(⟨some ⟨bi,0,none⟩,ds.length+1,bj⟩:Sl),O++[(k:Int)],ds++[im m],(by have h:=bk.out;rw[←o.2,←o.1]at h;exact h),by rw[List.length_append,List.length_append,ak.1];rfl,by rw[List.length_append];have:=ak.2.1;simp only[List.length_singleton];omega,fun z ad=>?_⟩;rcases List.mem_append.1 ad with ad|ad
  ·have:=ak.2.2 z ad;omega
  obtain rfl:=List.mem_singleton.1 ad;omega)
def kF(o:Int)(q:Bool)(m:hp):Bool:=decide (m.st=2)&&decide (m.du≤o)&&(q||decide (m.wh=3)||decide (m.wh=4))
def ka(o:Int)(q:Bool)(r:List hp)(k:Nat):List Int:=((List.range k).filter fun j=>match r[j]? with|some m=>kF o q m|none=>false).map fun(j:Nat)=>(j:Int)
theorem qV{q:Bool}{o:List hp}{m:hp}(r:o[k]?=some m)(h:kF E q m=true):ka E q o (k+1)=ka E q o k++[(k:Int)]:=by
 unfold ka;rw[List.range_succ,List.filter_append,List.map_append];simp[r,h]
theorem tl{q:Bool}{o:List hp}{m:hp}(r:o[k]?=some m)(h:kF E q m=false):ka E q o (k+1)=ka E q o k:=by
 unfold ka;rw[List.range_succ,List.filter_append,List.map_append];simp[r,h]
theorem yR(o:Int)(q:Bool)(r:List hp)(k:Nat):(ka o q r k).length≤k:=by
 unfold ka;rw[List.length_map];have:=List.length_filter_le (fun j=>match r[j]? with|some m=>kF o q m|none=>false) (List.range k);rw[List.length_range]at this;exact this
theorem uo(s:Sl)(r:List hp)(o:Int)(q:Bool)(w:World)(h:hV w w.heap.size s.A s.n 33 (flat hp.enc r))(aF:s.Ok)(aU:s.n≤100000):
 Calls prog 124 #[.slice s.A s.n s.c,int i64 o,.bool q] w fun e w'=>∃v,e= .returned v∧w'.ownsRow w.heap.size 3 1 v (ka o q r s.n).length ((ka o q r s.n).map iw)∧Below w.heap.size w w':=by
 have aG:=h.len hp.len (by omega);obtain⟨am,an,ao,ap,aq⟩:=info_parts qf;obtain⟨aV,aW,aX⟩:=hs aG (fun W (hb:Below w.heap.size w W)=>h.below hb) aF;clear h aF aG;obtain⟨ai,ar⟩:=hk s.n;rw[←ar]at aU⊢;have aH:=g' ar;obtain⟨a8,au⟩:=hk s.A;rw[←au];have aY:=g' au;clear ar au;go_enter func124,ntmps124;go_wp2;go_loopw [7,12] (fun aZ av wr=>∃(k:Nat) (u:Sl),aZ= .slice u.A u.n u.c∧av=int i64 k∧k≤ai∧wr.ownsRow w.heap.size 3 1 (.slice u.A u.n u.c) u.n ((ka o q r k).map iw)∧u.n=(ka o q r k).length∧Below w.heap.size w wr) (fun _ av _=>ai-(intOf av).toNat)
 case atStart=>exact⟨0,Sl.nil,rfl,rfl,h6,World.ownsRow_nil _ _ _ _,rfl,hz⟩
 case round=>
  obtain⟨k,u,rfl,rfl,K,X,Y,Z⟩:=hrel;obtain⟨aa,E,ab⟩:=u;simp only at X Y⊢;by_cases aj:k<ai
  ·have a0:=hZ aj
   have ac:i64.wrap ((k:Int)+1)=((k+1:Nat):Int):=by rw[IntKind.wrap_i64];omega
   obtain⟨m,aw⟩:∃m,r[k]?=some m:=⟨_,iB (by rw[aV.out,←aH.out];exact aj)⟩;obtain⟨g,aI,aJ⟩:=rS aX (aW wr Z) hp.len (by rw[←aH.out];exact aj) aw (by omega);obtain⟨aK,I,aL,F,aM⟩:=jg aJ aw X (And.intro Y (yR o q r k)) Z;obtain⟨aN,ax⟩:=hk m.st;obtain⟨aO,ay⟩:=hk m.du;obtain⟨az,aA⟩:=hk m.wh;have z:=g' (And.intro ax (And.intro ay aA));rw[←aY.out]at aI;subst aI;clear aJ X Y Z aw;go_upto_region 5 with(first|(refine wpList_load_mid rfl 59 (.tmp 15) (by rfl) g (k*33) (by first|rfl|(simp only[hG.k1];rfl)) m.enc _ aK nE rfl rfl ?_)|(refine jD rfl 59 (.tmp 9) (.tmp 16) rfl m.cs rfl rfl (nD _) rfl (qK _) ?_;intro J ak al _))
   have aB:=aM.size;obtain⟨ad,O,aC⟩:=hs (aM.trans (al.mono aB)) (j0 aL fun k K=>al.block k (aL.lt k K).2) (Nat.le_trans aB al.size);have a1:J.cell? ⟨wr.heap.size,30,none⟩=some (int i64 aN):=by rw[ax];exact ak.cell (j:=30) rfl
   have a2:J.cell? ⟨wr.heap.size,29,none⟩=some (int i64 aO):=by rw[ay];exact ak.cell (j:=29) rfl
   have a3:J.cell? ⟨wr.heap.size,1,none⟩=some (int i64 az):=by rw[aA];exact ak.cell (j:=1) rfl
   obtain⟨a9,aD⟩:=hk wr.heap.size;rw[←aD]at a1 a2 a3;try rw[←aD]
   clear al aB ax ay aA ak aD aK;by_cases aP:aN=2;focus
    have a4:=jU aP;by_cases aQ:aO≤o
    ·have a5:=hZ aQ
     cases q
     ·by_cases aR:az=3
      ·have a6:=jU aR
       obtain⟨D,Q,R⟩:=hs (show kF o false m=true by unfold kF;rw[←z.1,←z.2.1,←z.2.2];simp[*]) (ad.alloc aC (.cells #[int i64 (k:Int)] 3)) (j0 O (w':=J.alloc (.cells #[int i64 (k:Int)] 3)) fun k K=>(hz.alloc hj _).block k (O.lt k K).2);go_wp2_with (at_builtin;refine wpList_append_lies _ rfl (.tmp 39) (.tmp 41) 40 rfl w.heap.size 3 am _ 1 8 kB an ao ap aq rfl (by decide) (.slice aa E ab) E ((ka o false r k).map iw) rfl R ⟨J.heap.size,0,none⟩ 1 1 [int i64 (k:Int)] rfl rfl (kp _ _ _ _ (by simp)) (by intro v S;simp at S;subst S;rfl) (by omega) (by have:=F.out;unfold maxLen;omega) (by have:=F.out;omega) Q.size _ rfl ?_;intro ae af aS G T ag ah;have U:(ka o false r k).map iw++[int i64 (k:Int)]=(ka o false r (k+1)).map iw:=(by rw[qV I.out D.out,List.map_append];rfl);rw[U]at G;have V:=g' (And.intro G (qj Q T R hj));clear G T ag ah U);exact⟨⟨k+1,⟨some ⟨ae,0,none⟩,E+1,af⟩,rfl,by first|rfl|rw[ac],by omega,V.1,(by rw[qV I.out D.out,List.length_append];have:=F.1;simp only[List.length_singleton];omega),V.2⟩,by simp[intOf];omega⟩
      have a6:=iM aR;by_cases aT:az=4
      ·have a7:=jU aT
       obtain⟨D,Q,R⟩:=hs (show kF o false m=true by unfold kF;rw[←z.1,←z.2.1,←z.2.2];simp[*]) (ad.alloc aC (.cells #[int i64 (k:Int)] 3)) (j0 O (w':=J.alloc (.cells #[int i64 (k:Int)] 3)) fun k K=>(hz.alloc hj _).block k (O.lt k K).2);go_wp2_with (at_builtin;refine wpList_append_lies _ rfl (.tmp 39) (.tmp 41) 40 rfl w.heap.size 3 am _ 1 8 kB an ao ap aq rfl (by decide) (.slice aa E ab) E ((ka o false r k).map iw) rfl R ⟨J.heap.size,0,none⟩ 1 1 [int i64 (k:Int)] rfl rfl (kp _ _ _ _ (by simp)) (by intro v S;simp at S;subst S;rfl) (by omega) (by have:=F.out;unfold maxLen;omega) (by have:=F.out;omega) Q.size _ rfl ?_;intro ae af aS G T ag ah;have U:(ka o false r k).map iw++[int i64 (k:Int)]=(ka o false r (k+1)).map iw:=(by rw[qV I.out D.out,List.map_append];rfl);rw[U]at G;have V:=g' (And.intro G (qj Q T R hj));clear G T ag ah U);exact⟨⟨k+1,⟨some ⟨ae,0,none⟩,E+1,af⟩,rfl,by first|rfl|rw[ac],by omega,V.1,(by rw[qV I.out D.out,List.length_append];have:=F.1;simp only[List.length_singleton];omega),V.2⟩,by simp[intOf];omega⟩
      have a7:=iM aT;have D:=g' (show kF o false m=false by unfold kF;rw[←z.1,←z.2.1,←z.2.2];simp[*]);go_wp2;exact⟨⟨k+1,⟨aa,E,ab⟩,rfl,by first|rfl|rw[ac],by omega,(by rw[tl I.out D.out];exact O),(by rw[tl I.out D.out];exact F.1),ad⟩,by simp[intOf];omega⟩
     have D:=g' (show kF o true m=true by unfold kF;rw[←z.1,←z.2.1,←z.2.2];simp[*]);obtain⟨Q,R⟩:=hg (ad.alloc aC (.cells #[int i64 (k:Int)] 3)) (j0 O (w':=J.alloc (.cells #[int i64 (k:Int)] 3)) fun k K=>(hz.alloc hj _).block k (O.lt k K).2);go_wp2_with (at_builtin;refine wpList_append_lies _ rfl (.tmp 39) (.tmp 41) 40 rfl w.heap.size 3 am _ 1 8 kB an ao ap aq rfl (by decide) (.slice aa E ab) E ((ka o true r k).map iw) rfl R ⟨J.heap.size,0,none⟩ 1 1 [int i64 (k:Int)] rfl rfl (kp _ _ _ _ (by simp)) (by intro v S;simp at S;subst S;rfl) (by omega) (by have:=F.out;unfold maxLen;omega) (by have:=F.out;omega) Q.size _ rfl ?_;intro ae af aS G T ag ah;have U:(ka o true r k).map iw++[int i64 (k:Int)]=(ka o true r (k+1)).map iw:=(by rw[qV I.out D.out,List.map_append];rfl);rw[U]at G;have V:=g' (And.intro G (qj Q T R hj));clear G T ag ah U);exact⟨⟨k+1,⟨some ⟨ae,0,none⟩,E+1,af⟩,rfl,by first|rfl|rw[ac],by omega,V.1,(by rw[qV I.out D.out,List.length_append];have:=F.1;simp only[List.length_singleton];omega),V.2⟩,by simp[intOf];omega⟩
    have a5:=h1 aQ
   rotate_left;focus
    have a4:=iM aP
   rotate_left;all_goals
    have D:=g' (show kF o q m=false by unfold kF;rw[←z.1,←z.2.1,←z.2.2];simp[*]);go_wp2;exact⟨⟨k+1,⟨aa,E,ab⟩,rfl,by first|rfl|rw[ac],by omega,(by rw[tl I.out D.out];exact O),(by rw[tl I.out D.out];exact F.1),ad⟩,by simp[intOf];omega⟩
  have a0:=h1 aj;obtain rfl:k=ai:=by omega
  have aE:=g' (And.intro X (And.intro Y Z));clear X Y Z;go_wp2;go_ret;exact⟨_,rfl,by rw[←aE.2.1];exact aE.1,aE.2.2⟩
end hB
end Go.Proofs.YtffbipddbnkdjaaGreat
