/- What functions compute at any arguments, and plain facts: What a hand does: money sent, a deposit that waits, who is marked; A hand's leave; A vote: moot.Vote; a bit that is set, in a row of one's own and others. Conditions: those that each theorem names. -/
import Derived.Test.YtffbipddbnkdjaaGreatZ30
set_option maxRecDepth 100000
set_option maxHeartbeats 40000000
set_option linter.all false
open Go Go.Proofs.Tryz
open Go.Value(int)
open Go.IntKind(i64 u64)
variable{A T:Option Addr}{n g b L k B i x a m j q c p s r d h u N y:Nat}{E z:Int}{P:Program}{w W X Z:World}{e t:TypeId}{f:Nat→Value}{l:List Bool}{V U:Value}{Y:List Nat}{S:List Value}{R:List Int}{Q:Array Value}{O:List (List Nat)}{M:Bool}{K:Ending}{J:Addr}{I:Nat→Nat}{H:Option Nat}
namespace Go.Proofs.YtffbipddbnkdjaaGreat
namespace hB
open RowKit
open hG hf hC h0 hU
theorem HI.pu{o:hA}{r:hl}{s:hA}{c:hl}(h:HI o r k s c)(u:Sl)(L:List Nat)(z:L.length=c.us.length):HI o r k {s with pu:=u} {c with us:=L}:=
 ⟨h.p,h.hX,h.gen,h.hO,h.h7,h.hN,h.ep,h.calm,h.em,h.du,h.es,h.rs,h.ms,h.ml,z.trans h.us,h.ds,h.dl,h.xl,h.mo,h.kT,h.mm⟩
theorem HI.po{r:hA}{z:hl}{s:hA}{c:hl}(h:HI r z k s c)(u:Sl)(x:h')(A:x.am<18446744073709551616):HI r z (k+1) {s with po:=u} {c with ds:=c.ds++[x]}:=
 ⟨h.p,h.hX,h.gen,h.hO,h.h7,h.hN,h.ep,h.calm,h.em,h.du,h.es,h.rs,h.ms,h.ml,h.us,fun d o=>(by rcases List.mem_append.1 o with o|o;exact h.ds d o;obtain rfl:=List.mem_singleton.1 o;exact A),by rw[List.length_append,List.length_singleton];have:=h.dl;omega,by show c.xs.length≤_;have:=h.xl;omega,h.mo,by show c.mo.length≤_;have:=h.kT;omega,h.mm⟩
theorem HI.ma{o:hA}{r:hl}{s:hA}{c:hl}(h:HI o r k s c)(u:Sl)(bs:List Nat)(z:bs.length≤1000000):HI o r k {s with ma:=u} {c with mm:=bs}:=
 ⟨h.p,h.hX,h.gen,h.hO,h.h7,h.hN,h.ep,h.calm,h.em,h.du,h.es,h.rs,h.ms,h.ml,h.us,h.ds,h.dl,h.xl,h.mo,h.kT,z⟩
theorem ib.pn{κ:hr}{s:hA}{c:hl}(h:ib κ g s c w):s.pu.n=c.us.length:=h.row.n.pu.1.symm
theorem ib.tr{κ:hr}{s:hA}{c:hl}(h:ib κ g s c w)(o:Below w.heap.size w W){v:Value}{L:List Nat}(D:Wd L)(E:W.ownsRow w.heap.size 22 1 v L.length (L.map uw)):
 ∃u:Sl,v=u.v∧(ib κ g {s with pu:=u} {c with us:=L} (W.setCell ⟨g,32,none⟩ (.slice u.A u.n u.c))∧ht κ w κ (W.setCell ⟨g,32,none⟩ (.slice u.A u.n u.c))):=by
 obtain⟨u,rfl,-,F,G⟩:=vc (κ:=κ) rfl D E h.fresh;have r:=h.below o;have z:=r.kZ (s':={s with pu:=u}) (c':={c with us:=L}) (r.row.yr u L F G) 32 (.slice u.A u.n u.c) rfl;exact⟨u,rfl,z.1,(ht.of o).trans z.2⟩
theorem Gu(κ:hr)(g:Nat)(S:hA)(J:hl)(k:Nat)(s:hA)(c:hl)(w:World)(d:DD)(h:ib κ g s c w)(O:HI S J k s c)(z:d.Good w)(T:J.us.length≤1000000):
 Calls prog 140 #[.pointer (some ⟨g,0,none⟩),.agg d.cs] w (HP κ g S J k w):=by
 have U:=h.pn;have al:=g' (fun W (D:ib κ g s c W)=>Gp s.pu.A s.pu.n s.pu.c d.ac d.h8 d.am c.us W D.row.n.seen.pu (by rw[U,O.us];exact T) (by have:=z.am;omega) (by have:=z.ac;omega) (by have:=z.h8;omega));obtain⟨F,V,Q,X⟩:=iF w d.cs 70;have D:=h.below Q;have Y:=g' (ht.of (κ:=κ) Q);obtain⟨an,Z,aa⟩:=hs X D V;clear X D Q V;have ab:=g' O;clear h O z U T;go_enter func140,ntmps140;go_upto_region 1 with(fail)
 rw[aa.out];clear aa;refine gZ.iP (fun w'=>ib κ g s c w'∧ha w' w.heap.size 70 d.cs) 17 (by kernel_rfl) (by rintro _ _ (_|_) _ _ h<;>exact h) (⟨Z.below hM,an.drew⟩) fun ad o=>?_;refine gZ.tq ad 6 (gZ.sq 0 11 false []) (by kernel_rfl) o ?_;iterate 11(refine gZ.t1 rfl rfl (fun w' r=>by try simp only[S3];have ao:=r.1.box.all;have ap:=r.2.all;go_simp;try rfl) ?_;try simp only[S4,S3])
 refine gZ.hH (fun o=>?_);refine gZ.hY 11 (n:=5) rfl rfl (by kernel_rfl) (fun K aq=>?_);(try simp only[S3])
 go_simp;refine(al _ o.1.1).mono ?_;rintro e ax ⟨v,E,rfl,G,ae⟩;obtain⟨I,ar,au,af⟩:=h5 (o.1.1.below G) (o.1.2.to G) ae G;clear ae G;refine aq.out _ _ (⟨I,ar⟩) trivial (fun o=>?_);(try simp only[S4,S3])
 refine gZ.tq ad 0 (gZ.sq 12 5 false []) (by kernel_rfl) o ?_;iterate 5(refine gZ.t1 rfl rfl (fun w' r=>by try simp only[S3];have ao:=r.1.box.all;have ap:=r.2.all;go_simp;try rfl) ?_;try simp only[S4,S3])
 refine gZ.hH (fun o=>?_);clear o;refine gZ.ia rfl ?_;(try simp only[S4])
 have av:=g' (Y.trans ((ht.of (κ:=κ) (Below.drew (Below.refl F.heap.size F))).trans (ht.of af)));by_cases R:E=0
 ·subst R
  obtain⟨L,ag,ah,ai⟩:=au rfl;obtain⟨u,rfl,aj⟩:=(Z.below hM).tr af ah ai;obtain⟨ak,aw⟩:=hg aj ag;have ay:=I.box.all;have az:=I.box.frozen 32;clear ag ah ai aj;simp only[Sl.v];go_wp2;go_ret;exact⟨_,κ,_,_,rfl,ak.1,(Y.trans (ht.of (κ:=κ) (Below.drew (Below.refl F.heap.size F)))).trans ak.2,(ab.pu u L aw).more (Nat.le_succ k)⟩
 have aA:=iM R;clear R;go_wp2;go_ret;exact HP.same I av ab
def Gv(w:World)(ds:List h')(x:h')(e:Ending)(w':World):Prop:=∃(v:Value) (E:Int),e= .returned (.tuple #[v,int i64 E])∧Below w.heap.size w w'∧(E=0→w'.ownsRow w.heap.size 102 4 v (ds++[x]).length (flat h'.enc (ds++[x])))
theorem Gw(A:Option Addr)(n c:Nat)(ds:List h')(d:h')(w:World)(G:hV w w.heap.size A n 4 (flat h'.enc ds))(I:A=none→n=0∧c=0):
 Calls prog 163 #[.slice A n c,.agg #[int i64 d.ac,int i64 d.me,int u64 d.am,.bool d.nw]] w (Gv w ds d):=by
 by_cases D:pg d
 ·by_cases E:qF d
  ·rcases Nat.lt_or_ge n 256 with F|F
   ·exact(xy A n c ds d w G I D E F).mono fun e w' ⟨v,o,J,r⟩=>⟨v,0,o,r,fun _=>J⟩
   exact(Cs A n c d w D E F).mono fun e w' ⟨o,r⟩=>⟨_,_,o,r,fun z=>absurd z (by decide)⟩
  exact(xx A n c d w D E).mono fun e w' ⟨o,r⟩=>⟨_,_,o,r,fun z=>absurd z (by decide)⟩
 exact(xw A n c d w D).mono fun e w' ⟨o,r⟩=>⟨_,_,o,r,fun z=>absurd z (by decide)⟩
theorem Gx(κ:hr)(g:Nat)(aT:hA)(aH:hl)(k:Nat)(s:hA)(c:hl)(w:World)(d:DD)(h:ib κ g s c w)(aI:HI aT aH k s c)(aE:d.Good w)(aU:aH.us.length≤1000000):
 Calls prog 141 #[.pointer (some ⟨g,0,none⟩),.agg d.cs] w (HP κ g aT aH k w):=by
 have aV:=h.pn;obtain⟨aW,aX⟩:=hg (fun W (ab:ib κ g s c W)=>vm s.pu.A s.pu.n s.pu.c d.ac d.am c.us W ab.row.n.seen.pu (by rw[aV,aI.us];exact aU) (by have:=aE.am;omega) (by have:=aE.ac;omega)) (fun q W (ab:ib κ g s c W)=>Gw s.po.A s.po.n s.po.c c.ds ⟨d.ac,d.me,d.am,q⟩ W ab.row.n.seen.po ab.row.jG.none);obtain⟨an,aY,aF,aZ⟩:=iF w d.cs 70;have ab:=h.below aF;have aG:=g' (ht.of (κ:=κ) aF);obtain⟨ad,ao,a0,a1⟩:=h5 aZ ab aF aY;clear aZ ab aF aY;obtain⟨aa,a2⟩:=hg aI aE;have a3:=ad.out.cell (j:=0) (v:=int i64 d.k) rfl;obtain⟨q,a4⟩:=ho (d.k==2);clear h aI aE aV aU;go_enter func141,ntmps141;go_upto_region 1 with(fail)
 rw[a1.out];clear a1;go_upto_region 2 with(fail)
 clear a3 a4;have be:=aa;cases q
 ·go_wp2
  refine gZ.iP (fun w'=>ib κ g s c w'∧ha w' w.heap.size 70 d.cs) 12 (by kernel_rfl) (by rintro _ _ (_|_) _ _ h<;>exact h) (⟨ao.out.below hM,ad.out.drew⟩) fun G o=>?_;refine gZ.tq G 0 (gZ.sq 0 12 false []) (by kernel_rfl) o ?_;iterate 12((first|(refine gZ.t1 rfl rfl (fun w' r=>by try simp only[S3];have V:=r.2.cell (j:=4) (v:=int u64 d.am) rfl;have X:=r.1.box.cell (j:=2) (v:=int u64 s.p.floor) rfl;go_simp;try rfl) ?_)|(refine gZ.kn rfl rfl ?_));try simp only[S4,S3])
  refine gZ.hH (fun o=>?_);clear o;refine gZ.ia rfl ?_;obtain⟨F,I⟩:=ho an.drew;obtain⟨ap,aJ,a5,aq⟩:=h5 (show ib κ g s c F by rw[←I];exact ao.out.below hM) (show ha F w.heap.size 70 d.cs by rw[←I];exact ad.out.drew) (show Below w.heap.size w F by rw[←I];exact a0.out.drew) (show ht κ w κ F by rw[←I];exact aG.out.trans (ht.of (κ:=κ) (Below.drew (Below.refl an.heap.size an))));rw[I];clear I ao ad aG;go_wp2;refine gZ.iP (fun w'=>ib κ g s c w'∧ha w' w.heap.size 70 d.cs) 15 (by kernel_rfl) (by rintro _ _ (_|_) _ _ h<;>exact h) (⟨ap.out.below hM,aJ.out.drew⟩) fun G o=>?_;refine gZ.tq G 6 (gZ.sq 0 9 false []) (by kernel_rfl) o ?_;iterate 9(refine gZ.t1 rfl rfl (fun w' r=>by try simp only[S3];have V:=r.1.box.cell (j:=32) (v:= .slice s.pu.A s.pu.n s.pu.c) rfl;have X:=r.2.cell (j:=1) (v:=int i64 d.ac) rfl;have ae:=r.2.cell (j:=4) (v:=int u64 d.am) rfl;go_simp;try rfl) ?_;try simp only[S4,S3])
  refine gZ.hH (fun o=>?_);refine gZ.hY 9 (n:=5) rfl rfl (by kernel_rfl) (fun K af=>?_);(try simp only[S3])
  go_simp;refine(aW.out _ o.1.1).mono ?_;rintro e Q ⟨v,E,rfl,D,R⟩;obtain⟨Y,ar,aK,ag⟩:=h5 (o.1.1.below D) (o.1.2.to D) R D;clear R D;refine af.out _ _ (⟨Y.out,ar.out⟩) trivial (fun o=>?_);(try simp only[S4,S3])
  refine gZ.tq G 0 (gZ.sq 10 5 false []) (by kernel_rfl) o ?_;iterate 5(refine gZ.t1 rfl rfl (fun w' r=>by try simp only[S3];have V:=r.1.box.cell (j:=32) (v:= .slice s.pu.A s.pu.n s.pu.c) rfl;have X:=r.2.cell (j:=1) (v:=int i64 d.ac) rfl;have ae:=r.2.cell (j:=4) (v:=int u64 d.am) rfl;go_simp;try rfl) ?_;try simp only[S4,S3])
  refine gZ.hH (fun o=>?_);clear o;refine gZ.ia rfl ?_;(try simp only[S4])
  have au:=g' (aq.out.trans ((ht.of (κ:=κ) (Below.drew (Below.refl F.heap.size F))).trans (ht.of ag.out)));by_cases ah:E=0
  ·subst ah
   obtain⟨L,S,T,J⟩:=aK.out rfl;have av:=g' (And.intro S (And.intro T J));clear S T J;go_wp2;refine gZ.iP (fun w'=>ib κ g s c w'∧ha w' w.heap.size 70 d.cs) 19 (by kernel_rfl) (by rintro _ _ (_|_) _ _ h<;>exact h) (⟨Y.out.below hM,ar.out.drew⟩) fun G o=>?_;refine gZ.tq G 6 (gZ.sq 0 13 false []) (by kernel_rfl) o ?_;iterate 12(refine gZ.t1 rfl rfl (fun w' r=>by try simp only[S3];have V:=r.1.box.cell (j:=36) (v:= .slice s.po.A s.po.n s.po.c) rfl;have X:=r.2.cell (j:=1) (v:=int i64 d.ac) rfl;have ae:=r.2.cell (j:=2) (v:=int i64 d.me) rfl;have aL:=r.2.cell (j:=4) (v:=int u64 d.am) rfl;go_simp;try rfl) ?_;try simp only[S4,S3])
   refine gZ.jK (.agg #[int i64 d.ac,int i64 d.me,int u64 d.am,.bool false]) rfl (Or.inl ⟨by rfl,fun w' _=>by kernel_rfl⟩) ?_;(try simp only[S4,S3])
   refine gZ.hH (fun o=>?_);refine gZ.hY 13 (n:=5) rfl rfl (by kernel_rfl) (fun K af=>?_);(try simp only[S3])
   go_simp;refine(aX.out false _ o.1.1).mono ?_;rintro e Z ⟨a6,aw,rfl,D,R⟩;obtain⟨U,aM,aN,ax⟩:=h5 (o.1.1.below D) (o.1.2.to D) R D;clear R D;refine af.out _ _ (⟨U.out,aM.out⟩) trivial (fun o=>?_);(try simp only[S4,S3])
   refine gZ.tq G 0 (gZ.sq 14 5 false []) (by kernel_rfl) o ?_;iterate 5(refine gZ.t1 rfl rfl (fun w' r=>by try simp only[S3];have V:=r.1.box.cell (j:=36) (v:= .slice s.po.A s.po.n s.po.c) rfl;have X:=r.2.cell (j:=1) (v:=int i64 d.ac) rfl;have ae:=r.2.cell (j:=2) (v:=int i64 d.me) rfl;have aL:=r.2.cell (j:=4) (v:=int u64 d.am) rfl;go_simp;try rfl) ?_;try simp only[S4,S3])
   refine gZ.hH (fun o=>?_);clear o;refine gZ.ia rfl ?_;(try simp only[S4])
   have ai:Below Q.heap.size Q Q.drew:=hM;have aO:=g' (au.out.trans ((ht.of (κ:=κ) ai).trans (ht.of ax.out)));by_cases aj:aw=0
   ·subst aj
    obtain⟨S,T,J⟩:=av.out;have ak:Below Q.heap.size Q Z:=ai.trans ax.out;have ay:=j0 J fun z aP=>ak.block z (J.lt z aP).2;obtain⟨u,rfl,O⟩:=(ap.out.below hM).tr (ag.out.trans (ak.mono ag.out.size)) T ay;obtain⟨y,rfl,-,az,aA⟩:=n5 (κ:=κ) (aN.out rfl) (Y.out.below ai).fresh;have al:ht κ Z κ (Z.setCell ⟨g,32,none⟩ (.slice u.A u.n u.c)):= .hT ((hn.refl g Z).setCell (p:=⟨g,32,none⟩) (.inl rfl) _) (by rw[U.out.kg];omega);have aB:=(aA.below al.hL).more al.size;have aC:=O.1.kZ (s':={s with pu:=u,po:=y}) (c':={c with us:=L,ds:=c.ds++[⟨d.ac,d.me,d.am,false⟩]}) (O.1.row.uX y _ az aB) 36 (.slice y.A y.n y.c) rfl;obtain⟨aD,aQ,aR⟩:=hs aC O S;have a7:=U.out.box.cell (j:=32) (v:= .slice s.pu.A s.pu.n s.pu.c) rfl;have a8:=U.out.box.frozen 32;have a9:=O.1.box.cell (j:=36) (v:= .slice s.po.A s.po.n s.po.c) rfl;have a':=O.1.box.frozen 36;clear S T J ay O aA aB al aC ak az av;simp only[Sl.v];go_wp2;go_ret;exact⟨_,κ,_,_,rfl,aD.out.1,((aq.out.trans (ht.of (κ:=κ) (Below.drew (Below.refl F.heap.size F)))).trans aQ.out.2).trans aD.out.2,((aa.out.pu u L aR.out).po y ⟨d.ac,d.me,d.am,false⟩ (by have:=a2.out.am;show d.am<_;omega))⟩
   have ba:(aw !=0)=true:=by simp[aj]
   clear aj;go_wp2;go_ret;exact HP.same U.out aO.out aa.out
  have bb:(E !=0)=true:=by simp[ah]
  clear ah;go_wp2;go_ret;exact HP.same Y.out au.out aa.out
 go_wp2;refine gZ.iP (fun w'=>ib κ g s c w'∧ha w' w.heap.size 70 d.cs) 12 (by kernel_rfl) (by rintro _ _ (_|_) _ _ h<;>exact h) (⟨ao.out.below hM,ad.out.drew⟩) fun G o=>?_;refine gZ.tq G 0 (gZ.sq 0 12 false []) (by kernel_rfl) o ?_;iterate 12(refine gZ.t1 rfl rfl (fun w' r=>by try simp only[S3];have V:=r.2.cell (j:=4) (v:=int u64 d.am) rfl;have X:=r.1.box.cell (j:=2) (v:=int u64 s.p.floor) rfl;go_simp;try rfl) ?_;try simp only[S4,S3])
 refine gZ.hH (fun o=>?_);clear o;refine gZ.ia rfl ?_;obtain⟨F,I⟩:=ho an.drew;obtain⟨ap,aJ,a5,aq⟩:=h5 (show ib κ g s c F by rw[←I];exact ao.out.below hM) (show ha F w.heap.size 70 d.cs by rw[←I];exact ad.out.drew) (show Below w.heap.size w F by rw[←I];exact a0.out.drew) (show ht κ w κ F by rw[←I];exact aG.out.trans (ht.of (κ:=κ) (Below.drew (Below.refl an.heap.size an))));rw[I];clear I ao ad aG;by_cases aS:d.am≤s.p.floor
 ·have bc:=hZ aS
  have bd:decide ((d.am:Int)≤(s.p.floor:Int))=true:=by simpa using aS
  go_wp2;go_ret;exact HP.same ap.out aq.out aa.out
 have bc:=h1 aS;have bd:decide ((d.am:Int)≤(s.p.floor:Int))=false:=by simp;omega
 go_wp2;refine gZ.iP (fun w'=>ib κ g s c w'∧ha w' w.heap.size 70 d.cs) 15 (by kernel_rfl) (by rintro _ _ (_|_) _ _ h<;>exact h) (⟨ap.out.below hM,aJ.out.drew⟩) fun G o=>?_;refine gZ.tq G 6 (gZ.sq 0 9 false []) (by kernel_rfl) o ?_;iterate 9(refine gZ.t1 rfl rfl (fun w' r=>by try simp only[S3];have V:=r.1.box.cell (j:=32) (v:= .slice s.pu.A s.pu.n s.pu.c) rfl;have X:=r.2.cell (j:=1) (v:=int i64 d.ac) rfl;have ae:=r.2.cell (j:=4) (v:=int u64 d.am) rfl;go_simp;try rfl) ?_;try simp only[S4,S3])
 refine gZ.hH (fun o=>?_);refine gZ.hY 9 (n:=5) rfl rfl (by kernel_rfl) (fun K af=>?_);(try simp only[S3])
 go_simp;refine(aW.out _ o.1.1).mono ?_;rintro e Q ⟨v,E,rfl,D,R⟩;obtain⟨Y,ar,aK,ag⟩:=h5 (o.1.1.below D) (o.1.2.to D) R D;clear R D;refine af.out _ _ (⟨Y.out,ar.out⟩) trivial (fun o=>?_);(try simp only[S4,S3])
 refine gZ.tq G 0 (gZ.sq 10 5 false []) (by kernel_rfl) o ?_;iterate 5(refine gZ.t1 rfl rfl (fun w' r=>by try simp only[S3];have V:=r.1.box.cell (j:=32) (v:= .slice s.pu.A s.pu.n s.pu.c) rfl;have X:=r.2.cell (j:=1) (v:=int i64 d.ac) rfl;have ae:=r.2.cell (j:=4) (v:=int u64 d.am) rfl;go_simp;try rfl) ?_;try simp only[S4,S3])
 refine gZ.hH (fun o=>?_);clear o;refine gZ.ia rfl ?_;(try simp only[S4])
 have au:=g' (aq.out.trans ((ht.of (κ:=κ) (Below.drew (Below.refl F.heap.size F))).trans (ht.of ag.out)));by_cases ah:E=0
 ·subst ah
  obtain⟨L,S,T,J⟩:=aK.out rfl;have av:=g' (And.intro S (And.intro T J));clear S T J;go_wp2;refine gZ.iP (fun w'=>ib κ g s c w'∧ha w' w.heap.size 70 d.cs) 19 (by kernel_rfl) (by rintro _ _ (_|_) _ _ h<;>exact h) (⟨Y.out.below hM,ar.out.drew⟩) fun G o=>?_;refine gZ.tq G 6 (gZ.sq 0 13 false []) (by kernel_rfl) o ?_;iterate 12(refine gZ.t1 rfl rfl (fun w' r=>by try simp only[S3];have V:=r.1.box.cell (j:=36) (v:= .slice s.po.A s.po.n s.po.c) rfl;have X:=r.2.cell (j:=1) (v:=int i64 d.ac) rfl;have ae:=r.2.cell (j:=2) (v:=int i64 d.me) rfl;have aL:=r.2.cell (j:=4) (v:=int u64 d.am) rfl;go_simp;try rfl) ?_;try simp only[S4,S3])
  refine gZ.jK (.agg #[int i64 d.ac,int i64 d.me,int u64 d.am,.bool true]) rfl (Or.inl ⟨by rfl,fun w' _=>by kernel_rfl⟩) ?_;(try simp only[S4,S3])
  refine gZ.hH (fun o=>?_);refine gZ.hY 13 (n:=5) rfl rfl (by kernel_rfl) (fun K af=>?_);(try simp only[S3])
  go_simp;refine(aX.out true _ o.1.1).mono ?_;rintro e Z ⟨a6,aw,rfl,D,R⟩;obtain⟨U,aM,aN,ax⟩:=h5 (o.1.1.below D) (o.1.2.to D) R D;clear R D;refine af.out _ _ (⟨U.out,aM.out⟩) trivial (fun o=>?_);(try simp only[S4,S3])
  refine gZ.tq G 0 (gZ.sq 14 5 false []) (by kernel_rfl) o ?_;iterate 5(refine gZ.t1 rfl rfl (fun w' r=>by try simp only[S3];have V:=r.1.box.cell (j:=36) (v:= .slice s.po.A s.po.n s.po.c) rfl;have X:=r.2.cell (j:=1) (v:=int i64 d.ac) rfl;have ae:=r.2.cell (j:=2) (v:=int i64 d.me) rfl;have aL:=r.2.cell (j:=4) (v:=int u64 d.am) rfl;go_simp;try rfl) ?_;try simp only[S4,S3])
  refine gZ.hH (fun o=>?_);clear o;refine gZ.ia rfl ?_;(try simp only[S4])
  have ai:Below Q.heap.size Q Q.drew:=hM;have aO:=g' (au.out.trans ((ht.of (κ:=κ) ai).trans (ht.of ax.out)));by_cases aj:aw=0
  ·subst aj
   obtain⟨S,T,J⟩:=av.out;have ak:Below Q.heap.size Q Z:=ai.trans ax.out;have ay:=j0 J fun z aP=>ak.block z (J.lt z aP).2;obtain⟨u,rfl,O⟩:=(ap.out.below hM).tr (ag.out.trans (ak.mono ag.out.size)) T ay;obtain⟨y,rfl,-,az,aA⟩:=n5 (κ:=κ) (aN.out rfl) (Y.out.below ai).fresh;have al:ht κ Z κ (Z.setCell ⟨g,32,none⟩ (.slice u.A u.n u.c)):= .hT ((hn.refl g Z).setCell (p:=⟨g,32,none⟩) (.inl rfl) _) (by rw[U.out.kg];omega);have aB:=(aA.below al.hL).more al.size;have aC:=O.1.kZ (s':={s with pu:=u,po:=y}) (c':={c with us:=L,ds:=c.ds++[⟨d.ac,d.me,d.am,true⟩]}) (O.1.row.uX y _ az aB) 36 (.slice y.A y.n y.c) rfl;obtain⟨aD,aQ,aR⟩:=hs aC O S;have a7:=U.out.box.cell (j:=32) (v:= .slice s.pu.A s.pu.n s.pu.c) rfl;have a8:=U.out.box.frozen 32;have a9:=O.1.box.cell (j:=36) (v:= .slice s.po.A s.po.n s.po.c) rfl;have a':=O.1.box.frozen 36;clear S T J ay O aA aB al aC ak az av;simp only[Sl.v];go_wp2;go_ret;exact⟨_,κ,_,_,rfl,aD.out.1,((aq.out.trans (ht.of (κ:=κ) (Below.drew (Below.refl F.heap.size F)))).trans aQ.out.2).trans aD.out.2,((aa.out.pu u L aR.out).po y ⟨d.ac,d.me,d.am,true⟩ (by have:=a2.out.am;show d.am<_;omega))⟩
  have ba:(aw !=0)=true:=by simp[aj]
  clear aj;go_wp2;go_ret;exact HP.same U.out aO.out aa.out
 have bb:(E !=0)=true:=by simp[ah]
 clear ah;go_wp2;go_ret;exact HP.same Y.out au.out aa.out
theorem Gy(A B:Option Addr)(n c f d:Nat)(m:Nat)(xs bs:List Nat)(w:World)(z:hq.ie w w.heap.size A n xs)(D:hq.ie w w.heap.size B f bs)(F:n≤1000000)(G:f≤1000000):
 Calls prog 211 #[.slice A n c,.slice B f d,int i64 m] w fun e w'=>∃(v:Value) (E:Int),e= .returned (.tuple #[v,int i64 E])∧Below w.heap.size w w'∧(E=0→∃o:List Nat,o.length=16∧jQ.ko o∧w'.ownsRow w.heap.size 5 1 v 16 (o.map hq.jq)):=by
 by_cases h:hq.uF xs bs m
 ·refine(hq.C9 A B n c f d m xs bs w z D h F G).mono fun e w' ⟨v,r,I,J⟩=>⟨v,0,r,J,fun _=>⟨_,?_,?_,I⟩⟩
  ·have:=I.1;rw[List.length_map]at this;omega
  exact hq.C7 _ _
 exact(hq.C' A B n c f d m xs bs w z D h F G).mono fun e w' ⟨r,K⟩=>⟨_,_,r,by subst K;exact hz,fun O=>absurd O (by decide)⟩
theorem Gz(κ:hr)(g:Nat)(ae:hA)(af:hl)(k:Nat)(s:hA)(c:hl)(w:World)(d:DD)(h:ib κ g s c w)(R:HI ae af k s c)(S:d.Good w):
 Calls prog 143 #[.pointer (some ⟨g,0,none⟩),.agg d.cs] w (HP κ g ae af k w):=by
 have ag:s.ma.n=c.mm.length:=h.row.n.ma.1.symm;obtain⟨ay,ah⟩:=S.bits;have az:=g' (fun W (I:ib κ g s c W) (r:Below w.heap.size w W)=>Gy s.ma.A d.bi.A s.ma.n s.ma.c d.bi.n d.bi.c s.me.n c.mm ay W I.row.n.seen.ma ((ah.below r).more r.size) (by rw[ag];exact R.mm) S.bn);obtain⟨T,ai,J,aj⟩:=iF w d.cs 70;have I:=h.below J;have ak:=g' (ht.of (κ:=κ) J);obtain⟨U,V,aA,al⟩:=h5 aj I J ai;clear aj I J ai;have X:=g' R;clear h R S ag ah;go_enter func143,ntmps143;go_upto_region 1 with(fail)
 rw[al.out];clear al;refine gZ.iP (fun w'=>ib κ g s c w'∧ha w' w.heap.size 70 d.cs) 8 (by kernel_rfl) (by rintro _ _ (_|_) _ _ h<;>exact h) (⟨V.below hM,U.drew⟩) fun O o=>?_;refine gZ.tq O 0 (gZ.sq 0 8 false []) (by kernel_rfl) o ?_;iterate 8(refine gZ.t1 rfl rfl (fun w' z=>by try simp only[S3];have am:=z.2.all;have an:=z.1.box.all;go_simp;try rfl) ?_;try simp only[S4,S3])
 refine gZ.hH (fun o=>?_);clear o;refine gZ.ia rfl ?_;obtain⟨D,F⟩:=ho T.drew;obtain⟨Y,aB,aC,Z⟩:=h5 (show ib κ g s c D by rw[←F];exact V.below hM) (show ha D w.heap.size 70 d.cs by rw[←F];exact U.drew) (show Below w.heap.size w D by rw[←F];exact aA.drew) (show ht κ w κ D by rw[←F];exact ak.trans (ht.of (κ:=κ) (Below.drew (Below.refl T.heap.size T))));rw[F];clear F V U ak;by_cases Q:d.ep=s.ep
 ·have aa:=jU Q
  have aD:(d.ep !=s.ep)=false:=by simp[bne,aa]
  clear Q;go_wp2;refine gZ.iP (fun w'=>(ib κ g s c w'∧ha w' w.heap.size 70 d.cs)∧Below w.heap.size w w') 19 (by kernel_rfl) (by rintro _ _ (_|_) _ _ h<;>exact h) (⟨⟨Y.below hM,aB.drew⟩,aC.drew⟩) fun O o=>?_;refine gZ.tq O 6 (gZ.sq 0 13 false []) (by kernel_rfl) o ?_;iterate 13(refine gZ.t1 rfl rfl (fun w' z=>by try simp only[S3];have am:=z.1.1.box.all;have an:=z.1.2.all;go_simp;try rfl) ?_;try simp only[S4,S3])
  refine gZ.hH (fun o=>?_);refine gZ.hY 13 (n:=5) rfl rfl (by kernel_rfl) (fun K aE=>?_);(try simp only[S3])
  go_simp;refine(az _ o.1.1.1 o.1.2).mono ?_;rintro e aJ ⟨v,E,rfl,r,ao⟩;obtain⟨G,aF,aG,ap,aH⟩:=jg (o.1.1.1.below r) (o.1.1.2.to r) ao r (o.1.2.trans (r.mono o.1.2.size));clear ao r;refine aE.out _ _ (⟨⟨G,aF⟩,aH⟩) trivial (fun o=>?_);(try simp only[S4,S3])
  refine gZ.tq O 0 (gZ.sq 14 5 false []) (by kernel_rfl) o ?_;iterate 5(refine gZ.t1 rfl rfl (fun w' z=>by try simp only[S3];have am:=z.1.1.box.all;have an:=z.1.2.all;go_simp;try rfl) ?_;try simp only[S4,S3])
  refine gZ.hH (fun o=>?_);clear o;refine gZ.ia rfl ?_;(try simp only[S4])
  by_cases ab:E=0
  ·subst ab
   obtain⟨ac,ad,aq,ar⟩:=aG rfl;obtain⟨u,rfl,-,au,av⟩:=yL (κ:=κ) ad aq ar ((Y.below hM).fresh);have aw:=G.kZ (s':={s with ma:=u}) (c':={c with mm:=ac}) (G.row.yu u ac au av) 39 (.slice u.A u.n u.c) rfl;obtain⟨ax,aI⟩:=hg aw ad;have aK:=G.box.all;have aL:=G.box.frozen 39;clear ad aq ar au av aw;simp only[Sl.v];go_wp2;go_ret;exact⟨_,κ,_,_,rfl,ax.1,(Z.trans ((ht.of (κ:=κ) (Below.drew (Below.refl D.heap.size D))).trans (ht.of ap))).trans ax.2,(X.ma u ac (by have:=aI.out;omega)).more (Nat.le_succ k)⟩
  have aM:=iM ab;clear ab;go_wp2;go_ret;exact HP.same G (Z.trans ((ht.of (κ:=κ) (Below.drew (Below.refl D.heap.size D))).trans (ht.of ap))) X
 have aa:=iM Q;have aD:(d.ep !=s.ep)=true:=by simp[bne,aa]
 clear Q;go_wp2;go_ret;exact HP.same Y Z X
def vn(m:Mem)(x:Int):Mem:={m with h3:=x}
theorem HI.lv{r:hA}{A:hl}{s:hA}{c:hl}(h:HI r A k s c){m:Mem}(D:c.ms[i]?=some m)(u:Sl)(z:Int):HI r A (k+1) {s with ex:=u} {c with ms:=c.ms.set i (vn m 3),xs:=c.xs++[z]}:=
 ⟨h.p,h.hX,h.gen,h.hO,h.h7,h.hN,h.ep,h.calm,h.em,h.du,h.es,h.rs,fun x o=>(by
   rcases List.mem_or_eq_of_mem_set o with o|rfl
   ·exact h.ms x o
   have:=h.ms m (List.mem_of_getElem? D);exact⟨this.hD,this.hP,this.h9,this.str,this.own,by show-9223372036854775808≤(3:Int)∧(3:Int)<9223372036854775808;omega⟩),by show(c.ms.set i _).length=_;rw[List.length_set];exact h.ml,h.us,h.ds,by show c.ds.length≤_;have:=h.dl;omega,by rw[List.length_append,List.length_singleton];have:=h.xl;omega,h.mo,by show c.mo.length≤_;have:=h.kT;omega,h.mm⟩
theorem ib.nb{κ:hr}{s:hA}{c:hl}(h:ib κ g s c w)(z:s.me=⟨some ⟨b,0,none⟩,c.ms.length,s.me.c⟩){m:Mem}(E:c.ms[i]?=some m)(o:Nat)(r:List Value)(m':Mem)(F:o+r.length≤6)(G:kS m.enc o r=m'.enc):
 ib κ g s {c with ms:=c.ms.set i m'} (w.setCells b (i*6+o) r)∧ht κ w κ (w.setCells b (i*6+o) r):=by
 have I:κ b=2:=h.row.me.jl ⟨b,0,none⟩ (by show s.me.A=_;rw[z]);have J:hn b w (w.setCells b (i*6+o) r):=hn.setCells r _ w (hn.refl b w);refine h.members J I _ ?_;have D:w.ownsRow 0 98 6 s.me.v s.me.n (flat Mem.enc c.ms):=h.row.me.own;rw[z]at D⊢;rw[←qd Mem.len E F G];exact mz r _ w _ D
theorem GA(κ:hr)(g:Nat)(ai:hA)(aj:hl)(k:Nat)(s:hA)(c:hl)(w:World)(d:DD)(h:ib κ g s c w)(ak:HI ai aj k s c)(i:Nat)(al:d.me=(i:Int))(U:i<c.ms.length)(am:c.xs.length≤1000):
 Calls prog 142 #[.pointer (some ⟨g,0,none⟩),.agg d.cs] w (HP κ g ai aj k w):=by
 obtain⟨aT,aU,aV,aW,aX⟩:=info_parts qf;obtain⟨m,V⟩:∃m,c.ms[i]?=some m:=⟨_,List.getElem?_eq_getElem U⟩;obtain⟨b,G,an,ao,aY,_⟩:=h.lx V;have ap:s.ex.n=c.xs.length:=by
  have W:(c.xs.map iw).length=s.ex.n*1:=h.row.ex.own.1;rw[List.length_map]at W;omega
 obtain⟨aq,X⟩:=hk c.ms.length;obtain⟨aZ,ar⟩:=hk s.me.c;obtain⟨a0,au,a1,I,Y,Z⟩:=ku (show s.me=⟨some ⟨b,0,none⟩,aq,aZ⟩ by rw[X,ar];exact G) (show s.me=⟨some ⟨b,0,none⟩,s.me.n,s.me.c⟩ by rw[h.kz];exact G) G V al (And.intro ap (And.intro am (And.intro an ao)));have U:i<aq:=by rw[X];exact U
 obtain⟨aa,av,ab,aw⟩:=iF w d.cs 70;have r:=h.below ab;have ax:=g' (ht.of (κ:=κ) ab);obtain⟨ac,ad,ay⟩:=hs aw r av;clear aw r ab av;obtain⟨az,a2⟩:=hg ak (show κ w.heap.size=0 from h.fresh _ hj);clear h ak G an ao aY V al ap am X ar;go_enter func142,ntmps142;go_upto_region 1 with(fail)
 rw[ay.out];clear ay;refine gZ.iP (fun w'=>ib κ g s c w'∧ha w' w.heap.size 70 d.cs) 9 (by kernel_rfl) (by rintro _ _ (_|_) _ _ h<;>exact h) (⟨ad.below hM,ac.drew⟩) fun J o=>?_;refine gZ.tq J 0 (gZ.sq 0 9 false []) (by kernel_rfl) o ?_;iterate 9(refine gZ.t1 rfl rfl (fun w' E=>by try simp only[S3];have be:=E.1.o7 a0.out;have bf:=E.2.cell (j:=2) (v:=int i64 (i:Int)) (by rw[←Y.out];rfl);go_simp;try rfl) ?_;try simp only[S4,S3])
 refine gZ.hH (fun o=>?_);clear o;refine gZ.ia rfl ?_;obtain⟨z,F⟩:=ho aa.drew;obtain⟨O,a3,aA⟩:=hs (show ib κ g s c z by rw[←F];exact ad.below hM) (show ha z w.heap.size 70 d.cs by rw[←F];exact ac.drew) (show ht κ w κ z by rw[←F];exact ax.trans (ht.of (κ:=κ) (Below.drew (Below.refl aa.heap.size aa))));rw[F];clear F ad ac ax;have a4:=O.lO I.out au.out 5 (int i64 m.h3) rfl;have a5:=((O.kK I.out au.out).2 5 (by omega)).2;by_cases Q:m.h3=2
 ·have ae:=jU Q
  have a6:(m.h3 !=2)=false:=by simp[bne,ae]
  clear Q;obtain⟨aB,aC⟩:=O.nb a1.out I.out 5 [int i64 3] (vn m 3) (by simp) rfl;obtain⟨aD,aE,aF⟩:=hs aB (aA.trans aC) (a3.hT (hn.setCells [int i64 3] (i*6+5) z (hn.refl b z)) (fun e=>by have W:=Z.2.2.1;rw[←e]at W;have bg:=a2.out;omega));clear aB aC;go_upto_region 5 with(fail)
  have aG:z.setCell ⟨b,i*6+5,none⟩ (int i64 3)=z.setCells b (i*6+5) [int i64 3]:=rfl;rw[aG];obtain⟨R,aH⟩:=ho (z.setCells b (i*6+5) [int i64 3]);rw[aH]at aD aE aF⊢;clear aG aH a4 a5;refine gZ.rg (fun w'=>True) (fun w'=>ib κ g s ({c with ms:=c.ms.set i (vn m 3)}) w'∧ha w' w.heap.size 70 d.cs) 9 14 (by kernel_rfl) (by rintro _ _ (_|_) _ _ h<;>exact h) trivial (⟨aD.below hM,aF.drew⟩) fun J o=>?_;refine gZ.tq J 6 (gZ.sq 0 3 false (gZ.sq 3 5 true [])) (by kernel_rfl) o ?_;iterate 8(refine gZ.t1 rfl rfl (fun w' E=>by try simp only[S3];first|(have⟨hS,r⟩:=E;have a7:=r.1.box.all;have a8:=r.2.cell (j:=2) (v:=int i64 (i:Int)) (by rw[←Y.out];rfl);go_simp;try rfl)|(go_simp;try rfl)) ?_;try simp only[S4,S3])
  refine gZ.hH (fun o=>?_);refine gZ.hY 8 (n:=5) rfl rfl (by kernel_rfl) (fun K D=>?_);(try simp only[S3])
  go_simp;have af:=o.2 rfl;obtain⟨ag,a9⟩:=hg (af.1.below (hz.alloc hj (.cells #[int i64 (i:Int)] 3))) (af.2.alloc (.cells #[int i64 (i:Int)] 3));clear af;refine D.out _ _ trivial (⟨ag.out,a9.out⟩) (fun o=>?_);clear D K;(try simp only[S4,S3])
  refine gZ.jc 9 (n:=4) rfl rfl (by kernel_rfl) (by kernel_rfl) (fun K D=>?_);(try simp only[S3])
  rw[if_pos (by rfl)];refine wp_append_lies _ (.tmp 27) (.tmp 30) 40 (by rfl) 0 3 aT _ 1 8 kB aU aV aW aX (by rfl) (by omega) (.slice s.ex.A s.ex.n s.ex.c) s.ex.n (c.xs.map iw) (by rfl) ag.row.ex.own ⟨R.heap.size,0,none⟩ 1 1 [int i64 (i:Int)] (by rfl) (by rfl) (kp _ _ _ _ rfl) (by intro v aI;simp at aI;subst aI;rfl) (by omega) (by have:=Z.out;unfold maxLen;omega) (by have:=Z.out;omega) (h6) _ rfl ?_;intro a' ba bh ah aJ aK aL;have aM:c.xs.map iw++[int i64 (i:Int)]=(c.xs++[(i:Int)]).map iw:=by rw[List.map_append];rfl
  rw[aM]at ah;obtain⟨aN,aO,S,aP,aQ⟩:=ag.Gm (c.xs++[(i:Int)]) aJ ah (aK.imp id (fun e=>by rw[e];exact hj)) aL;obtain⟨T,bb⟩:=hg (And.intro aN (And.intro aO (And.intro S aP))) (aE.trans (((ht.of ((Below.drew (Below.refl R.heap.size R)).alloc hj (.cells #[int i64 (i:Int)] 3))):ht κ R κ _).trans aQ));have bi:=S.frozen 35;have bj:=S.all;clear aN aO S aP aQ ah aJ aK aL aM;refine D.out _ _ trivial (fun o=>?_);clear D K;(try simp only[S4])
  refine gZ.tq J 1 (gZ.sq 10 3 false []) (by kernel_rfl) o ?_;iterate 3(refine gZ.t1 rfl rfl (fun w' E=>by try simp only[S3];first|(have⟨hS,r⟩:=E;have a7:=r.1.box.all;have a8:=r.2.cell (j:=2) (v:=int i64 (i:Int)) (by rw[←Y.out];rfl);go_simp;try rfl)|(go_simp;try rfl)) ?_;try simp only[S4,S3])
  refine gZ.hH (fun o=>?_);refine gZ.jc 13 (n:=0) rfl rfl (by kernel_rfl) (by kernel_rfl) (fun K D=>?_);(try simp only[S3])
  obtain⟨aR,aS⟩:=ib.nG T.1 T.2.1 T.2.2.1 T.2.2.2 35 (.slice (some ⟨a',0,none⟩) (s.ex.n+1) ba) rfl;obtain⟨bc,bd⟩:=hg aR (bb.trans aS);clear aR aS;go_simp;refine D.out _ _ trivial (fun o=>?_);clear D K;clear o;refine gZ.ia rfl ?_;go_wp2;go_ret;exact⟨_,_,_,_,rfl,bc.out,bd.out,az.lv I.out _ _⟩
 have ae:=iM Q;have a6:(m.h3 !=2)=true:=by simp[bne,ae]
 clear Q;go_wp2;go_ret;exact HP.same O.out aA.out az.out
theorem za(A:Option Addr)(n c:Nat)(i:Int)(bs:List Nat)(w:World)(h:hq.ie w w.heap.size A n bs)(Q:n≤1000000)(D:i≤9223372036854775807):
 Calls prog 251 #[.slice A n c,int i64 i] w fun e w'=>∃(v:Value) (b:Bool) (I:List Nat),e= .returned (.tuple #[v,.bool b])∧I.length=n∧jQ.ko I∧w'.ownsRow w.heap.size 5 1 v n (I.map hq.jq)∧Below w.heap.size w w':=by
 have E:=g' (hq.rh A n c bs w h Q);have r:=h.1;have z:=h.2.1;by_cases J:i<0∨(n:Int)≤i/8
 ·clear h
  go_enter func251,ntmps251;go_wp2_with fail;refine E.mono ?_;rintro e X ⟨v,rfl,o,F⟩;have G:=g' (And.intro o (And.intro r (And.intro z F)));obtain⟨Y,c',rfl,_,_,_,Z⟩:=hq.re r z o;have K:=g' (hq.vH Y n c' i D J);clear r z J o E Z F;go_wp2_with (go_at_call 158;refine hE (K.out _) ?_);go_ret2;exact⟨_,_,bs,rfl,G.2.1,G.2.2.1,G.1,G.2.2.2⟩
 obtain⟨i,rfl⟩:∃k:Nat,i=k:=⟨i.toNat,by omega⟩;have D:i/8<n:=by omega
 obtain⟨p,O⟩:=hk (2^(i%8));have R:p<256:=by rw[O];exact jQ.tI (Nat.mod_lt _ (by omega))
 have S:=z.iA (i/8);have ah:=u8_or_nat (jQ.iA bs (i/8)) p S R;have T:=jQ.vE (bs:=bs) (k:=i/8) (x:=jQ.iA bs (i/8)|||p) z (jQ.vF S R);have aa:=g' O;clear h O J;go_enter func251,ntmps251;go_wp2_with fail;refine E.mono ?_;rintro e X ⟨v,rfl,o,F⟩;obtain⟨g,c',rfl,ab,U,ac⟩:=hq.xu r o (by omega);have ai:=U (i/8) D;have aj:=o.frozenAt (i/8);have V:=fun q=>(hq.tJ o q).stored (i/8) (int .u8 ((jQ.iA bs (i/8)|||p:Nat):Int));obtain⟨K,ad,ae,af⟩:=h5 (hq.vI (some ⟨g,0,none⟩) n c' i p aa Q D) V T r;clear r z o E U ac V T;go_wp2_with (go_at_call 158;refine(K.out _).mono ?_;rintro e w' ⟨rfl,q,rfl⟩);go_ret2;have W:=(ad.out q).1;have ag:(bs.map hq.jq).set (i/8) (int .u8 ((jQ.iA bs (i/8)|||p:Nat):Int))=(bs.set (i/8) (jQ.iA bs (i/8)|||p)).map hq.jq:=by rw[List.map_set];rfl
 rw[ag]at W;exact⟨_,true,_,rfl,by rw[List.length_set];exact af,ae,W,(below_drewN F q).setCell ab _⟩
theorem js.zb{s:Sl}{r:List hp}{m m':hp}{x y:Value}(h:js L W s r)(D:r[i]?=some m)(A:s=⟨some ⟨g,0,none⟩,r.length,s.c⟩)(K:m.enc[k]?=some y)(O:kS m.enc k [x]=m'.enc)(Q:k+1≤33)(R:l0 L g W m'):
 js L (W.setCell ⟨g,i*33+k,none⟩ x) s (r.set i m')∧Below L W (W.setCell ⟨g,i*33+k,none⟩ x)∧W.cell? ⟨g,i*33+k,none⟩=some y∧W.frozen? ⟨g,i*33+k,none⟩=false:=by
 obtain⟨o,G,I,Z,S,E,aa⟩:=h.at D;obtain rfl:o=g:=by rw[A]at G;injection G with e _;injection e with e;injection e with e;exact e.symm
 have F:hn o W (W.setCell ⟨o,i*33+k,none⟩ x):=hn.setCells [x] (i*33+k) W (hn.refl o W);have J:=mz [x] (i*33+k) W _ (E.mono (h6));rw[qd (d':=m') hp.len D Q O]at J;have T:=oP (E.mono (h6)) (i*33+k) 1 (by have:(i+1)*33≤r.length*33:=Nat.mul_le_mul_right _ S;omega);refine⟨⟨h.1,by rw[List.length_set];exact h.2.1,?_,fun u z=>?_⟩,iC hz F I (by omega),nH hp.len (E.mono (h6)) D k _ K,(T 0 (by omega)).2⟩
 ·rw[A];show World.ownsRow _ _ _ _ (.slice (some ⟨o,0,none⟩) r.length s.c) r.length _;exact uZ J I
 refine⟨o,fun ab e=>by rw[A]at e;injection e with e;subst e;rfl,?_⟩;have U:∀u∈r,l0 L o W u:=fun u z=>by
  obtain⟨V,X,Y⟩:=h.2.2.2 u z;have:o=V:=by have:=X ⟨o,0,none⟩ (by rw[A]);exact this
  rw[this];exact Y
 rcases List.mem_or_eq_of_mem_set z with z|rfl
 ·exact(U u z).hT F
 exact R.hT F
def vp(o:Int)(m m':hp):Prop:=o=0→m'.yh.n=m.yh.n∧m'.nh.n=m.nh.n
def oZ(L:Nat)(s:Sl)(z:List hp)(j:Nat)(m:hp)(W:World)(e:Ending)(r:World):Prop:=∃o m',e= .returned (int i64 o)∧Below L W r∧vp o m m'∧(o=0→js L r s (z.set j m'))
theorem oZ.no{s:Sl}{r:List hp}{m:hp}(o:E≠0)(z:Below L W w):oZ L s r j m W (.returned (int i64 E)) w:=⟨E,m,rfl,z,fun e=>absurd e o,fun e=>absurd e o⟩
theorem GB(L g aI aJ j:Nat)(s:Sl)(au:List hp)(m:hp)(I:Int)(aK:Bool)(W:World)(az:js L W s au)(av:au[j]?=some m)(aA:s=⟨some ⟨g,0,none⟩,au.length,s.c⟩)(aL:ha W aI 3 #[int i64 I])(aM:ha W aJ 4 #[.bool aK])(ad:I≤9223372036854775807)(ae:m.yh.n≤1000000∧m.nh.n≤1000000)(aN:L≤W.heap.size):
 Calls prog 250 #[.pointer (some ⟨g,j*33,none⟩),.pointer (some ⟨aI,0,none⟩),.pointer (some ⟨aJ,0,none⟩)] W (oZ L s au j m W):=by
 obtain⟨G,aB,aO,a4,a5,aP,Z⟩:=az.at av;obtain rfl:G=g:=by rw[aA]at aB;injection aB with e _;injection e with e;injection e with e;exact e.symm
 have aw:=nH hp.len (aP.mono (h6)) av;have bi:W.cell? ⟨G,j*33+30,none⟩=some (int i64 m.st):=aw 30 _ rfl;obtain⟨aa,ab,S,aC,a6,a7,aQ,aR⟩:=mI (show W.cell? ⟨G,j*33+31,none⟩=some (.slice m.yh.A m.yh.n m.yh.c)from aw 31 _ rfl) (show W.cell? ⟨G,j*33+32,none⟩=some (.slice m.nh.A m.nh.n m.nh.c)from aw 32 _ rfl) aL aM (fun F (E:Below W.heap.size W F)=>za m.yh.A m.yh.n m.yh.c I m.ys F (Z.at_.ys.to E) ae.1 ad) (fun F (E:Below W.heap.size W F)=>za m.nh.A m.nh.n m.nh.c I m.ns F (Z.at_.ns.to E) ae.2 ad) (fun F (E:Below W.heap.size W F)=>(hq.qE m.yh.A m.yh.n m.yh.c F.heap.size I m.ys F (Z.at_.ys.to E) ae.1 ad).mono (fun e w' h=>show e= .returned (.bool (hq.kH m.ys I))∧Below F.heap.size F w' from⟨h.1,by obtain⟨q,rfl⟩:=h.2;exact below_drewN hz q⟩)) (fun F (E:Below W.heap.size W F)=>(hq.qE m.nh.A m.nh.n m.nh.c F.heap.size I m.ns F (Z.at_.ns.to E) ae.2 ad).mono (fun e w' h=>show e= .returned (.bool (hq.kH m.ns I))∧Below F.heap.size F w' from⟨h.1,by obtain⟨q,rfl⟩:=h.2;exact below_drewN hz q⟩));obtain⟨aS,aT⟩:=hk (decide (0≤I∧I≤127));obtain⟨a8,r⟩:=hg (fun F=>oG I 0 127 aS aT F) (And.intro az (And.intro av (And.intro aA (And.intro a4 (And.intro Z (And.intro aO aN))))));clear az av aA aB aO a5 aP Z aw aL aM ad ae aT aN;go_enter func250,ntmps250;by_cases ax:m.st=1
 ·have aD:=jU ax
  have a9:(m.st !=1)=false:=by simp[bne,aD]
  clear ax;go_wp2;refine gZ.iP (fun w'=>Below W.heap.size W w') 11 (by kernel_rfl) (by rintro _ _ (_|_) _ _ h<;>exact h) hM fun R o=>?_;refine gZ.tq R 6 (gZ.sq 0 5 false []) (by kernel_rfl) o ?_;iterate 5(refine gZ.t1 rfl rfl (fun w' D=>by try simp only[S3];have U:=(D.cell (p:=⟨G,j*33+31,none⟩) r.2.2.2.1).trans aa;have V:=(S.to D).all;go_simp;try rfl) ?_;try simp only[S4,S3])
  refine gZ.hH (fun o=>?_);refine gZ.hY 5 (n:=5) rfl rfl (by kernel_rfl) (fun K X=>?_);(try simp only[S3])
  go_simp;refine(a6 _ o.1).mono ?_;rintro e aU ⟨bj,a',aE,rfl,af,ag,Y,E⟩;obtain⟨u1,rfl,ah,-⟩:=jZ Y;obtain⟨aV,ai⟩:=hg (o.1.trans (E.mono o.1.size)) (And.intro ah (And.intro af (And.intro ag (Y.mono o.1.size))));clear E af ag Y ah;simp only[Sl.v];refine X.out _ _ aV trivial (fun o=>?_);(try simp only[S4,S3])
  refine gZ.tq R 0 (gZ.sq 6 5 false []) (by kernel_rfl) o ?_;iterate 5(refine gZ.t1 rfl rfl (fun w' D=>by try simp only[S3];have U:=(D.cell (p:=⟨G,j*33+31,none⟩) r.2.2.2.1).trans aa;have V:=(S.to D).all;go_simp;try rfl) ?_;try simp only[S4,S3])
  refine gZ.hH (fun o=>?_);clear o;refine gZ.ia rfl ?_;(try simp only[S4])
  go_wp2;refine gZ.iP (fun w'=>Below W.heap.size W w') 11 (by kernel_rfl) (by rintro _ _ (_|_) _ _ h<;>exact h) aV.drew fun R o=>?_;refine gZ.tq R 6 (gZ.sq 0 5 false []) (by kernel_rfl) o ?_;iterate 5(refine gZ.t1 rfl rfl (fun w' D=>by try simp only[S3];have U:=(D.cell (p:=⟨G,j*33+32,none⟩) r.2.2.2.1).trans ab;have V:=(S.to D).all;go_simp;try rfl) ?_;try simp only[S4,S3])
  refine gZ.hH (fun o=>?_);refine gZ.hY 5 (n:=5) rfl rfl (by kernel_rfl) (fun K X=>?_);(try simp only[S3])
  go_simp;refine(a7 _ o.1).mono ?_;rintro e aW ⟨bk,ba,aF,rfl,af,ag,Y,E⟩;obtain⟨u2,rfl,ah,-⟩:=jZ Y;obtain⟨ac,aj,aX⟩:=hs (o.1.trans (E.mono o.1.size)) (And.intro ah (And.intro af (And.intro ag (Y.mono o.1.size)))) ((Below.drew (Below.refl aU.heap.size aU)).trans E);clear E af ag Y ah;simp only[Sl.v];refine X.out _ _ ac trivial (fun o=>?_);(try simp only[S4,S3])
  refine gZ.tq R 0 (gZ.sq 6 5 false []) (by kernel_rfl) o ?_;iterate 5(refine gZ.t1 rfl rfl (fun w' D=>by try simp only[S3];have U:=(D.cell (p:=⟨G,j*33+32,none⟩) r.2.2.2.1).trans ab;have V:=(S.to D).all;go_simp;try rfl) ?_;try simp only[S4,S3])
  refine gZ.hH (fun o=>?_);clear o;refine gZ.ia rfl ?_;(try simp only[S4])
  have bb:=(S.to ac).all;go_wp2_with fail;refine hE (a8 _) ?_;clear bb;cases aS
  ·go_wp2
   go_ret;exact oZ.no (by decide) (ac.mono r.2.2.2.2.2.2)
  cases a'
  ·go_wp2
   go_ret;exact oZ.no (by decide) (ac.mono r.2.2.2.2.2.2)
  cases ba
  ·go_wp2
   go_ret;exact oZ.no (by decide) (ac.mono r.2.2.2.2.2.2)
  obtain⟨bc,aY⟩:=ho (hq.kH m.ys I);obtain⟨bd,aZ⟩:=ho (hq.kH m.ns I);rw[aY]at aQ;rw[aZ]at aR;clear aY aZ;cases bc;rotate_left;rotate_left;all_goals
   go_wp2;refine gZ.iP (fun w'=>Below W.heap.size W w') 15 (by kernel_rfl) (by rintro _ _ (_|_) _ _ h<;>exact h) ac.drew fun R o=>?_;refine gZ.tq R 10 (gZ.sq 0 5 false []) (by kernel_rfl) o ?_;iterate 5(refine gZ.t1 rfl rfl (fun w' D=>by try simp only[S3];have U:=(D.cell (p:=⟨G,j*33+31,none⟩) r.2.2.2.1).trans aa;have V:=(D.cell (p:=⟨G,j*33+32,none⟩) r.2.2.2.1).trans ab;have aG:=(S.to D).all;go_simp;try rfl) ?_;try simp only[S4,S3])
   refine gZ.hH (fun o=>?_);refine gZ.hY 5 (n:=9) rfl rfl (by kernel_rfl) (fun K X=>?_);(try simp only[S3])
   go_simp;refine hI (aQ _ o.1) fun bl E=>?_;obtain⟨a0,a1⟩:=hg (o.1.trans (E.mono o.1.size)) ((Below.drew (Below.refl aW.heap.size aW)).trans E);clear E;refine X.out _ _ a0 trivial (fun o=>?_);(try simp only[S4,S3])
  ·refine gZ.tq R 3 (gZ.sq 6 6 false []) (by kernel_rfl) o ?_
   iterate 6(refine gZ.t1 rfl rfl (fun w' D=>by try simp only[S3];have U:=(D.cell (p:=⟨G,j*33+31,none⟩) r.2.2.2.1).trans aa;have V:=(D.cell (p:=⟨G,j*33+32,none⟩) r.2.2.2.1).trans ab;have aG:=(S.to D).all;go_simp;try rfl) ?_;try simp only[S4,S3])
   refine gZ.hH (fun o=>?_);refine gZ.hY 12 (n:=2) rfl rfl (by kernel_rfl) (fun K X=>?_);(try simp only[S3])
   go_simp;refine hI (aR _ o.1) fun a2 E=>?_;obtain⟨J,a3⟩:=hg (o.1.trans (E.mono o.1.size)) (a1.trans (E.mono a1.size));clear E;refine X.out _ _ J trivial (fun o=>?_);(try simp only[S4,S3])
   refine gZ.tq R 0 (gZ.sq 13 2 false []) (by kernel_rfl) o ?_;iterate 2(refine gZ.t1 rfl rfl (fun w' D=>by try simp only[S3];have U:=(D.cell (p:=⟨G,j*33+31,none⟩) r.2.2.2.1).trans aa;have V:=(D.cell (p:=⟨G,j*33+32,none⟩) r.2.2.2.1).trans ab;have aG:=(S.to D).all;go_simp;try rfl) ?_;try simp only[S4,S3])
   refine gZ.hH (fun o=>?_);clear o;refine gZ.ia rfl ?_;(try simp only[S4])
   have ay:=(aC.to J).all;cases bd
   ·cases aK
    ·clear ay
     have ay:=(aC.to J).all;have ak:=(r.1).below J;have al:a2.ownsRow W.heap.size 5 1 u2.v u2.n (aF.map hq.jq):=by rw[aj.1];exact j0 aj.2.2.2 fun z aH=>a3.block z (aj.2.2.2.lt z aH).2
     obtain⟨_,am,an,ao⟩:=n8 al;have ap:=lK.2 ⟨ao,aj.2.2.1⟩;have T:=r.2.2.2.2.1.below J;have aq:∀O,u2.A=some O→L≤O.block∧O.block≠G:=fun O e=>by have be:=an O e;have bf:=r.2.2.2.2.2.2;exact⟨by omega,by omega⟩
     have Q:=ak.zb (k:=32) (m':={m with nh:=u2,ns:=aF}) (x:= .slice u2.A u2.n u2.c) (y:= .slice m.nh.A m.nh.n m.nh.c) r.2.1 r.2.2.1 rfl rfl (by omega) (⟨⟨T.at_.ys,ap,T.at_.yo,am⟩,T.y,aq⟩);have bg:=Q.2.2.1;have bh:=Q.2.2.2;have ar:=g' (And.intro Q.1 Q.2.1);clear Q ak al am an ao ap T aq;go_wp2;go_ret;exact⟨0,{m with nh:=u2,ns:=aF},rfl,(J.mono r.2.2.2.2.2.2).trans ar.2,fun _=>⟨rfl,aj.1⟩,fun _=>ar.1⟩
    clear ay;have ay:=(aC.to J).all;have ak:=(r.1).below J;have al:a2.ownsRow W.heap.size 5 1 u1.v u1.n (aE.map hq.jq):=by rw[ai.1];exact j0 ai.2.2.2 fun z aH=>(aX.trans (a3.mono aX.size)).block z (ai.2.2.2.lt z aH).2
    obtain⟨_,am,an,ao⟩:=n8 al;have ap:=lK.2 ⟨ao,ai.2.2.1⟩;have T:=r.2.2.2.2.1.below J;have aq:∀O,u1.A=some O→L≤O.block∧O.block≠G:=fun O e=>by have be:=an O e;have bf:=r.2.2.2.2.2.2;exact⟨by omega,by omega⟩
    have Q:=ak.zb (k:=31) (m':={m with yh:=u1,ys:=aE}) (x:= .slice u1.A u1.n u1.c) (y:= .slice m.yh.A m.yh.n m.yh.c) r.2.1 r.2.2.1 rfl rfl (by omega) (⟨⟨ap,T.at_.ns,am,T.at_.no⟩,aq,T.z⟩);have bg:=Q.2.2.1;have bh:=Q.2.2.2;have ar:=g' (And.intro Q.1 Q.2.1);clear Q ak al am an ao ap T aq;go_wp2;go_ret;exact⟨0,{m with yh:=u1,ys:=aE},rfl,(J.mono r.2.2.2.2.2.2).trans ar.2,fun _=>⟨ai.1,rfl⟩,fun _=>ar.1⟩
   go_wp2;go_ret;exact oZ.no (by decide) (J.mono r.2.2.2.2.2.2)
  refine gZ.tq R 0 (gZ.sq 6 9 false []) (by kernel_rfl) o ?_;iterate 9((first|(refine gZ.t1 rfl rfl (fun w' D=>by try simp only[S3];have U:=(D.cell (p:=⟨G,j*33+31,none⟩) r.2.2.2.1).trans aa;have V:=(D.cell (p:=⟨G,j*33+32,none⟩) r.2.2.2.1).trans ab;have aG:=(S.to D).all;go_simp;try rfl) ?_)|(refine gZ.kn rfl rfl ?_));try simp only[S4,S3])
  refine gZ.hH (fun o=>?_);clear o;refine gZ.ia rfl ?_;(try simp only[S4])
  go_wp2;go_ret;exact oZ.no (by decide) (a0.mono r.2.2.2.2.2.2)
 have aD:=iM ax;have a9:(m.st !=1)=true:=by simp[bne,aD]
 clear ax;go_wp2;go_ret;exact oZ.no (by decide) hz
theorem GC(A:Option Addr)(n c:Nat)(D:List hp)(i o:Int)(r:Bool)(w:World)(h:hV w w.heap.size A n 33 (flat hp.enc D))(S:∀m∈D,m.At w w.heap.size)(T:∀m∈D,m.yh.n≤1000000∧m.nh.n≤1000000)(U:n≤1000000)(V:A=none→n=0∧c=0)(ac:o≤9223372036854775807):
 Calls prog 213 #[.slice A n c,int i64 i,int i64 o,.bool r] w fun e w'=>∃v E,e= .returned (.tuple #[v,int i64 E])∧va w.heap.size vp D i w v E w':=by
 have z:Below w.heap.size w ((w.alloc (.cells #[int i64 o] 3)).alloc (.cells #[.bool r] 4)):=(hz.alloc hj _).alloc (by simp) _;have F:ha ((w.alloc (.cells #[int i64 o] 3)).alloc (.cells #[.bool r] 4)) w.heap.size 3 #[int i64 o]:=(ha.new w _ _ _ rfl).alloc _;have G:ha ((w.alloc (.cells #[int i64 o] 3)).alloc (.cells #[.bool r] 4)) (w.heap.size+1) 4 #[.bool r]:=ha.new _ _ _ _ (by simp);obtain⟨X,I⟩:=ho ((w.alloc (.cells #[int i64 o] 3)).alloc (.cells #[.bool r] 4));rw[I]at z F G;have ad:=g' (yx 250 (enters_of func250 rfl rfl) #[.pointer (some ⟨w.heap.size,0,none⟩),.pointer (some ⟨w.heap.size+1,0,none⟩)] vp A n c D i X ((h.below z).more z.size) (fun m J=>((S m J).below z).more z.size) T U V
  (fun g s K j O W ae Q J af ag=>GB X.heap.size g w.heap.size (w.heap.size+1) j s K O o r W ae J af (F.to Q) (G.to Q) ac ag Q.size))
 obtain⟨R,Y⟩:=hg z I;clear h S T U V F G z I;go_enter func213,ntmps213;go_upto_region 1 with(fail)
 rw[Y.out];go_wp2_with fail;refine ad.mono ?_;rintro e am ⟨v,E,rfl,Z⟩;have aa:=g' Z;clear Z Y;go_wp2;go_ret2;refine⟨v,E,rfl,R.trans (Below.mono aa.1 R.size),?_⟩;rcases aa.2 with h|⟨ah,ai,s,K,O,m',aj,ak,al,ab⟩
 ·exact .inl h
 exact .inr ⟨ah,ai,s,K,O,m',aj,ak,al,fun h=>⟨(ab h).1,(ab h).2.mono R.size⟩⟩
structure nK (L:Nat) (W:World) (s:Sl) (m:hp):Prop where
 at_:m.At W W.heap.size
 y:∀ad,m.yh.A=some ad→L≤ad.block∧s.v.ownBlock≠some ad.block
 z:∀ad,m.nh.A=some ad→L≤ad.block∧s.v.ownBlock≠some ad.block
theorem zc{row:Option Nat}(h:Rd w w.heap.size A n f)(r:w.grownBy W row)(D:∀o,A=some o→row≠some o.block):Rd W W.heap.size A n f:=fun j E=>by
 obtain⟨o,e,z,F⟩:=h j E;refine⟨o,e,Nat.lt_of_lt_of_le z r.size,?_⟩;rw[←F];exact World.cell?_of_block (r.block _ (by rw[block_add];exact z) (fun G=>D o e (by rw[←G,block_add])))
theorem GD{m:hp}{row:Option Nat}(h:m.At w w.heap.size)(r:w.grownBy W row)(z:∀o,m.yh.A=some o→row≠some o.block)(D:∀o,m.nh.A=some o→row≠some o.block):m.At W W.heap.size:=
 ⟨⟨h.ys.1,h.ys.2.1,zc h.ys.2.2 r z⟩,⟨h.ns.1,h.ns.2.1,zc h.ns.2.2 r D⟩,h.yo,h.no⟩
theorem n9(h:Rd w w.heap.size A n f)(o:0<n)(r:A=some J):J.block<w.heap.size:=by
 obtain⟨D,e,z,_⟩:=h 0 o;rw[r]at e;cases e;exact z
theorem js.all{s:Sl}{F:List hp}(h:js L W s F):∀m∈F,nK L W s m:=fun m G=>by
 obtain⟨g,I,r⟩:=h.2.2.2 m G;have D:∀o:Addr,o.block≠g→s.v.ownBlock≠some o.block:=fun o D e=>by
  rcases E:s.A with _|a
  ·rw[Sl.v,E]at e;cases e
  have J:=I a E;rw[Sl.v,E]at e;injection e with e;omega
 exact⟨r.at_,fun o e=>⟨(r.y o e).1,D o (r.y o e).2⟩,fun o e=>⟨(r.z o e).1,D o (r.z o e).2⟩⟩
theorem js.of{s:Sl}{D:List hp}(F:s.Ok)(K:s.n=D.length)(O:W.ownsRow L 59 33 s.v s.n (flat hp.enc D))(Q:∀m∈D,nK L W s m):js L W s D:=by
 refine⟨F,K,O,fun m G=>?_⟩;rcases I:s.A with _|a
 ·exfalso
  rcases F with⟨_,R,_⟩|⟨g,o,_⟩
  ·have:=List.length_pos_of_mem G;omega
  rw[I]at o;cases o
 have o:=Q m G;have J:s.v.ownBlock=some a.block:=y2 I;exact⟨a.block,fun r e=>by cases e;rfl,o.at_,fun r e=>⟨(o.y r e).1,fun E=>(o.y r e).2 (by rw[J,E])⟩,fun r e=>⟨(o.z r e).1,fun E=>(o.z r e).2 (by rw[J,E])⟩⟩
theorem js.append{s:Sl}{D:List hp}{E:hp}(h:js L W s D)(F:nK L W s E)(G:0<E.yh.n∧0<E.nh.n)(Q:W.grownBy w s.v.ownBlock)(R:n=D.length+1)(S:w.ownsRow L 59 33 (.slice (some ⟨g,0,none⟩) n b) n (flat hp.enc (D++[E])))(T:(⟨some ⟨g,0,none⟩,n,b⟩:Sl).Ok)
 (U:s.v.ownBlock=some g∨W.heap.size≤g) (I:∀m∈D,(∀o,m.yh.A=some o→o.block<W.heap.size)∧(∀o,m.nh.A=some o→o.block<W.heap.size)):js L w ⟨some ⟨g,0,none⟩,n,b⟩ (D++[E]):=by
 refine js.of T (by rw[List.length_append,List.length_singleton];exact R) S fun m r=>?_;have J:∀m:hp,nK L W s m→(∀o,m.yh.A=some o→o.block<W.heap.size)→(∀o,m.nh.A=some o→o.block<W.heap.size)→nK L w ⟨some ⟨g,0,none⟩,n,b⟩ m:=fun m k V X=>by
  have K:∀o:Addr,o.block<W.heap.size→s.v.ownBlock≠some o.block→(⟨some ⟨g,0,none⟩,n,b⟩:Sl).v.ownBlock≠some o.block:=fun o Z Y e=>by
   have e:some g=some o.block:=e;injection e with e;rcases U with O|O
   ·exact Y (by rw[O,e])
   omega
  exact⟨GD k.at_ Q (fun o e=>(k.y o e).2) (fun o e=>(k.z o e).2),fun o e=>⟨(k.y o e).1,K o (V o e) (k.y o e).2⟩,fun o e=>⟨(k.z o e).1,K o (X o e) (k.z o e).2⟩⟩
 rcases List.mem_append.1 r with r|r
 ·exact J m (h.all m r) (I m r).1 (I m r).2
 obtain rfl:=List.mem_singleton.1 r;exact J m F (fun o e=>n9 F.at_.ys.2.2 G.1 e) (fun o e=>n9 F.at_.ns.2.2 G.2 e)
theorem js.GF{s:Sl}{o:List hp}{m m':hp}(h:js L W s o)(I:o[i]?=some m)(A:s=⟨some ⟨g,0,none⟩,o.length,s.c⟩)(T:nK L W s m'):
 js L (W.setCells g (i*33) m'.enc) s (o.set i m')∧Below L W (W.setCells g (i*33) m'.enc)∧W.there g (i*33) 33:=by
 obtain⟨r,J,K,Z,U,O,aa⟩:=h.at I;obtain rfl:r=g:=by rw[A]at J;injection J with e _;injection e with e;injection e with e;exact e.symm
 have D:hn r W (W.setCells r (i*33) m'.enc):=hn.setCells m'.enc (i*33) W (hn.refl r W);have Q:=mz m'.enc (i*33+0) W _ (O.mono (h6));have V:kS m.enc 0 m'.enc=m'.enc:=by kernel_rfl
 rw[qd (d':=m') hp.len I (by rw[hp.len];omega) V]at Q;have X:=oP (O.mono (h6)) (i*33) 33 (by have:(i+1)*33≤o.length*33:=Nat.mul_le_mul_right _ U;omega);have R:s.v.ownBlock=some r:=by rw[A];rfl
 refine⟨js.of h.1 (by rw[List.length_set];exact h.2.1) ?_ fun u E=>?_,iC hz D K (by omega),X⟩
 ·have Y:s.n=o.length:=h.2.1
  rw[Y,A];exact uZ Q K
 have S:∀u:hp,nK L W s u→nK L (W.setCells r (i*33) m'.enc) s u:=fun u k=>
  ⟨⟨⟨k.at_.ys.1,k.at_.ys.2.1,l8 k.at_.ys.2.2 D fun F e=>fun G=>(k.y F e).2 (by rw[R,G])⟩,⟨k.at_.ns.1,k.at_.ns.2.1,l8 k.at_.ns.2.2 D fun F e=>fun G=>(k.z F e).2 (by rw[R,G])⟩,k.at_.yo,k.at_.no⟩,k.y,k.z⟩
 rcases List.mem_or_eq_of_mem_set E with E|rfl
 ·exact S u (h.all u E)
 exact S _ T
theorem GG(m:hp)(w:World):Calls prog 249 #[.agg m.cs] w fun e w'=>∃b:Bool,e= .returned (.bool b)∧Below w.heap.size w w':=by
 obtain⟨G,r,z,A⟩:=iF w m.cs 59;have I:=A.all;obtain⟨D,E⟩:=hg z r;clear A z r;by_cases o:m.st=3;focus
  have F:=jU o;clear o
 rotate_left;focus
  have F:=iM o;clear o;obtain⟨J,K⟩:=ho (m.st==4)
 all_goals
  go_enter func249,ntmps249;go_upto_region 1 with(fail)
  rw[E.out];go_wp2;go_ret;exact⟨_,rfl,D⟩
theorem GH(s:Sl)(I:List hp)(w:World)(E:s.Ok)(h:hV w w.heap.size s.A s.n 33 (flat hp.enc I))(S:s.n≤1000000):
 Calls prog 248 #[.slice s.A s.n s.c,.func (.func 249) #[] #[]] w fun e w'=>∃i:Int,e= .returned (.int .i64 i)∧(-1≤i∧i<(s.n:Int))∧Below w.heap.size w w':=by
 have F:=h.len hp.len (by omega);obtain⟨T,r,U⟩:=s;simp only at h S F E⊢;obtain⟨V,X,Y⟩:=hs (fun W (hb:Below w.heap.size w W)=>(h.below hb).more hb.size) E F;have ae:=fun Z w=>enters_of func249 (by kernel_rfl) rfl Z w;clear h E F;go_enter func248,ntmps248;go_wp2;go_loopw [8] (fun G wr=>∃k:Nat,G= .int .i64 k∧k≤r∧Below w.heap.size w wr) (fun G _=>r-(intOf G).toNat)
 case atStart=>exact⟨0,rfl,h6,hz⟩
 case round=>
  obtain⟨k,rfl,af,o⟩:=hrel;by_cases z:k<r
  ·have aa:=hZ z
   have ab:IntKind.i64.wrap ((k:Int)+1)=((k+1:Nat):Int):=by rw[IntKind.wrap_i64];omega
   obtain⟨m,J⟩:∃m,I[k]?=some m:=⟨_,iB (by rw[Y.out];exact z)⟩;obtain⟨g,K,O⟩:=rS (s:=⟨T,r,U⟩) X (V wr o) hp.len z J (by omega);simp only at K;subst K;obtain⟨ac,ad,D⟩:=hs O (fun W=>GG m W) o;clear O J o;go_wp2_with (first|(refine wpList_load_mid rfl 59 (.tmp 14) (by rfl) g (k*33) (by first|rfl|(simp only[hG.k1];rfl)) m.enc _ ac nE rfl (by kernel_rfl) ?_)|fail);refine(ad _).mono ?_;rintro e ag ⟨b,rfl,Q⟩;have R:=g' (D.trans (Q.mono D.size));clear Q;cases b
   ·go_wp2
    exact⟨⟨k+1,by first|rfl|rw[ab],by omega,R⟩,by simp[intOf];omega⟩
   go_wp2;go_ret;exact⟨_,rfl,⟨by omega,by omega⟩,R⟩
  have aa:=h1 z;have D:=g' o;clear o;go_wp2;go_ret;exact⟨_,rfl,⟨by omega,by omega⟩,D⟩
end hB
end Go.Proofs.YtffbipddbnkdjaaGreat
