/- What functions compute at any arguments, and plain facts: A tick's eject; A tick's weigh; A tick's settle. Conditions: those that each theorem names. -/
import Derived.Test.YtffbipddbnkdjaaGreatZ22
set_option maxRecDepth 100000
set_option maxHeartbeats 40000000
set_option linter.all false
open Go Go.Proofs.Tryz
open Go.Value(int)
open Go.IntKind(i64 u64)
variable{A T:Option Addr}{n g b L k B i x a m j q c p s r d h u N y:Nat}{E z:Int}{P:Program}{w W X Z:World}{e t:TypeId}{f:Nat→Value}{l:List Bool}{V U:Value}{Y:List Nat}{S:List Value}{R:List Int}{Q:Array Value}{O:List (List Nat)}{M:Bool}{K:Ending}{J:Addr}{I:Nat→Nat}{H:Option Nat}
namespace Go.Proofs.YtffbipddbnkdjaaGreat
namespace hB
open RowKit
open hG hf hC h0 hU
theorem nf{r:List Mem}{m':Mem}(h:∀m∈r,MG m)(z:MG m'):∀m∈r.set i m',MG m:=fun m o=>by
 rcases List.mem_or_eq_of_mem_set o with o|rfl
 ·exact h m o
 exact z
theorem ve{m:Mem}(h:MG m)(o:Int)(r: -9223372036854775808≤o∧o<9223372036854775808):MG (kx m o):=⟨⟨by simp[kx],by simp[kx],h.iq.h9,by simp[kx],h.iq.own,r⟩,by simp[kx],by simp[kx]⟩
def jV(o r:List Int):List Int:=o.filter (fun y=> !r.contains y)
theorem yH(o:List Int):jV o []=o:=by unfold jV;rw[List.filter_eq_self.2];intro y _;simp
theorem yI(o r:List Int)(i:Int):(jV o r).filter (fun y=> !(y==i))=jV o (r++[i]):=by
 unfold jV;rw[List.filter_filter];congr 1;funext y;simp only[List.contains_eq_mem,List.mem_append,List.mem_singleton,Bool.decide_or,Bool.not_or];rw[Bool.and_comm];congr 1
theorem qS(o r:List Int):(jV o r).length≤o.length:=List.length_filter_le _ _
theorem EV{o:List Int}{x:Int}(h:x∈jV R o):x∈R:=(List.mem_filter.1 h).1
def oS(t:Tk)(c:hl)(r:Rc)(k:Nat)(S:TS):Prop:=∃A d' o' ms du o,S.t={t with s:={t.s with ex:=A,du:=d'},r:={t.r with ou:=o'}}∧S.c={c with ms:=ms,xs:=jV c.xs o,du:=du}∧S.r={r with os:=r.os++o}∧
 ms.length=c.ms.length∧(∀m∈ms,MG m)∧o.length≤k∧du.length≤c.du.length+o.length∧(∀z,z≤t.s.ep→(∀x∈c.du,DG z (t.s.ep+50) x)→∀x∈du,DG z (t.s.ep+50) x)
theorem oS.start{κ:hr}{t:Tk}{c:hl}{r:Rc}(h:∀m∈c.ms,MG m):oS t c r 0 ⟨κ,t,c,r⟩:=⟨t.s.ex,t.s.du,t.r.ou,c.ms,c.du,[],rfl,by rw[yH],by rw[List.append_nil],rfl,h,h6,by simp,fun _ _ h=>h⟩
theorem oS.more{t:Tk}{c:hl}{r:Rc}{k':Nat}{S:TS}(h:oS t c r k S)(o:k≤k'):oS t c r k' S:=by
 obtain⟨z,d',o',A,D,E,F,G,I,J,K,O,Q,R⟩:=h;exact⟨z,d',o',A,D,E,F,G,I,J,K,Nat.le_trans O o,Q,R⟩
structure TD (t:Tk) (c:hl) (r:Rc):Prop where
 ep:0≤t.s.ep∧t.s.ep≤1073741824
 wt:0≤t.wt∧t.wt≤50
 du:c.du.length≤700000
 dg:∀x∈c.du,DG (-1) (t.s.ep+50) x
 xs:c.xs.length≤1000
 os:r.os.length≤100000
def EJ(κ:hr)(g B:Nat)(t:Tk)(c:hl)(r:Rc)(w:World)(k:Nat)(S:TS)(W:World):Prop:=S.At g W∧ht κ w S.κ W∧ha W B 136 #[.pointer (some ⟨g,0,none⟩)]∧S.κ B=0∧oS t c r k S
theorem EW(κ:hr)(g B b:Nat)(t:Tk)(c:hl)(r:Rc)(w:World)(z:TD t c r)(af:t.s.me=⟨some ⟨b,0,none⟩,t.s.me.n,t.s.me.c⟩)(aA:t.s.me.n≤128)(k:Nat)(S:TS)(W:World)(m:Mem)(aB:EJ κ g B t c r w k S W)(D:S.c.ms[k]?=some m):
 Calls prog 116 #[int i64 k,.pointer (some ⟨b,k*6,none⟩),.pointer (some ⟨B,0,none⟩)] W fun e F=>e= .returned (.tuple #[])∧∃aC,EJ κ g B t c r w (k+1) aC F:=by
 obtain⟨E,R,T,U,aD,d',o',G,aE,I,J,K,ag,ah,V,ai,aj,X⟩:=aB;obtain⟨Y,aW,aX,aY⟩:=S;simp only at J K ag D R U;subst J K ag;have E:hK Y g _ _ _ W:=E;have Z:=V m (List.mem_of_getElem? D);have aF:k<t.s.me.n:=by have O:=E.kz;have aG:=(jh.1 D).1;have aZ:G.length=t.s.me.n:=O;have a0:k<G.length:=aG;omega
 have aH:=qS c.xs I;have aI:=g' (fun F (Q:Below W.heap.size W F)=>yG Y g _ _ _ k m D F (E.below Q) Z.iq (by have:=z.du;first|omega|(simp only;omega)) (fun x aa=>(X (-1) (by have:=z.ep;omega) z.dg x aa).am) z.ep z.wt (by have:=z.xs;first|omega|(simp only;omega)) (by have:=z.os;show(r.os++I).length≤_;rw[List.length_append];omega));obtain⟨ak,Q,_,_,_,ab⟩:=hK.lx E D;have al:ak=b:=by have O:t.s.me=⟨some ⟨ak,0,none⟩,_,_⟩:=Q;rw[af]at O;simpa using(congrArg Sl.A O).symm
 rw[al]at ab;have an:=nH Mem.len ab D;have aJ:W.cell? ⟨b,k*6,none⟩=some (int u64 m.hD):=by have:=an 0 _ rfl;rwa[Nat.add_zero]at this
 obtain⟨aK,ao,ap,aq,o,aL⟩:=ku E R T U (And.intro ah (And.intro V (And.intro ai (And.intro aj X)))) (And.intro D Z);obtain⟨q,a1⟩:=ho (decide (m.hD≤t.s.p.floor));have aM:=T.cell (j:=0) (v:= .pointer (some ⟨g,0,none⟩)) rfl;have aN:=E.box.cell (j:=2) (v:=int u64 t.s.p.floor) rfl;clear E R T U ah V ai aj X D Z Q ab an al aH af aA z aF;go_enter func116,ntmps116;go_wp2;refine gZ.iP (fun w'=>w'.cell? ⟨b,k*6,none⟩=some (int u64 m.hD)∧w'.cell? ⟨B,0,none⟩=some (.pointer (some ⟨g,0,none⟩))∧w'.cell? ⟨g,2,none⟩=some (int u64 t.s.p.floor)) 12 (by kernel_rfl) (by rintro _ _ (_|_) _ _ h<;>exact h) (⟨aJ,aM,aN⟩) fun aO ac=>?_;refine gZ.tq aO 0 (gZ.sq 0 12 false []) (by kernel_rfl) ac ?_;iterate 12(refine gZ.t1 rfl rfl (fun w' ad=>by try simp only[S3];have a2:=ad.1;have a3:=ad.2.1;have a4:=ad.2.2;go_simp;try rfl) ?_;try simp only[S4,S3])
 refine gZ.hH (fun ac=>?_);clear ac;refine gZ.ia rfl ?_;cases q
 ·go_wp2
  go_end0;exact⟨rfl,⟨Y,_,_,_⟩,aK.out.below hM,ao.out.trans (ht.of hM),ap,aq,aD,d',o',G,aE,I,rfl,rfl,rfl,o.out.1,o.out.2.1,Nat.le_succ_of_le o.out.2.2.1,o.out.2.2.2.1,o.out.2.2.2.2⟩
 go_wp2_with fail;refine(aI _ hM).mono ?_;rintro e a5 ⟨rfl,aP,aQ,aR,aS,aT,ar,au,av,ae⟩;obtain⟨aU,aw,aV,ax⟩:=h5 av (((ht.of (Below.drew (Below.refl W.heap.size W))).trans ae).keep ap aq) (ao.out.trans ((ht.of hM).trans ae)) (And.intro ar au);clear av ae ar au;go_wp2;go_end0;refine⟨rfl,⟨aP,_,_,_⟩,aU,aV,aw.out.1,aw.out.2,aQ,aR,aS,G.set k (kx m 4),aT,I++[(k:Int)],rfl,by rw[yI],by rw[List.append_assoc],by rw[List.length_set];exact o.out.1,nf o.out.2.1 (ve aL.out.2 4 (by omega)),?_,?_,fun ay az aa=>ax.out.2 ay az (o.out.2.2.2.2 ay az aa)⟩
 ·have:=o.out.2.2.1;simp only[List.length_append,List.length_singleton];omega
 have J:=o.out.2.2.2.1;have K:=ax.out.1;simp only[List.length_append,List.length_singleton]at J K⊢;omega
theorem yJ(κ:hr)(g:Nat)(t:Tk)(c:hl)(r:Rc)(w:World)(h:hK κ g t c r w)(K:TD t c r)(O:∀m∈c.ms,MG m)(Q:t.s.me.n≤128):
 Calls prog 63 #[.pointer (some ⟨g,0,none⟩)] w fun e w'=>e= .returned (.tuple #[])∧∃S,S.At g w'∧ht κ w S.κ w'∧oS t c r 128 S:=by
 have D:Below w.heap.size w (w.alloc (.cells #[.pointer (some ⟨g,0,none⟩)] 136)):=hz.alloc hj _;have z:ha (w.alloc (.cells #[.pointer (some ⟨g,0,none⟩)] 136)) w.heap.size 136 #[.pointer (some ⟨g,0,none⟩)]:=ha.new w _ _ _ rfl;have E:=h.below D;have F:κ w.heap.size=0:=h.fresh _ hj;have R:=g' (ht.of (κ:=κ) D);obtain⟨U,G⟩:=ho (w.alloc (.cells #[.pointer (some ⟨g,0,none⟩)] 136));obtain⟨B,I⟩:=ho w.heap.size;rw[G]at z E R;rw[I]at z F;have ae:=z.all;obtain⟨V,X,Y,Z,aa⟩:=jg E z F G I;clear D z E F G I;have ab:=g' (rY 116 (enters_of func116 rfl rfl) #[.pointer (some ⟨B,0,none⟩)] g t.s.me (EJ κ g B t c r w)
  (fun k S W o=>⟨o.1,by obtain⟨_,_,_,_,af,d',o',ag,ah,ai,ac,_⟩:=o;rw[ac]⟩)
  (fun k S W aj o A=>⟨hK.below o.1 A,o.2.1.trans (ht.of A),o.2.2.1.to A,o.2.2.2.1,o.2.2.2.2⟩)
  (fun k S W m o T ad=>⟨o.1,o.2.1,o.2.2.1,o.2.2.2.1,o.2.2.2.2.more (Nat.le_succ _)⟩)
  (fun k S W m b o T ad A=>EW κ g B b t c r w K A Q k S W m o T)
  ⟨κ,t,c,r⟩ U ⟨V,R,X,Y,oS.start O⟩ (by omega))
 clear h K O;go_enter func63,ntmps63;go_upto_region 1 with(fail)
 rw[Z.out,aa.out];go_wp2_with fail;refine ab.mono ?_;rintro e ak ⟨rfl,S,o⟩;have J:=g' o;clear o;go_wp2;go_end0;exact⟨rfl,S,J.1,J.2.1,J.2.2.2.2.more Q⟩
def CJ(κ:hr)(g B:Nat)(w:World)(P:Nat→TS→Prop)(k:Nat)(S:TS)(W:World):Prop:=S.At g W∧ht κ w S.κ W∧ha W B 136 #[.pointer (some ⟨g,0,none⟩)]∧S.κ B=0∧P k S
theorem CJ.below{κ:hr}{P:Nat→TS→Prop}{S:TS}(h:CJ κ g B w P k S W)(o:Below W.heap.size W X):CJ κ g B w P k S X:=⟨hK.below h.1 o,h.2.1.trans (ht.of o),h.2.2.1.to o,h.2.2.2.1,h.2.2.2.2⟩
theorem hK.kK{κ:hr}{t:Tk}{c:hl}{r:Rc}{m:Mem}(h:hK κ g t c r w)(o:c.ms[i]?=some m)(E:t.s.me=⟨some ⟨b,0,none⟩,t.s.me.n,t.s.me.c⟩):w.rangeAt b (i*6) m.enc∧w.there b (i*6) 6∧t.s.me=⟨some ⟨b,0,none⟩,c.ms.length,t.s.me.c⟩:=by
 obtain⟨F,z,_,_,_,D⟩:=h.lx o;have G:F=b:=by rw[E]at z;simpa using(congrArg Sl.A z).symm
 subst G;have I:=(jh.1 o).1;exact⟨nH Mem.len D o,oP D (i*6) 6 (by omega),z⟩
def im(m:Mem):Std:=⟨m.hD,m.hP,m.h9,m.str⟩
def lA(m:Mem)(s:Std):Mem:=⟨s.hD,s.hP,s.h9,s.str,m.own,m.h3⟩
theorem vf{m:Mem}(h:my m):(im m).jE:=⟨h.hD,h.hP,h.h9,h.str⟩
theorem hK.oT{κ:hr}{t:Tk}{c:hl}{r:Rc}{m:Mem}(h:hK κ g t c r w)(z:c.ms[i]?=some m)(A:t.s.me=⟨some ⟨b,0,none⟩,t.s.me.n,t.s.me.c⟩):w.rangeAt b (i*6) (im m).enc∧w.there b (i*6) 4:=by
 obtain⟨D,E,_⟩:=h.kK z A;refine⟨fun j v o=>D j v ?_,fun j F=>E j (by omega)⟩;have F:j<4:=(jh.1 o).1;rcases(by omega:j=0∨j=1∨j=2∨j=3)with rfl|rfl|rfl|rfl<;>exact o
theorem EX{p:hx}(r:p.jd){m:Mem}(h:MG m)(b:Bool)(z:Int):MG (lA m (mN p (im m) b z)):=by
 have o:=h.iq;have E:=r.ig;have F:=r.ic;have D:=o.h9;have A:∀x,o5 m.h9 x p.ig<18446744073709551616:=fun x=>by unfold o5;split<;>omega
 unfold mN;cases b
 ·refine⟨⟨o.hD,o.hP,?_,by simp[lA,ov],o.own,o.h3⟩,h.hD,h.hP⟩
  show(ov p (im m) z).h9<_;unfold ov im;simp only;split
  ·exact A _
  split
  ·exact A _
  exact D
 refine⟨⟨o.hD,o.hP,?_,?_,o.own,o.h3⟩,h.hD,h.hP⟩
 ·show(ny p (im m)).h9<_
  unfold ny im;simp only;omega
 show-9223372036854775808≤(ny p (im m)).str∧(ny p (im m)).str<_;unfold ny im;simp only;omega
theorem yK:∀(l:List Nat) (B:Nat),(∀u∈l,u≤B)→l.sum≤l.length*B
 |[],_,_=>by simp
 |a::l,B,h=>by
  have r:=h a (List.mem_cons_self ..);have z:=yK l B fun u o=>h u (List.mem_cons_of_mem _ o);rw[List.sum_cons,List.length_cons,Nat.add_mul];omega
def qg(t:Tk)(c:hl)(r:Rc)(_:Nat)(S:TS):Prop:=S.t=t∧S.r=r∧∃ms,S.c={c with ms:=ms}∧ms.length=c.ms.length∧∀m∈ms,MG m
theorem EY(κ:hr)(g B b:Nat)(t:Tk)(c:hl)(r:Rc)(w:World)(ab:iG t.s.p=true)(am:c.mm.length≤1000000)(an:t.s.me=⟨some ⟨b,0,none⟩,t.s.me.n,t.s.me.c⟩)(k:Nat)(aF:k≤1000000)(S:TS)(W:World)(m:Mem)(ao:CJ κ g B w (qg t c r) k S W)(U:S.c.ms[k]?=some m):
 Calls prog 104 #[int i64 k,.pointer (some ⟨b,k*6,none⟩),.pointer (some ⟨B,0,none⟩)] W fun e J=>e= .returned (.tuple #[])∧∃ap,CJ κ g B w (qg t c r) (k+1) ap J:=by
 obtain⟨D,E,aq,F,ac,ad,ms,ae,ar,af⟩:=ao;obtain⟨O,o,aG,Q⟩:=S;simp only at ac ad ae U E F;subst ac ad ae;have D:hK O g o {c with ms:=ms} Q W:=D;have ag:=af m (List.mem_of_getElem? U);obtain⟨au,av,aw,V,R,ax,ay,az,aA⟩:=og (fun J (aB:hK O g o {c with ms:=ms} Q J)=>vd O g o _ Q k (by omega) J aB am) (fun G J=>A2 o.s.p ab (im m) (vf ag.iq) G o.r.mode J) (fun G=>EX (j6 ab) ag G o.r.mode) an U D E aq F;have ah:=g' (And.intro ar af);go_enter func104,ntmps104;go_wp2;refine gZ.rg (fun w'=>ha w' B 136 #[.pointer (some ⟨g,0,none⟩)]) (fun w'=>hK O g o {c with ms:=ms} Q w') 21 22 (by kernel_rfl) (by rintro _ _ (_|_) _ _ h<;>exact h) az.drew (ax.below hM) fun ai A=>?_;refine gZ.tq ai 5 (gZ.sq 0 12 true (gZ.sq 13 5 true [])) (by kernel_rfl) A ?_;iterate 5(refine gZ.t1 rfl rfl (fun w' z=>by try simp only[S3];first|(have⟨E,D⟩:=z;have I:=E.all;have X:=D.box.all;go_simp;try rfl)|(have I:=z.all;go_simp;try rfl)) ?_;try simp only[S4,S3])
 refine gZ.tY 0 ((o.s.p.cs).toList) (fun w' z=>z.2.box) (by kernel_rfl) hQ (by kernel_rfl) rfl rfl rfl rfl rfl ?_;try simp only[S4,S3]
 iterate 3(refine gZ.t1 rfl rfl (fun w' z=>by try simp only[S3];first|(have⟨E,D⟩:=z;have I:=E.all;have X:=D.box.all;go_simp;try rfl)|(have I:=z.all;go_simp;try rfl)) ?_;try simp only[S4,S3])
 refine gZ.jK (.agg ((im m).enc).toArray) rfl (yieldsIf_load_mid (by rfl) 96 (.tmp 13) rfl b ((k*6)) rfl ((im m).enc) _ (fun w' z=>by have⟨E,D⟩:=gZ.mU z;exact(D.oT R V).1) km rfl (by kernel_rfl)) ?_;try simp only[S4,S3]
 iterate 7(refine gZ.t1 rfl rfl (fun w' z=>by try simp only[S3];first|(have⟨E,D⟩:=z;have I:=E.all;have X:=D.box.all;go_simp;try rfl)|(have I:=z.all;go_simp;try rfl)) ?_;try simp only[S4,S3])
 refine gZ.hH (fun A=>?_);refine gZ.hY 12 (n:=4) rfl rfl (by kernel_rfl) (fun K F=>?_);try simp only[S3]
 go_simp;refine(au _ (A.2 rfl)).mono ?_;rintro e aH ⟨G,rfl,Y⟩;have aC:=g' ((ht.of (κ:=O) (Below.drew (Below.refl W.heap.size W))).trans (ht.of Y));refine F.out _ _ (A.1.to Y) ((A.2 rfl).below Y) (fun A=>?_);try simp only[S4,S3]
 refine gZ.hY 18 (n:=3) rfl rfl (by kernel_rfl) (fun K F=>?_);try simp only[S3]
 go_simp;refine hI (av _ _) fun aI Z=>?_;have aD:=g' (aC.trans (ht.of Z));refine F.out _ _ (A.1.to Z) ((A.2 rfl).below Z) (fun A=>?_);try simp only[S4,S3]
 refine gZ.tq ai 1 [(19,false),(20,true)] (by kernel_rfl) A ?_;iterate 2(refine gZ.t1 rfl rfl (fun w' z=>by try simp only[S3];first|(have⟨E,D⟩:=z;have I:=E.all;have X:=D.box.all;go_simp;try rfl)|(have I:=z.all;go_simp;try rfl)) ?_;try simp only[S4,S3])
 refine gZ.hH (fun A=>?_);refine gZ.jc 21 (n:=0) rfl rfl (by kernel_rfl) (by kernel_rfl) (fun K F=>?_);try simp only[S3]
 have aa:=A.2 rfl;rw[if_pos (by rfl)];refine wp_store_mid 96 (.tmp 25) (.tmp 23) rfl b (k*6) (mN o.s.p (im m) G o.r.mode).cs rfl rfl (aa.oT R V).2 (by kernel_rfl) (by kernel_rfl) ?_;obtain⟨aE,aj⟩:=aa.nb (aa.kK R V).2.2 R 0 (mN o.s.p (im m) G o.r.mode).cs.toList (lA m (mN o.s.p (im m) G o.r.mode)) (by simp[Std.cs]) rfl;obtain⟨T,ak,al⟩:=hs (aj.keep A.1 aA) aE (ay.trans (aD.trans aj));rw[Nat.add_zero]at T ak al;refine F.out _ _ (T.1) (fun A=>?_);refine gZ.ia rfl ?_;go_wp2;go_end0;exact⟨rfl,⟨O,o,_,Q⟩,ak,al,T.1,T.2,rfl,rfl,_,rfl,by rw[List.length_set];exact ah.1,nf ah.2 (aw G)⟩
theorem EZ(κ:hr)(g:Nat)(t:Tk)(c:hl)(r:Rc)(w:World)(h:hK κ g t c r w)(Y:iG t.s.p=true)(Z:∀m∈c.ms,MG m)(aF:t.s.me.n≤128)(T:c.mm.length≤1000000)(a4:0≤t.s.calm∧t.s.calm≤1073741824):
 Calls prog 60 #[.pointer (some ⟨g,0,none⟩)] w fun e w'=>e= .returned (.tuple #[])∧∃S x,S.At g w'∧ht κ w S.κ w'∧x<18446744073709551616∧
  qg {t with s:={t.s with calm:=rz t.s.calm (ry x (ju c.ms).sum)},r:={t.r with lu:=x,act:=(ju c.ms).sum,q:=ry x (ju c.ms).sum,mode:=sB t.s.p (rz t.s.calm (ry x (ju c.ms).sum)) t.s.em}} c r 0 S:=by
 have ae:Below w.heap.size w (w.alloc (.cells #[.pointer (some ⟨g,0,none⟩)] 136)):=hz.alloc hj _;have aa:ha (w.alloc (.cells #[.pointer (some ⟨g,0,none⟩)] 136)) w.heap.size 136 #[.pointer (some ⟨g,0,none⟩)]:=ha.new w _ _ _ rfl;have E:=h.below ae;have af:κ w.heap.size=0:=h.fresh _ hj;have ag:=g' (ht.of (κ:=κ) ae);obtain⟨aG,ah⟩:=ho (w.alloc (.cells #[.pointer (some ⟨g,0,none⟩)] 136));obtain⟨B,ai⟩:=ho w.heap.size;rw[ah]at aa E ag;rw[ai]at aa af;obtain⟨aH,aI,X,a5,a6⟩:=jg E aa af ah ai;clear ae aa E af ah ai;have a7:=h.kz;obtain⟨z,aj⟩:=hk ((ju c.ms).sum);have aJ:z<18446744073709551616:=by
  have a8:=yK (ju c.ms) 1099511627776 (sT c.ms _ fun m T=>(Z m T).hP);have a9:=uq c.ms;have a':(ju c.ms).length*1099511627776≤128*1099511627776:=Nat.mul_le_mul_right _ (by omega);omega
 have aK:=g' (fun U (ak:hK κ g t c r U)=>CL t.s.me.A t.s.me.n t.s.me.c c.ms t.s.ma.A t.s.ma.n t.s.ma.c c.mm U ak.row.me.row ak.row.n.seen.ma aF (by rw[←ak.row.n.ma.1];exact T) (fun m T=>(Z m T).hP) z aj);rw[←aj];obtain⟨aL,aM,ba⟩:=hs (And.intro aJ Z) (And.intro Y (And.intro T aF)) (show-9223372036854775808≤t.s.calm∧t.s.calm<9223372036854775808 by omega);clear h Y Z T aj aJ a7 a4;go_enter func60,ntmps60;go_upto_region 1 with(fail)
 rw[a5.out,a6.out];go_wp2;refine gZ.rg (fun w'=>ha w' B 136 #[.pointer (some ⟨g,0,none⟩)]) (fun w'=>hK κ g t c r w') 20 25 (by kernel_rfl) (by rintro _ _ (_|_) _ _ h<;>exact h) aI.drew (aH.below hM) fun Q o=>?_;refine gZ.tq Q 13 (gZ.sq 0 1 true (gZ.sq 1 1 false (gZ.sq 2 10 true []))) (by kernel_rfl) o ?_;iterate 12(refine gZ.t1 rfl rfl (fun w' D=>by try simp only[S3];first|(have⟨hS,E⟩:=D;have F:=hS.all;have R:=E.box.all;go_simp;try rfl)|(have F:=D.all;go_simp;try rfl)) ?_;try simp only[S4,S3])
 refine gZ.hH (fun o=>?_);refine gZ.hY 12 (n:=12) rfl rfl (by kernel_rfl) (fun K G=>?_);try simp only[S3]
 go_simp;refine(aK _ (o.2 rfl)).mono ?_;rintro e bi ⟨x,bb,rfl,al⟩;obtain⟨aN,aO⟩:=hg ((ht.of (κ:=κ) (Below.drew (Below.refl aG.heap.size aG))).trans (ht.of al)) bb;refine G.out _ _ (o.1.to al) ((o.2 rfl).below al) (fun o=>?_);try simp only[S4,S3]
 refine gZ.tq Q 5 (gZ.sq 13 2 true (gZ.sq 15 4 false (gZ.sq 19 1 true []))) (by kernel_rfl) o ?_;iterate 7(refine gZ.t1 rfl rfl (fun w' D=>by try simp only[S3];first|(have⟨hS,E⟩:=D;have F:=hS.all;have R:=E.box.all;go_simp;try rfl)|(have F:=D.all;go_simp;try rfl)) ?_;try simp only[S4,S3])
 refine gZ.hH (fun o=>?_);refine gZ.jc 20 (n:=4) rfl rfl (by kernel_rfl) (by kernel_rfl) (fun K G=>?_);try simp only[S3]
 have I:=o.2 rfl;have bj:=I.box.all;have bk:=I.box.frozen 44;obtain⟨aP,am⟩:=I.num (t':={t with r:={t.r with lu:=x}}) rfl 44 (int u64 x) rfl;obtain⟨ab,aQ,an⟩:=hs aP (ag.trans (aN.trans am)) (am.keep o.1 X);clear I aP am;go_simp;refine G.out _ _ (an.1) (fun o=>?_);refine gZ.tq Q 1 (gZ.sq 21 3 false []) (by kernel_rfl) o ?_;iterate 3(refine gZ.t1 rfl rfl (fun w' D=>by try simp only[S3];first|(have⟨hS,E⟩:=D;have F:=hS.all;have R:=E.box.all;go_simp;try rfl)|(have F:=D.all;go_simp;try rfl)) ?_;try simp only[S4,S3])
 refine gZ.hH (fun o=>?_);refine gZ.jc 24 (n:=0) rfl rfl (by kernel_rfl) (by kernel_rfl) (fun K G=>?_);try simp only[S3]
 have bl:=ab.box.all;have bm:=ab.box.frozen 45;obtain⟨aR,ao⟩:=ab.num (t':={t with r:={t.r with lu:=x,act:=z}}) rfl 45 (int u64 z) rfl;obtain⟨aS,aT,ap⟩:=hs aR (aQ.trans ao) (ao.keep an.1 X);clear aR ao;go_simp;refine G.out _ _ (ap.1) (fun o=>?_);clear o;refine gZ.ia rfl ?_;obtain⟨q,aq⟩:=hk (ry x z);obtain⟨O,ar⟩:=hk (rz t.s.calm q);obtain⟨V,au⟩:=hk (sB t.s.p O t.s.em);obtain⟨bc,bd,be,aU,aV⟩:=jg aq ar au (fun U=>AX t.s.p t.s.calm ba x z aO aL.1 q aq O ar U) (fun U=>AY t.s.p O t.s.em V au U);clear aq ar au aH aI ag aK ab aQ an aN;go_wp2;refine gZ.rg (fun w'=>ha w' B 136 #[.pointer (some ⟨g,0,none⟩)]) (fun w'=>hK κ g ({t with r:={t.r with lu:=x,act:=z}}) c r w') 29 34 (by kernel_rfl) (by rintro _ _ (_|_) _ _ h<;>exact h) (ap.1.drew) (aS.below hM) fun Q o=>?_;refine gZ.tq Q 12 (gZ.sq 0 1 true (gZ.sq 1 1 false (gZ.sq 2 20 true []))) (by kernel_rfl) o ?_;iterate 6(refine gZ.t1 rfl rfl (fun w' D=>by try simp only[S3];first|(have⟨hS,E⟩:=D;have F:=hS.all;have R:=E.box.all;go_simp;try rfl)|(have F:=D.all;go_simp;try rfl)) ?_;try simp only[S4,S3])
 refine gZ.tY 0 ((t.s.p.cs).toList) (fun w' D=>D.2.box) (by kernel_rfl) hQ (by kernel_rfl) rfl rfl rfl rfl rfl ?_;try simp only[S4,S3]
 iterate 15(refine gZ.t1 rfl rfl (fun w' D=>by try simp only[S3];first|(have⟨hS,E⟩:=D;have F:=hS.all;have R:=E.box.all;go_simp;try rfl)|(have F:=D.all;go_simp;try rfl)) ?_;try simp only[S4,S3])
 refine gZ.hH (fun o=>?_);refine gZ.hY 22 (n:=11) rfl rfl (by kernel_rfl) (fun K G=>?_);try simp only[S3]
 go_simp;refine hI (aU _) fun bn av=>?_;have aW:=g' (aT.trans ((ht.of (κ:=κ) hM).trans (ht.of av)));refine G.out _ _ (o.1.to av) ((o.2 rfl).below av) (fun o=>?_);try simp only[S4,S3]
 refine gZ.tq Q 5 (gZ.sq 23 2 true (gZ.sq 25 3 false (gZ.sq 28 1 true []))) (by kernel_rfl) o ?_;iterate 6(refine gZ.t1 rfl rfl (fun w' D=>by try simp only[S3];first|(have⟨hS,E⟩:=D;have F:=hS.all;have R:=E.box.all;go_simp;try rfl)|(have F:=D.all;go_simp;try rfl)) ?_;try simp only[S4,S3])
 refine gZ.hH (fun o=>?_);refine gZ.jc 29 (n:=4) rfl rfl (by kernel_rfl) (by kernel_rfl) (fun K G=>?_);try simp only[S3]
 have I:=o.2 rfl;have bo:=I.box.all;have bp:=I.box.frozen 30;obtain⟨aX,aw⟩:=I.num (t':={t with s:={t.s with calm:=O},r:={t.r with lu:=x,act:=z}}) rfl 30 (int i64 O) rfl;obtain⟨ac,aY,ax⟩:=hs aX (aW.trans aw) (aw.keep o.1 X);clear I aX aw;go_simp;refine G.out _ _ (ax.1) (fun o=>?_);refine gZ.tq Q 1 (gZ.sq 30 3 false []) (by kernel_rfl) o ?_;iterate 3(refine gZ.t1 rfl rfl (fun w' D=>by try simp only[S3];first|(have⟨hS,E⟩:=D;have F:=hS.all;have R:=E.box.all;go_simp;try rfl)|(have F:=D.all;go_simp;try rfl)) ?_;try simp only[S4,S3])
 refine gZ.hH (fun o=>?_);refine gZ.jc 33 (n:=0) rfl rfl (by kernel_rfl) (by kernel_rfl) (fun K G=>?_);try simp only[S3]
 have bq:=ac.box.all;have br:=ac.box.frozen 43;obtain⟨aZ,ay⟩:=ac.num (t':={t with s:={t.s with calm:=O},r:={t.r with lu:=x,act:=z,q:=q}}) rfl 43 (.bool q) rfl;obtain⟨a0,a1,az⟩:=hs aZ (aY.trans ay) (ay.keep ax.1 X);clear aZ ay;go_simp;refine G.out _ _ (az.1) (fun o=>?_);clear o;refine gZ.ia rfl ?_;clear aS ap aT aU ac aY ax aW;go_wp2;refine gZ.rg (fun w'=>ha w' B 136 #[.pointer (some ⟨g,0,none⟩)]) (fun w'=>hK κ g ({t with s:={t.s with calm:=O},r:={t.r with lu:=x,act:=z,q:=q}}) c r w') 20 21 (by kernel_rfl) (by rintro _ _ (_|_) _ _ h<;>exact h) (az.1.drew) (a0.below hM) fun Q o=>?_;refine gZ.tq Q 5 (gZ.sq 0 16 true []) (by kernel_rfl) o ?_;iterate 5(refine gZ.t1 rfl rfl (fun w' D=>by try simp only[S3];first|(have⟨hS,E⟩:=D;have F:=hS.all;have R:=E.box.all;go_simp;try rfl)|(have F:=D.all;go_simp;try rfl)) ?_;try simp only[S4,S3])
 refine gZ.tY 0 ((t.s.p.cs).toList) (fun w' D=>D.2.box) (by kernel_rfl) hQ (by kernel_rfl) rfl rfl rfl rfl rfl ?_;try simp only[S4,S3]
 iterate 10(refine gZ.t1 rfl rfl (fun w' D=>by try simp only[S3];first|(have⟨hS,E⟩:=D;have F:=hS.all;have R:=E.box.all;go_simp;try rfl)|(have F:=D.all;go_simp;try rfl)) ?_;try simp only[S4,S3])
 refine gZ.hH (fun o=>?_);refine gZ.hY 16 (n:=4) rfl rfl (by kernel_rfl) (fun K G=>?_);try simp only[S3]
 go_simp;refine hI (aV _) fun bt aA=>?_;have a2:=g' (a1.trans ((ht.of (κ:=κ) hM).trans (ht.of aA)));refine G.out _ _ (o.1.to aA) ((o.2 rfl).below aA) (fun o=>?_);try simp only[S4,S3]
 refine gZ.tq Q 1 [(17,false),(18,false),(19,true)] (by kernel_rfl) o ?_;iterate 3(refine gZ.t1 rfl rfl (fun w' D=>by try simp only[S3];first|(have⟨hS,E⟩:=D;have F:=hS.all;have R:=E.box.all;go_simp;try rfl)|(have F:=D.all;go_simp;try rfl)) ?_;try simp only[S4,S3])
 refine gZ.hH (fun o=>?_);refine gZ.jc 20 (n:=0) rfl rfl (by kernel_rfl) (by kernel_rfl) (fun K G=>?_);try simp only[S3]
 have I:=o.2 rfl;have bu:=I.box.all;have bv:=I.box.frozen 42;obtain⟨a3,aB⟩:=I.num (t':={t with s:={t.s with calm:=O},r:={t.r with lu:=x,act:=z,q:=q,mode:=V}}) rfl 42 (int i64 V) rfl;obtain⟨bf,bg,ad⟩:=hs a3 (a2.trans aB) (aB.keep o.1 X);clear I a3 aB;go_simp;refine G.out _ _ (ad.1) (fun o=>?_);clear o;refine gZ.ia rfl ?_;have bw:=ad.1.all;have bh:=g' (rY 104 (enters_of func104 (by kernel_rfl) rfl) #[.pointer (some ⟨B,0,none⟩)] g t.s.me (CJ κ g B w (qg ({t with s:={t.s with calm:=O},r:={t.r with lu:=x,act:=z,q:=q,mode:=V}}) c r))
  (fun k S W J=>⟨J.1,by rw[J.2.2.2.2.1]⟩)
  (fun k S W U J aC=>J.below aC)
  (fun k S W m J aD Y=>J)
  (fun k S W m b J aD Y aC=>EY κ g B b ({t with s:={t.s with calm:=O},r:={t.r with lu:=x,act:=z,q:=q,mode:=V}}) c r w aM.1 aM.2.1 aC k (by
    have a8:=(jh.1 aD).1;have a9:=hK.kz J.1;have a':S.t.s.me.n=t.s.me.n:=by rw[J.2.2.2.2.1]
    omega) S W m J aD)
  ⟨κ,{t with s:={t.s with calm:=O},r:={t.r with lu:=x,act:=z,q:=q,mode:=V}},c,r⟩ _ ⟨bf,bg,ad.1,ad.2,rfl,rfl,c.ms,rfl,rfl,aL.2⟩ (by omega))
 clear a0 a1 az a2 aV;go_wp2_with fail;refine bh.mono ?_;rintro e bx ⟨rfl,S,J⟩;have aE:=g' J;clear J;go_wp2;go_end0;exact⟨rfl,S,x,aE.1,aE.2.1,aO,by rw[←bc.out,←bd.out,←be.out];exact aE.2.2.2.2⟩
theorem yL{κ:hr}{w':World}{v:Value}{bs:List Nat}(I:bs.length=n)(r:jQ.ko bs)(h:w'.ownsRow w.heap.size e 1 v n (bs.map hq.jq))(z:∀k,w.heap.size≤k→κ k=0):
 ∃s:Sl,v=s.v∧s.n=n∧s.Ok∧hq.ie (hL κ w') w'.heap.size s.A s.n bs:=by
 obtain⟨s,rfl,rfl,D,E,F⟩:=jZ h;have o:=(lK (bs:=bs)).2 ⟨F,r⟩;exact⟨s,rfl,rfl,D,o.1,o.2.1,Rd.hid o.2.2 fun G e=>z _ (E G e)⟩
theorem tg{p:hx}(o:p.jd)(b:Nat):lI p b≤1099511627776:=by
 have r:=o.ix;have z:=o.lH.cap;unfold lI;omega
theorem E0{p:hx}(o:p.jd){e:Nat}(r:e≤1099511627776):o6 p e b≤1099511627776:=by
 unfold o6;split
 ·exact tg o b
 exact r
def lB(m:Mem)(e:Nat):Mem:=⟨m.hD,e,m.h9,m.str,m.own,m.h3⟩
theorem yM{m:Mem}(h:MG m){e:Nat}(o:e≤1099511627776):MG (lB m e):=⟨⟨h.iq.hD,by simp only[lB];omega,h.iq.h9,h.iq.str,h.iq.own,h.iq.h3⟩,h.hD,o⟩
theorem hK.lO{κ:hr}{t:Tk}{c:hl}{r:Rc}{m:Mem}(h:hK κ g t c r w)(o:c.ms[i]?=some m)(z:t.s.me=⟨some ⟨b,0,none⟩,t.s.me.n,t.s.me.c⟩)(j:Nat)(v:Value)(A:m.enc[j]?=some v):w.cell? ⟨b,i*6+j,none⟩=some v:=(h.kK o z).1 j v A
theorem hK.oU{κ:hr}{t:Tk}{c:hl}{r:Rc}{m:Mem}(h:hK κ g t c r w)(o:c.ms[i]?=some m)(z:t.s.me=⟨some ⟨b,0,none⟩,t.s.me.n,t.s.me.c⟩):w.cell? ⟨b,i*6,none⟩=some (int u64 m.hD):=h.lO o z 0 _ rfl
theorem hK.vg{κ:hr}{t:Tk}{c:hl}{r:Rc}{m:Mem}(h:hK κ g t c r w)(o:c.ms[i]?=some m)(z:t.s.me=⟨some ⟨b,0,none⟩,t.s.me.n,t.s.me.c⟩)(j:Nat)(A:j<6):w.frozen? ⟨b,i*6+j,none⟩=false:=((h.kK o z).2.1 j A).2
theorem E1(κ:hr)(g B b:Nat)(t:Tk)(c:hl)(r:Rc)(w:World)(ab:iG t.s.p=true)(ar:t.s.me=⟨some ⟨b,0,none⟩,t.s.me.n,t.s.me.c⟩)(k:Nat)(S:TS)(W:World)(m:Mem)(aJ:CJ κ g B w (qg t c r) k S W)(ac:S.c.ms[k]?=some m):
 Calls prog 129 #[int i64 k,.pointer (some ⟨b,k*6,none⟩),.pointer (some ⟨B,0,none⟩)] W fun e X=>e= .returned (.tuple #[])∧∃aK,CJ κ g B w (qg t c r) (k+1) aK X:=by
 obtain⟨F,I,au,G,av,aw,ms,ax,ay,ag⟩:=aJ;obtain⟨Q,E,aZ,Z⟩:=S;simp only at av aw ax ac I G;subst av aw ax;have F:hK Q g E {c with ms:=ms} Z W:=F;have T:=ag m (List.mem_of_getElem? ac);have ah:=j6 ab;obtain⟨A,ai⟩:=hk (o6 E.s.p m.hP m.hD);have aa:A≤1099511627776:=by rw[ai];exact E0 ah T.hP
 have aL:=g' (fun X=>AS E.s.p ab m.hP m.hD T.iq.hP T.iq.hD A ai X);obtain⟨q,az⟩:=hk (rv E.s.p A m.hD);have aM:=g' (fun X=>wD E.s.p ab A m.hD (by omega) T.iq.hD q az X);obtain⟨ae,aj⟩:=hk (lI E.s.p m.hD);have aA:ae≤1099511627776:=by rw[aj];exact tg ah _
 obtain⟨aN,aB,aO⟩:=hs (fun X=>tX E.s.p ab m.hD T.iq.hD ae aj X) (yM T aa) (yM T aA);have aC:=(jh.1 ac).1;obtain⟨O,D,U,aD,aE,aF,ak,af⟩:=mI (fun m'=>show(ms.set k m')[k]?=some m' from List.getElem?_set_self (by exact aC)) ar ac F I au G (And.intro ay ag);clear F I au G ay ag ac T ar ab ai aj az aa aA ah aC;go_enter func129,ntmps129;go_wp2;refine gZ.rg (fun w'=>ha w' B 136 #[.pointer (some ⟨g,0,none⟩)]) (fun w'=>hK Q g E {c with ms:=ms} Z w') 20 21 (by kernel_rfl) (by rintro _ _ (_|_) _ _ h<;>exact h) aF.drew (aD.below hM) fun V o=>?_;refine gZ.tq V 5 (gZ.sq 0 16 true []) (by kernel_rfl) o ?_;iterate 16((first|(refine gZ.tY 0 ((E.s.p.cs).toList) (fun w' z=>z.2.box) (by kernel_rfl) hQ (by kernel_rfl) rfl rfl rfl rfl rfl ?_)|(refine gZ.t1 rfl rfl (fun w' z=>by try simp only[S3];first|(have⟨I,F⟩:=z;have R:=I.all;have al:=F.lO U D 1 _ rfl;have aP:=F.oU U D;go_simp;try rfl)|(have R:=z.all;go_simp;try rfl)) ?_));try simp only[S4,S3])
 refine gZ.hH (fun o=>?_);refine gZ.hY 16 (n:=4) rfl rfl (by kernel_rfl) (fun K G=>?_);(try simp only[S3])
 go_simp;refine hI (aL _) fun a0 aa=>?_;have aG:=g' (aE.trans ((ht.of (κ:=Q) (Below.drew (Below.refl W.heap.size W))).trans (ht.of aa)));refine G.out _ _ (o.1.to aa) ((o.2 rfl).below aa) (fun o=>?_);(try simp only[S4,S3])
 refine gZ.tq V 1 [(17,false),(18,false),(19,true)] (by kernel_rfl) o ?_;iterate 3(refine gZ.t1 rfl rfl (fun w' z=>by try simp only[S3];first|(have⟨I,F⟩:=z;have R:=I.all;have al:=F.lO U D 1 _ rfl;have aP:=F.oU U D;go_simp;try rfl)|(have R:=z.all;go_simp;try rfl)) ?_;try simp only[S4,S3])
 refine gZ.hH (fun o=>?_);refine gZ.jc 20 (n:=0) rfl rfl (by kernel_rfl) (by kernel_rfl) (fun K G=>?_);(try simp only[S3])
 have J:=o.2 rfl;have aQ:=J.lO U D 1 _ rfl;have aR:=J.vg U D 1 (by omega);obtain⟨ad,Y⟩:=J.nb (J.kK U D).2.2 U 1 [int u64 A] (lB m A) (by simp) rfl;obtain⟨aS,aT,aH⟩:=hs ad (aG.trans Y) (Y.keep o.1 ak);clear J ad Y;go_simp;refine G.out _ _ (aH.1) (fun o=>?_);clear o;refine gZ.ia rfl ?_;clear aD aE aF aG;go_wp2;refine gZ.iP (fun w'=>ha w' B 136 #[.pointer (some ⟨g,0,none⟩)]∧hK Q g E ({c with ms:=ms.set k (lB m A)}) Z w') 17 (by kernel_rfl) (by rintro _ _ (_|_) _ _ h<;>exact h) (⟨aH.1.drew,aS.below hM⟩) fun V o=>?_;refine gZ.tq V 2 (gZ.sq 0 15 false []) (by kernel_rfl) o ?_;iterate 15((first|(refine gZ.tY 0 ((E.s.p.cs).toList) (fun w' z=>z.2.box) (by kernel_rfl) hQ (by kernel_rfl) rfl rfl rfl rfl rfl ?_)|(refine gZ.t1 rfl rfl (fun w' z=>by try simp only[S3];have R:=z.1.all;have aU:=z.2.lO (O (lB m A)) D 1 _ rfl;have aV:=z.2.oU (O (lB m A)) D;go_simp;try rfl) ?_));try simp only[S4,S3])
 refine gZ.hH (fun o=>?_);refine gZ.hY 15 (n:=1) rfl rfl (by kernel_rfl) (fun K G=>?_);(try simp only[S3])
 go_simp;refine hI (aM _) fun a1 am=>?_;obtain⟨aI,an,ao⟩:=hs (aT.trans ((ht.of (κ:=Q) hM).trans (ht.of am))) (o.1.2.below am) (o.1.1.to am);refine G.out _ _ (⟨ao,an⟩) trivial (fun o=>?_);(try simp only[S4,S3])
 refine gZ.tq V 0 [(16,false)] (by kernel_rfl) o ?_;iterate 1(refine gZ.t1 rfl rfl (fun w' z=>by try simp only[S3];have R:=z.1.all;have aU:=z.2.lO (O (lB m A)) D 1 _ rfl;have aV:=z.2.oU (O (lB m A)) D;go_simp;try rfl) ?_;try simp only[S4,S3])
 refine gZ.hH (fun o=>?_);clear o;refine gZ.ia rfl ?_;cases q
 ·go_wp2
  refine gZ.rg (fun w'=>ha w' B 136 #[.pointer (some ⟨g,0,none⟩)]) (fun w'=>hK Q g E ({c with ms:=ms.set k (lB m A)}) Z w') 15 16 (by kernel_rfl) (by rintro _ _ (_|_) _ _ h<;>exact h) ao.drew (an.below hM) fun V o=>?_;refine gZ.tq V 5 (gZ.sq 0 11 true []) (by kernel_rfl) o ?_;iterate 11((first|(refine gZ.tY 0 ((E.s.p.cs).toList) (fun w' z=>z.2.box) (by kernel_rfl) hQ (by kernel_rfl) rfl rfl rfl rfl rfl ?_)|(refine gZ.t1 rfl rfl (fun w' z=>by try simp only[S3];first|(have⟨I,F⟩:=z;have R:=I.all;have al:=F.oU (O (lB m A)) D;go_simp;try rfl)|(have R:=z.all;go_simp;try rfl)) ?_));try simp only[S4,S3])
  refine gZ.hH (fun o=>?_);refine gZ.hY 11 (n:=4) rfl rfl (by kernel_rfl) (fun K G=>?_);(try simp only[S3])
  go_simp;refine hI (aN _) fun a2 ap=>?_;have aW:=g' (aI.trans ((ht.of (κ:=Q) hM).trans (ht.of ap)));refine G.out _ _ (o.1.to ap) ((o.2 rfl).below ap) (fun o=>?_);(try simp only[S4,S3])
  refine gZ.tq V 1 [(12,false),(13,false),(14,true)] (by kernel_rfl) o ?_;iterate 3(refine gZ.t1 rfl rfl (fun w' z=>by try simp only[S3];first|(have⟨I,F⟩:=z;have R:=I.all;have al:=F.oU (O (lB m A)) D;go_simp;try rfl)|(have R:=z.all;go_simp;try rfl)) ?_;try simp only[S4,S3])
  refine gZ.hH (fun o=>?_);refine gZ.jc 15 (n:=0) rfl rfl (by kernel_rfl) (by kernel_rfl) (fun K G=>?_);(try simp only[S3])
  have J:=o.2 rfl;have aQ:=J.lO (O (lB m A)) D 1 _ rfl;have aR:=J.vg (O (lB m A)) D 1 (by omega);obtain⟨ad,Y⟩:=J.nb (J.kK (O (lB m A)) D).2.2 (O (lB m A)) 1 [int u64 ae] (lB m ae) (by simp) rfl;obtain⟨aX,aY,aq⟩:=hs ad (aW.trans Y) (Y.keep o.1 ak);clear J ad Y;go_simp;refine G.out _ _ (aq.1) (fun o=>?_);clear o;refine gZ.ia rfl ?_;go_wp2;go_end0;exact⟨rfl,⟨Q,E,_,Z⟩,aX,aY,aq.1,aq.2,rfl,rfl,_,rfl,by rw[List.length_set,List.length_set];exact af.1,nf (nf af.2 aB) aO⟩
 go_wp2;go_end0;exact⟨rfl,⟨Q,E,_,Z⟩,an,aI,ao,ak,rfl,rfl,_,rfl,by rw[List.length_set];exact af.1,nf af.2 aB⟩
def E2(κ:hr)(g:Nat)(t:Tk)(c:hl)(r:Rc)(w w':World):Prop:=∃o z A ms,ht κ w o w'∧ms.length=c.ms.length∧(∀m∈ms,MG m)∧z.n=min t.s.ri.n 7+1∧A.n=16∧
 hK o g {t with s:={t.s with ri:=z,ma:=A,ep:=t.s.ep+1}} {c with ms:=ms,rs:=hq.nC c.mm c.rs,mm:=hq.ij} r w'
theorem E3(κ:hr)(g:Nat)(t:Tk)(c:hl)(r:Rc)(w:World)(h:hK κ g t c r w)(V:iG t.s.p=true)(av:∀m∈c.ms,MG m)(a7:t.s.me.n≤128)(aw:c.mm.length≤1000000)(a8:0≤t.s.ep∧t.s.ep≤1073741824)
 (ax:t.s.ri.n≤1000000) (ay:∀i,i<t.s.ri.n→(hq.ro c.rs i).length≤1000000):
 Calls prog 68 #[.pointer (some ⟨g,0,none⟩)] w fun e w'=>e= .returned (.tuple #[])∧E2 κ g t c r w w':=by
 have X:Below w.heap.size w (w.alloc (.cells #[.pointer (some ⟨g,0,none⟩)] 136)):=hz.alloc hj _;have T:ha (w.alloc (.cells #[.pointer (some ⟨g,0,none⟩)] 136)) w.heap.size 136 #[.pointer (some ⟨g,0,none⟩)]:=ha.new w _ _ _ rfl;have E:=h.below X;have Y:κ w.heap.size=0:=h.fresh _ hj;have Z:=g' (ht.of (κ:=κ) X);obtain⟨bf,aa⟩:=ho (w.alloc (.cells #[.pointer (some ⟨g,0,none⟩)] 136));obtain⟨B,ab⟩:=ho w.heap.size;rw[aa]at T E Z;rw[ab]at T Y;have bg:=T.all;obtain⟨az,aA,aB,a9,a'⟩:=jg E T Y aa ab;clear X T E Y aa ab;have aC:=g' (rY 129 (enters_of func129 (by kernel_rfl) rfl) #[.pointer (some ⟨B,0,none⟩)] g t.s.me (CJ κ g B w (qg t c r))
  (fun k S W G=>⟨G.1,by rw[G.2.2.2.2.1]⟩)
  (fun k S W ac G ad=>G.below ad)
  (fun k S W m G aD V=>G)
  (fun k S W m b G aD _ ad=>E1 κ g B b t c r w V ad k S W m G aD)
  ⟨κ,t,c,r⟩ _ ⟨az,Z,aA,aB,rfl,rfl,c.ms,rfl,rfl,av⟩ (by omega))
 have aE:=g' (fun ba c' ac (ae:hK ba g t c' r ac) (aF:c'.mm=c.mm) (bb:c'.rs=c.rs)=>hq.Dh t.s.ri.A t.s.ma.A t.s.ri.n t.s.ri.c t.s.ma.n t.s.ma.c c.rs c.mm ac (by rw[←bb];exact ae.row.n.seen.ri) (by rw[←aF];exact ae.row.n.seen.ma) (by rw[←ae.row.n.ma.1,aF];exact aw) ax ay);have bh:i64.wrap (t.s.ep+1)=t.s.ep+1:=by rw[IntKind.wrap_i64];omega
 clear h V av aw ax ay a8 a7;go_enter func68,ntmps68;go_upto_region 1 with(fail)
 rw[a9.out,a'.out];go_wp2_with fail;refine aC.mono ?_;rintro e bc ⟨rfl,S,aG,af,aH,ag,aI,aJ,ms,aK,aL,aM⟩;obtain⟨F,I,bi,ah⟩:=S;simp only at aI aJ aK af ag;subst aI aJ aK;obtain⟨ai,aN,aO,aP,aQ⟩:=jg (show hK F g I {c with ms:=ms} ah bc from aG) af aH ag (And.intro aL aM);clear aG af aH ag aL aM az Z aA aB aC;go_wp2;refine gZ.rg (fun w'=>ha w' B 136 #[.pointer (some ⟨g,0,none⟩)]) (fun w'=>hK F g I ({c with ms:=ms}) ah w') 15 16 (by kernel_rfl) (by rintro _ _ (_|_) _ _ h<;>exact h) aO.drew (ai.below hM) fun U o=>?_;refine gZ.tq U 5 (gZ.sq 0 11 true []) (by kernel_rfl) o ?_;iterate 11(refine gZ.t1 rfl rfl (fun w' z=>by try simp only[S3];first|(have⟨hS,E⟩:=z;have J:=hS.all;have bd:=E.box.all;go_simp;try rfl)|(have J:=z.all;go_simp;try rfl)) ?_;try simp only[S4,S3])
 refine gZ.hH (fun o=>?_);refine gZ.hY 11 (n:=4) rfl rfl (by kernel_rfl) (fun K O=>?_);(try simp only[S3])
 go_simp;refine(aE F _ _ (o.2 rfl) rfl rfl).mono ?_;rintro e bj ⟨v,rfl,aR,aj⟩;obtain⟨Q,rfl,aS,aT,aU⟩:=Em (κ:=F) aR (fun k ak=>ai.fresh k ak);obtain⟨al,aV⟩:=hg (And.intro aS (And.intro aT aU)) (aN.trans ((ht.of (κ:=F) hM).trans (ht.of aj)));clear aR aS aT aU;simp only[Sl.v];refine O.out _ _ (o.1.to aj) ((o.2 rfl).below aj) (fun o=>?_);(try simp only[S4,S3])
 refine gZ.tq U 1 [(12,false),(13,false),(14,true)] (by kernel_rfl) o ?_;iterate 3(refine gZ.t1 rfl rfl (fun w' z=>by try simp only[S3];first|(have⟨hS,E⟩:=z;have J:=hS.all;have bd:=E.box.all;go_simp;try rfl)|(have J:=z.all;go_simp;try rfl)) ?_;try simp only[S4,S3])
 refine gZ.hH (fun o=>?_);refine gZ.jc 15 (n:=0) rfl rfl (by kernel_rfl) (by kernel_rfl) (fun K O=>?_);(try simp only[S3])
 have D:=o.2 rfl;have bk:=D.box.all;have bl:=D.box.frozen 40;obtain⟨aW,am⟩:=D.kZ (D.row.EE Q (hq.nC c.mm c.rs) al.2.1 al.2.2) 40 (.slice Q.A Q.n Q.c) rfl;obtain⟨an,aX,ao⟩:=hs aW (aV.trans am) (am.keep o.1 aP);clear D aW am;go_simp;refine O.out _ _ (ao.1) (fun o=>?_);clear o;refine gZ.ia rfl ?_;clear ai aN aO aE aV;go_wp2;refine gZ.rg (fun w'=>ha w' B 136 #[.pointer (some ⟨g,0,none⟩)]) (fun w'=>hK F g ({I with s:={I.s with ri:=Q}}) ({c with ms:=ms,rs:=hq.nC c.mm c.rs}) ah w') 5 6 (by kernel_rfl) (by rintro _ _ (_|_) _ _ h<;>exact h) (ao.1.drew) (an.below hM) fun U o=>?_;refine gZ.tq U 5 [(0,true)] (by kernel_rfl) o ?_;iterate 1(refine gZ.t1 rfl rfl (fun w' z=>by try simp only[S3];first|(have⟨hS,E⟩:=z;have J:=hS.all;go_simp;try rfl)|(have J:=z.all;go_simp;try rfl)) ?_;try simp only[S4,S3])
 refine gZ.hH (fun o=>?_);refine gZ.hY 1 (n:=4) rfl rfl (by kernel_rfl) (fun K O=>?_);(try simp only[S3])
 go_simp;refine(hq.xS _).mono ?_;rintro e bm ⟨rfl,aY,ap⟩;obtain⟨R,aZ,a0,a1,a2⟩:=yL (κ:=F) (by simp[hq.ij]) hq.sV aY (fun k ak=>an.fresh k ak);rw[aZ];obtain⟨aq,a3⟩:=hg (And.intro a0 (And.intro a1 a2)) (aX.trans ((ht.of (κ:=F) hM).trans (ht.of ap)));clear aY aZ a0 a1 a2;simp only[Sl.v];refine O.out _ _ (o.1.to ap) ((o.2 rfl).below ap) (fun o=>?_);(try simp only[S4,S3])
 refine gZ.tq U 1 [(2,false),(3,false),(4,true)] (by kernel_rfl) o ?_;iterate 3(refine gZ.t1 rfl rfl (fun w' z=>by try simp only[S3];first|(have⟨hS,E⟩:=z;have J:=hS.all;go_simp;try rfl)|(have J:=z.all;go_simp;try rfl)) ?_;try simp only[S4,S3])
 refine gZ.hH (fun o=>?_);refine gZ.jc 5 (n:=0) rfl rfl (by kernel_rfl) (by kernel_rfl) (fun K O=>?_);(try simp only[S3])
 have D:=o.2 rfl;have bn:=D.box.all;have bo:=D.box.frozen 39;obtain⟨a4,ar⟩:=D.kZ (D.row.yu R hq.ij aq.2.1 aq.2.2) 39 (.slice R.A R.n R.c) rfl;obtain⟨au,be,a5⟩:=hs a4 (a3.trans ar) (ar.keep o.1 aP);clear D a4 ar;go_simp;refine O.out _ _ (a5.1) (fun o=>?_);clear o;refine gZ.ia rfl ?_;have bp:=a5.1.all;have bq:=au.box.all;have br:=au.box.frozen 29;have a6:=g' (au.num (t':={I with s:={I.s with ri:=Q,ma:=R,ep:=I.s.ep+1}}) rfl 29 (int i64 (I.s.ep+1)) rfl);clear an aX ao a3;go_wp2;go_end0;exact⟨rfl,F,Q,R,ms,be.trans a6.2,aQ.1,aQ.2,al.1,aq.1,a6.1⟩
end hB
end Go.Proofs.YtffbipddbnkdjaaGreat
