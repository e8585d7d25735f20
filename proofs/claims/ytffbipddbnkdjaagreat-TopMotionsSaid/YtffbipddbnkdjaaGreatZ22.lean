/- What functions compute at any arguments, and plain facts: Motions of which those are counted whose time has come: moot.Close; A tick's pay, owe, there, end; A line's first ones; DeleteFunc over ints; a tick's out and others. Conditions: those that each theorem names. -/
import Derived.Test.YtffbipddbnkdjaaGreatZ21
set_option maxRecDepth 100000
set_option maxHeartbeats 40000000
set_option linter.all false
open Go Go.Proofs.Tryz
open Go.Value(int)
open Go.IntKind(i64 u64)
variable{A T:Option Addr}{n g b L k B i x a m j q c p s r d h u N y:Nat}{E z:Int}{P:Program}{w W X Z:World}{e t:TypeId}{f:Nat→Value}{l:List Bool}{V U:Value}{Y:List Nat}{S:List Value}{R:List Int}{Q:Array Value}{O:List (List Nat)}{M:Bool}{K:Ending}{J:Addr}{I:Nat→Nat}{H:Option Nat}
namespace Go.Proofs.YtffbipddbnkdjaaGreat
namespace hB
open RowKit
open hG hf hC h0 hU
def hp.tf(m:hp)(x:Int):hp:={m with st:=2,du:=x}
theorem k0.EK{o A:List hp}(h:k0 o A)(F:∀m∈o,m.yh.n≤1000000∧m.nh.n≤1000000):∀m∈A,m.yh.n≤1000000∧m.nh.n≤1000000:=fun m G=>by
 obtain⟨j,D,e⟩:=List.getElem_of_mem G;have E:j<o.length:=by rw[←h.1];exact D
 obtain⟨y,z,r,I,J⟩:=h.2 j o[j] (List.getElem?_eq_getElem E);rw[List.getElem?_eq_getElem D,e]at r;injection r with r;have:=F _ (List.getElem_mem E);rw[r];exact⟨by show y.n≤_;omega,by show z.n≤_;omega⟩
theorem yz{r:List hp}{m':hp}(h:∀m∈r,m.yh.n≤1000000∧m.nh.n≤1000000)(z:m'.yh.n≤1000000∧m'.nh.n≤1000000):∀m∈r.set k m',m.yh.n≤1000000∧m.nh.n≤1000000:=fun m o=>by
 rcases List.mem_or_eq_of_mem_set o with o|rfl
 ·exact h m o
 exact z
def vb(o:Int)(m m':hp):Prop:=m'=m∨(m.st=1∧m.en≤o∧(m'=m.lz 4∨∃x,m'=m.tf x))
def nc(z:Int)(k:Nat)(o r:List hp):Prop:=r.length=o.length∧∀(j:Nat) (m:hp),o[j]?=some m→∃m',r[j]?=some m'∧vb z m m'∧(k≤j→m'=m)
theorem nc.zero(r:Int)(o:List hp):nc r 0 o o:=⟨rfl,fun _ m z=>⟨m,z,.inl rfl,fun _=>rfl⟩⟩
theorem nc.keep{o r:List hp}(h:nc E k o r):nc E (k+1) o r:=⟨h.1,fun j m z=>by obtain⟨m',A,D,F⟩:=h.2 j m z;exact⟨m',A,D,fun G=>F (by omega)⟩⟩
theorem nc.set{z o:List hp}{m m':hp}(h:nc E k z o)(A:o[k]?=some m)(G:vb E m m'):nc E (k+1) z (o.set k m'):=by
 refine⟨by rw[List.length_set];exact h.1,fun j u I=>?_⟩;obtain⟨u',r,J,D⟩:=h.2 j u I;by_cases F:k=j
 ·subst F
  have:=D hj;subst this;rw[A]at r;cases r;exact⟨m',by rw[List.getElem?_set_self (jh.1 A).1],G,fun h=>absurd h (by omega)⟩
 exact⟨u',by rw[List.getElem?_set_ne F];exact r,J,fun h=>D (by omega)⟩
theorem EL(p:hx)(bK:p.jd)(A:Option Addr)(n c:Nat)(ae:List hp)(M:Option Addr)(ap a6:Nat)(ds:List Mem)(D:Int)(w:World)(h:hV w w.heap.size A n 33 (flat hp.enc ae))(a7:∀m∈ae,m.At w w.heap.size)(aq:∀m∈ae,m.yh.n≤1000000∧m.nh.n≤1000000)(bL:n≤1000000)(a8:A=none→n=0∧c=0)
 (a9:hV w w.heap.size M ap 6 (flat Mem.enc ds)) (a':ap≤128) (ba:∀m∈ds,m.hP≤1099511627776) (bM:0≤p.iK∧p.iK≤1000000) (b3:0≤D∧D≤2147483647):
 Calls prog 123 #[.agg p.cs,.slice A n c,.slice M ap a6,int i64 D] w fun e w'=>∃s Z bb,e= .returned (.slice s.A s.n s.c)∧js w.heap.size w' s bb∧k0 ae Z∧nc D n Z bb∧Below w.heap.size w w':=by
 obtain⟨bc,bd,aa,be⟩:=iF w p.cs 24;have bf:=h.len hp.len (by omega);obtain⟨bN,bO,bP,aJ,T⟩:=jg (uY A n c ae bc ((h.below aa).more aa.size) (fun m U=>((a7 m U).below aa).more aa.size) aq bL a8) (fun W (hb:Below w.heap.size w W)=>(a9.below hb).more hb.size) aq (And.intro bf (And.intro a' (And.intro ba aq))) (And.intro be aa);obtain⟨q,aK⟩:=ho w.heap.size;have bQ:=g' bd;clear h a7 aq bf a9 a' ba be aa a8 bd;go_enter func123,ntmps123;go_upto_region 1 with(fail)
 rw[bQ.out];try rw[aK]
 go_wp2_with fail;refine bN.mono ?_;rintro e b4 ⟨s,Z,rfl,I,aL,aM⟩;have af:=g' (And.intro I (And.intro aL (kY (T.2.trans (Below.mono aM T.2.size)) (T.1.to aM))));have bg:s.n=n:=by rw[I.2.1,aL.1];exact aJ.1
 obtain⟨bh,V,ar⟩:=s;simp only at bg;subst bg;have au:w.heap.size=q:=aK;clear I aL aM aK;go_wp2;go_loopw [18] (fun aN wr=>∃(k:Nat) (E:List hp),aN=int i64 k∧k≤V∧js bc.heap.size wr ⟨bh,V,ar⟩ E∧nc D k Z E∧Below w.heap.size w wr∧ha wr w.heap.size 24 p.cs∧∀m∈E,m.yh.n≤1000000∧m.nh.n≤1000000) (fun aN _=>V-(intOf aN).toNat)
 case atStart=>exact⟨0,Z,rfl,h6,af.1,nc.zero _ _,af.2.2.1,af.2.2.2,af.2.1.EK bP⟩
 case round=>
  obtain⟨k,E,rfl,b5,I,av,aw,aO,aP⟩:=hrel;by_cases bi:k<V
  ·have bR:=hZ bi
   have ax:i64.wrap ((k:Int)+1)=((k+1:Nat):Int):=by rw[IntKind.wrap_i64];omega
   have bS:E.length=V:=I.2.1.symm;obtain⟨m,U⟩:∃m,E[k]?=some m:=⟨_,iB (by omega)⟩;obtain⟨g,bT,R,bj,bU,bk,bl⟩:=I.at U;injection bT with bV bm _;subst bV;have ay:=nH hp.len (bk.mono (h6)) U;obtain⟨ag,aQ⟩:=hk m.st;obtain⟨ah,aR⟩:=hk m.en;have bW:wr.cell? ⟨g,k*33+30,none⟩=some (int i64 ag):=by rw[aQ];exact ay 30 _ rfl
   have bX:wr.cell? ⟨g,k*33+28,none⟩=some (int i64 ah):=by rw[aR];exact ay 28 _ rfl
   obtain⟨az,o,bn,aA,aB⟩:=jg (And.intro aQ aR) (And.intro I (And.intro av (And.intro aw (And.intro aO (And.intro U (And.intro bl (And.intro bj (And.intro R bm)))))))) ay aP (aP m (List.mem_of_getElem? U));clear aP;clear I av aw aO U R bj bU bk bl ay aQ aR bS bm;have skip:(ag==1)=false∨decide (D<ah)=true∨((ag==1)=true∧decide (D<ah)=false):=by
    by_cases J:ag=1
    ·by_cases F:D<ah
     ·exact .inr (.inl (by simpa using F))
     exact .inr (.inr ⟨by simpa using J,by simpa using F⟩)
    exact .inl (by simpa using J)
   by_cases J:ag=1
   ·subst J
    by_cases F:D<ah
    ·have bo:=hZ F
     clear skip F;go_wp2;exact⟨⟨k+1,E,by first|rfl|rw[ax],by omega,o.1,o.2.1.keep,o.2.2.1,o.2.2.2.1,aA⟩,by simp[intOf];omega⟩
    have bo:=h1 F;have bp:=g' F;clear skip F;go_upto_region 7 with(fail)
    have bY:=g' o.2.2.2.2.2.2.1;have ai:wr.cell? ⟨g,k*33+31,none⟩=some (.slice m.yh.A m.yh.n m.yh.c):=bn.out 31 _ rfl;have aj:wr.cell? ⟨g,k*33+32,none⟩=some (.slice m.nh.A m.nh.n m.nh.c):=bn.out 32 _ rfl;have bq:=g' (fun W (hb:Below wr.heap.size wr W)=>CR M ap a6 ds m.yh.A m.yh.n m.yh.c m.ys m.nh.A m.nh.n m.nh.c m.ns W (bO W (o.2.2.1.trans (Below.mono hb o.2.2.1.size))) ((o.2.2.2.2.2.1.at_.below hb).more hb.size).ys aB.1 ((o.2.2.2.2.2.1.at_.below hb).more hb.size).ns aB.2 aJ.2.1 aJ.2.2.1);clear bW bX;obtain⟨aC,aD⟩:=hk wr.heap.size;obtain⟨ab,br,S⟩:=hs (fun W (h:Below wr.heap.size wr W)=>(show Below aC wr W by rw[aD];exact h)) (fun W (h:Below aC wr W)=>(show Below wr.heap.size wr W by rw[←aD];exact h)) (show g<aC by rw[aD];exact bY);clear aD;refine gZ.iP (fun w'=>Below aC wr w') 16 (by kernel_rfl) (by rintro _ _ (_|_) _ _ h<;>exact h) (ab.out _ hM) fun aE r=>?_;refine gZ.tq aE 7 (gZ.sq 0 9 false []) (by kernel_rfl) r ?_;iterate 9(refine gZ.t1 rfl rfl (fun w' G=>by try simp only[S3];have aS:=jt (p:=⟨g,k*33+31,none⟩) G S ai;have aT:=jt (p:=⟨g,k*33+32,none⟩) G S aj;go_simp;try rfl) ?_;try simp only[S4,S3])
    refine gZ.hH (fun r=>?_);refine gZ.lN 9 13 (n:=6) rfl rfl rfl (by kernel_rfl) (fun K O=>?_) (fun K O=>?_);focus
     (try simp only[S3])
     go_simp;refine(bq _ (br.out _ r.1)).mono ?_;rintro e aF ⟨x,y,z,ak,rfl,ac⟩;have aG:=g' ak;clear ak;have X:=g' (hJ (br.out _ r.1) ac);clear ac;refine O.out _ _ (ab.out _ X) trivial (fun r=>?_);(try simp only[S4,S3])
     refine gZ.tq aE 3 (gZ.sq 10 3 false []) (by kernel_rfl) r ?_;iterate 3(refine gZ.t1 rfl rfl (fun w' G=>by try simp only[S3];have aS:=jt (p:=⟨g,k*33+31,none⟩) G S ai;have aT:=jt (p:=⟨g,k*33+32,none⟩) G S aj;go_simp;try rfl) ?_;try simp only[S4,S3])
     refine gZ.hH (fun r=>?_);refine gZ.hY 13 (n:=2) rfl rfl (by kernel_rfl) (fun K O=>?_);(try simp only[S3])
     go_simp;refine O.out _ _ (ab.out _ (X.alloc X.size (.cells #[int .u64 0,int .u64 0,int .u64 0] 130))) trivial (fun r=>?_);(try simp only[S4,S3])
     obtain⟨Y,al⟩:=hg (ha.new aF aF.heap.size 130 #[int .u64 0,int .u64 0,int .u64 0] rfl) (X.alloc X.size (.cells #[int .u64 0,int .u64 0,int .u64 0] 130));have aU:=X.size;obtain⟨bt,bu⟩:=ho (aF.alloc (.cells #[int .u64 0,int .u64 0,int .u64 0] 130));obtain⟨L,R⟩:=ho aF.heap.size;rw[bu]at Y al⊢;rw[R]at Y aU⊢;have aV:=g' aU;clear X bu R aU r
    rotate_left;focus
     (try simp only[S3])
     go_simp;have bv:Below wr.heap.size wr (wr.drew.alloc (.cells #[int .u64 0,int .u64 0,int .u64 0] 130)):=hM.alloc hj _;obtain⟨bw,aH⟩:=hg (ha.new wr.drew wr.heap.size 130 #[int .u64 0,int .u64 0,int .u64 0] rfl) bv;clear bv;refine O.out _ _ (ab.out _ aH) trivial (fun r=>?_);(try simp only[S4,S3])
     refine gZ.hY 9 (n:=5) rfl rfl (by kernel_rfl) (fun K O=>?_);(try simp only[S3])
     go_simp;refine(bq _ aH).mono ?_;rintro e bt ⟨x,y,z,ak,rfl,ac⟩;have aG:=g' ak;clear ak;obtain⟨al,Y⟩:=hg (hJ aH ac) (bw.to ac);clear ac aH bw;refine O.out _ _ (ab.out _ al) trivial (fun r=>?_);(try simp only[S4,S3])
     refine gZ.tq aE 2 (gZ.sq 10 3 false []) (by kernel_rfl) r ?_;iterate 3(refine gZ.t1 rfl rfl (fun w' G=>by try simp only[S3];have aS:=jt (p:=⟨g,k*33+31,none⟩) G S ai;have aT:=jt (p:=⟨g,k*33+32,none⟩) G S aj;go_simp;try rfl) ?_;try simp only[S4,S3])
     refine gZ.hH (fun r=>?_);obtain⟨L,R⟩:=ho wr.heap.size;have aV:=g' (show wr.heap.size≤L by omega);have bx:(wr.drew).heap.size=wr.heap.size:=rfl;try rw[bx]
     clear bx;rw[R]at Y⊢;clear R r
    rotate_left;all_goals (
     refine gZ.hY 14 (n:=1) rfl rfl (by kernel_rfl) (fun K O=>?_);(try simp only[S3])
     rw[if_pos (by rfl)];refine wp_store_row 130 (.tmp 12) (.tmp 48) rfl L (k6 x y z) rfl rfl 130 (#[int .u64 0,int .u64 0,int .u64 0]) Y (by kernel_rfl) (by kernel_rfl) (by kernel_rfl) ?_;obtain⟨bz,aI⟩:=hg (Y.row (k6 x y z)) (pJ al aV (k6 x y z));obtain⟨b6,bA⟩:=ho (bt.setRow L (k6 x y z));rw[bA]at bz aI⊢;clear bA r al Y aV;refine O.out _ _ (ab.out _ aI) trivial (fun r=>?_);refine gZ.tq aE 0 [(15,false)] (by kernel_rfl) r ?_;iterate 1(refine gZ.t1 rfl rfl (fun w' G=>by try simp only[S3];have aS:=jt (p:=⟨g,k*33+31,none⟩) G S ai;have aT:=jt (p:=⟨g,k*33+32,none⟩) G S aj;go_simp;try rfl) ?_;try simp only[S4,S3])
     refine gZ.hH (fun r=>?_);clear r;refine gZ.ia (by kernel_rfl) ?_;clear ai aj;obtain⟨aW,bZ⟩:=hg (o.2.2.2.1.to aI) (fun W=>CS p bK x y z aG.1 aG.2.1 aG.2.2 W);have bB:w.heap.size=q:=au;rw[bB]at aW;clear bB;go_wp2_with (first|(refine iv aW hQ (jb _) (by rfl) rfl rfl rfl ?_)|(refine iv bz underlying130 (ur _ _ _) (by rfl) rfl rfl rfl ?_));refine(bZ _).mono ?_;rintro e bC ⟨b,rfl,aX⟩;obtain⟨aY,bD⟩:=hg (hJ aI aX) (aW.to aX);clear aX;obtain⟨bE,aZ,a0⟩:=hs (o.1.below aY) (show(⟨some ⟨g,0,none⟩,V,ar⟩:Sl)=⟨some ⟨g,0,none⟩,E.length,ar⟩ by rw[←o.2.2.2.2.2.2.2.2]) (show q≠g by rw[←au];have J:=T.1.lt;have F:=o.2.2.2.2.2.2.2.1;omega);cases b
     ·have ad:=g' (by rw[au];exact bD.other a0 (a:=⟨g,k*33+30,none⟩) (int i64 4):ha (bC.setCell ⟨g,k*33+30,none⟩ (int i64 4)) w.heap.size 24 p.cs)
      obtain⟨am,an,bF,bG⟩:=bE.rX (g:=g) (k:=30) (m':=m.lz 4) (x:=int i64 4) (y:=int i64 m.st) o.2.2.2.2.1 aZ rfl rfl (by omega) rfl rfl rfl rfl;have ao:=g' (And.intro am an);clear am an;go_wp2;refine⟨⟨k+1,E.set k (m.lz 4),by first|rfl|rw[ax],by omega,ao.1,o.2.1.set o.2.2.2.2.1 (.inr ⟨az.1.symm,(by have J:=az.2;have F:=bp.out;omega),.inl rfl⟩),o.2.2.1.trans ((Below.mono aY o.2.2.1.size).trans (Below.mono ao.2 T.2.size)),ad,yz aA aB⟩,by simp[intOf];omega⟩
     have ad:=g' (bD.other a0 (a:=⟨g,k*33+30,none⟩) (int i64 2));obtain⟨am,an,bF,bG⟩:=bE.rX (g:=g) (k:=30) (m':=m.lz 2) (x:=int i64 2) (y:=int i64 m.st) o.2.2.2.2.1 aZ rfl rfl (by omega) rfl rfl rfl rfl;obtain⟨Q,a1⟩:=hk p.iK;obtain⟨x,b7⟩:=ho (i64.wrap (min D (2147483647-Q)+Q));obtain⟨a2,bH,a3,a4⟩:=am.rX (g:=g) (k:=29) (m:=m.lz 2) (m':=m.tf x) (x:=int i64 x) (y:=int i64 m.du) (by rw[List.getElem?_set_self (jh.1 o.2.2.2.2.1).1]) (by rw[List.length_set];exact aZ) rfl rfl (by omega) rfl rfl rfl rfl;rw[List.set_set]at a2;obtain⟨ao,bI,b0,b1,bJ⟩:=jg (And.intro a2 (an.trans bH)) (And.intro a3 a4) (ad.other a0 (a:=⟨g,k*33+29,none⟩) (int i64 x)) (show(bC.setCell ⟨g,k*33+30,none⟩ (int i64 2)).cell? ⟨q,22,none⟩=some (int i64 Q) by rw[a1];exact ad.cell (j:=22) rfl) (show 0≤Q∧Q≤1000000 by rw[a1];exact bM);clear am an a2 bH a3 a4 a1;go_upto_region 11 with(fail)
     clear bF bG;have b2:max D (-2147483647)=D:=by omega
     have b8:max Q 0=Q:=by have:=bJ.out;omega
     have b9:i64.wrap (2147483647-Q)=2147483647-Q:=by have:=bJ.out;rw[IntKind.wrap_i64];omega
     have a3:=bI.1;have a4:=bI.2;have b':=b1.out;go_wp2;have ad:=g' (show ha _ w.heap.size 24 p.cs by rw[au];exact b0);refine⟨⟨k+1,E.set k (m.tf x),by first|rfl|rw[ax],by omega,ao.1,o.2.1.set o.2.2.2.2.1 (.inr ⟨az.1.symm,(by have J:=az.2;have F:=bp.out;omega),.inr ⟨x,rfl⟩⟩),o.2.2.1.trans ((Below.mono aY o.2.2.1.size).trans (Below.mono ao.2 T.2.size)),ad,yz aA aB⟩,by simp[intOf];omega⟩)
   have bo:=iM J;have b2:=pM J;clear skip;go_wp2;exact⟨⟨k+1,E,by first|rfl|rw[ax],by omega,o.1,o.2.1.keep,o.2.2.1,o.2.2.2.1,aA⟩,by simp[intOf];omega⟩
  have bR:=h1 bi;obtain rfl:k=V:=by omega
  have a5:=g' (And.intro I (And.intro av aw));clear I av aw aO;go_wp2;go_ret;exact⟨⟨bh,k,ar⟩,Z,E,rfl,a5.1.mono T.2.size,af.2.1,a5.2.1,a5.2.2⟩
theorem yA{us:List Nat}{i:Int}(h:(h0.kU us i x).2=0):(h0.kU us i x).1.length=us.length:=by
 unfold h0.kU at h⊢;split
 ·rename_i hc;rw[if_pos hc]at h;cases h
 rename_i hc;rw[if_neg hc]at h;split
 ·simp
 rename_i hd;rw[if_neg hd]at h;cases h
theorem vc{κ:hr}{w':World}{v:Value}{us:List Nat}(I:us.length=n)(r:Wd us)(h:w'.ownsRow w.heap.size e 1 v n (us.map uw))(z:∀k,w.heap.size≤k→κ k=0):
 ∃s:Sl,v=s.v∧s.n=n∧s.Ok∧jk (hL κ w') w'.heap.size s.A s.n us:=by
 obtain⟨s,rfl,rfl,D,E,F⟩:=jZ h;have o:=(p2 (us:=us)).2 ⟨F,r⟩;exact⟨s,rfl,rfl,D,o.1,o.2.1,Rd.hid o.2.2 fun G e=>z _ (E G e)⟩
theorem qR(κ:hr)(g:Nat)(t:Tk)(c:hl)(r:Rc)(i:Int)(n:Nat)(w:World)(h:hK κ g t c r w)(T:n<18446744073709551616)(U: -9223372036854775808≤i∧i≤9223372036854775807)(X:c.us.length≤1000000):
 Calls prog 112 #[.pointer (some ⟨g,0,none⟩),int i64 i,int u64 n] w fun e w'=>e= .returned (.tuple #[])∧∃s us,us.length=c.us.length∧hK κ g {t with s:={t.s with pu:=s}} {c with us:=us} r w'∧ht κ w κ w':=by
 have V:t.s.pu.n=c.us.length:=h.row.n.pu.1.symm;have H:=vR t.s.pu.A t.s.pu.n t.s.pu.c i n c.us w h.row.n.seen.pu (by omega) T U;have G:=yA (us:=c.us) (i:=i) (x:=n);generalize h0.kU c.us i n=q at H G;obtain⟨L,E⟩:=q;obtain⟨H,W,K⟩:=hs H G h;have Y:=h.box.all;clear h G V;go_enter func112,ntmps112;go_wp2_with fail;refine H.mono ?_;rintro e Z ⟨v,rfl,D,F,o⟩;simp only at D F;have z:=g' (K.below o);have aa:=z.box.all;have ab:=z.box.frozen 32;by_cases I:E=0
 ·subst I
  obtain⟨s,rfl,O,Q,R⟩:=vc (κ:=κ) rfl F D K.fresh;obtain⟨ac,S,J⟩:=hs O (z.kZ (z.row.yr s L Q R) 32 s.v rfl) (ht.of (κ:=κ) o);clear D F o Q R O;simp only[Sl.v];go_wp2;go_end0;exact⟨rfl,s,L,W (by trivial),S.1,J.trans S.2⟩
 have k:=iM I;have J:=g' (ht.of (κ:=κ) o);clear D F o I;go_wp2;go_end0;exact⟨rfl,t.s.pu,c.us,rfl,z,J⟩
def nd(w:World)(ds:List Du)(d:Du)(e:Ending)(w':World):Prop:=∃(v:Value) (E:Int),e= .returned (.tuple #[v,int i64 E])∧Below w.heap.size w w'∧
 (E=0→∃es:List Du,es.length≤ds.length+1∧(∀o r,(∀x∈ds,DG o r x)→DG o r d→∀x∈es,DG o r x)∧w'.ownsRow w.heap.size 57 3 v es.length (flat Du.enc es))
theorem nd.ok{w':World}{ds es:List Du}{d:Du}{e:Ending}(h:nX w es e w')(z:es.length≤ds.length+1)(A:∀o r,(∀x∈ds,DG o r x)→DG o r d→∀x∈es,DG o r x):nd w ds d e w':=by
 obtain⟨v,D,E,F⟩:=h;exact⟨v,0,D,F,fun _=>⟨es,z,A,E⟩⟩
theorem nd.no{w':World}{ds:List Du}{d:Du}{e:Ending}(o:E≠0)(h:e= .returned (.tuple #[.slice none 0 0,int i64 E])∧Below w.heap.size w w'):nd w ds d e w':=⟨_,E,h.1,h.2,fun r=>absurd r o⟩
theorem EM(A:Option Addr)(n c:Nat)(ds:List Du)(d:Du)(w:World)(z:hV w w.heap.size A n 3 (flat Du.enc ds))(E:n≤900000)(F:A=none→n=0∧c=0)(S:∀x∈ds,x.am<18446744073709551616)(Z:d.am<18446744073709551616):
 Calls prog 238 #[.slice A n c,.agg #[int i64 d.ac,int i64 d.ti,int u64 d.am]] w (nd w ds d):=by
 have aa:=z.len Du.len (by omega);by_cases h:pf d
 ·rcases Nat.eq_zero_or_pos d.am with D|D
  ·exact(Ck A n c ds d w z E F h D).mono fun e w' o=>nd.ok o (by omega) fun _ _ G _=>G
  rcases Nat.lt_or_ge 4611686018427387904 d.am with hb|hb
  ·exact(Cj A n c d w h (by omega)).mono fun e w' o=>nd.no (by decide) o
  rcases CK (eqv d) ds with⟨k,x,K,G,I⟩|I
  ·have R:=List.mem_of_getElem? K
   have T:=S x R;rcases Nat.lt_or_ge 4611686018427387904 (x.am+d.am)with U|V
   ·rcases Nat.lt_or_ge (x.am+d.am) 18446744073709551616 with O|O
    ·exact(Co A n c ds d k x w z E F h ⟨D,hb⟩ K G I U O).mono fun e w' o=>nd.no (by decide) o
    exact(Cp A n c ds d k x w z E F h ⟨D,hb⟩ K G I O T).mono fun e w' o=>nd.no (by decide) o
   refine(Cn A n c ds d k x w z E F h ⟨D,hb⟩ K G I _ rfl V).mono fun e w' o=>nd.ok o (by simp) fun W X J _ y r=>?_;rcases List.mem_or_eq_of_mem_set r with r|rfl
   ·exact J y r
   have:=J x R;exact⟨by simp only;omega,this.ac,this.lo,this.hi⟩
  obtain⟨p,Q⟩:=CI ds d;refine(Cq A n c ds d p w z E F h ⟨D,hb⟩ I Q (CA d ds (by omega) p Q.1)).mono fun e w' o=>nd.ok o (by have:=Q.1;simp;omega) fun W X J Y y r=>?_;rcases List.mem_append.1 r with r|r
  ·exact J y (List.mem_of_mem_take r)
  rcases List.mem_cons.1 r with rfl|r
  ·exact Y
  exact J y (List.mem_of_mem_drop r)
 exact(Ci A n c d w h).mono fun e w' o=>nd.no (by decide) o
theorem EN(κ:hr)(g:Nat)(t:Tk)(c:hl)(r:Rc)(i:Int)(n:Nat)(w:World)(h:hK κ g t c r w)(T:n<18446744073709551616)(ag: -9223372036854775808≤i∧i≤9223372036854775807)(aq:c.du.length≤800000)(U:∀x∈c.du,x.am<18446744073709551616)
 (ar:0≤t.s.ep∧t.s.ep≤1073741824) (au:0≤t.wt∧t.wt≤50):
 Calls prog 191 #[.pointer (some ⟨g,0,none⟩),int i64 i,int u64 n] w fun e w'=>e= .returned (.tuple #[])∧∃s du,du.length≤c.du.length+1∧(∀o,o≤t.s.ep→(∀x∈c.du,DG o (t.s.ep+50) x)→∀x∈du,DG o (t.s.ep+50) x)∧hK κ g {t with s:={t.s with du:=s}} {c with du:=du} r w'∧ht κ w κ w':=by
 have ah:t.s.du.n=c.du.length:=(h.row.n.du.len Du.len (by omega)).symm;obtain⟨a,ai⟩:=hk (t.s.ep+t.wt);have av:i64.wrap (t.s.ep+t.wt)=a:=by rw[IntKind.wrap_i64];omega
 have aw:min a 2147483647=a:=by omega
 have V:=h.row.n.seen.du;have G:=h.row.jH.none;obtain⟨aj,H,ak,al⟩:=h5 h (fun(W:World) (z:Below w.heap.size w W)=>EM t.s.du.A t.s.du.n t.s.du.c c.du ⟨i,a,n⟩ W ((V.below z).more z.size) (by omega) G U T) h.fresh (show∀o,o≤t.s.ep→DG o (t.s.ep+50) ⟨i,a,n⟩from fun o X=>⟨T,ag,by simp only;omega,by simp only;omega⟩);clear h G ai ah V U;go_enter func191,ntmps191;go_wp2;refine gZ.iP (fun w'=>hK κ g t c r w') 25 (by kernel_rfl) (by rintro _ _ (_|_) _ _ h<;>exact h) (aj.below hM) fun Y D=>?_;refine gZ.tq Y 6 (gZ.sq 0 19 false []) (by kernel_rfl) D ?_;iterate 18(refine gZ.t1 rfl rfl (fun w' I=>by try simp only[S3];have an:=(I).box.all;go_simp;try rfl) ?_;try simp only[S4,S3])
 refine gZ.jK (.agg #[int i64 i,int i64 a,int u64 n]) rfl (Or.inl ⟨by rfl,fun w' _=>by kernel_rfl⟩) ?_;try simp only[S4,S3]
 refine gZ.hH (fun D=>?_);refine gZ.hY 19 (n:=5) rfl rfl (by kernel_rfl) (fun K ao=>?_);try simp only[S3]
 go_simp;refine(H _ hM).mono ?_;rintro e ax ⟨v,E,rfl,z,J⟩;obtain⟨F,O,Z⟩:=hs (D.1.below z) J ((ht.of (κ:=κ) (Below.drew (Below.refl w.heap.size w))).trans (ht.of z));refine ao.out _ _ F trivial (fun D=>?_);try simp only[S4,S3]
 refine gZ.tq Y 0 (gZ.sq 20 5 false []) (by kernel_rfl) D ?_;iterate 5(refine gZ.t1 rfl rfl (fun w' I=>by try simp only[S3];have an:=(I).box.all;go_simp;try rfl) ?_;try simp only[S4,S3])
 refine gZ.hH (fun D=>?_);clear D;refine gZ.ia rfl ?_;by_cases Q:E=0
 ·subst Q
  obtain⟨es,aa,ab,ac⟩:=O rfl;obtain⟨s,rfl,ad,G,R⟩:=n5 (κ:=κ) ac (fun k ap=>ak k ap);have ay:=F.box.all;have az:=F.box.frozen 37;obtain⟨ae,af⟩:=hg (F.kZ (F.row.yt s es G (by rw[ad]at R⊢;exact R)) 37 s.v rfl) (show es.length≤c.du.length+1∧(∀o,o≤t.s.ep→(∀x∈c.du,DG o (t.s.ep+50) x)→∀x∈es,DG o (t.s.ep+50) x)from⟨aa,fun o X S=>ab o _ S (al o X)⟩);clear aa ab ac ad G R z J O;simp only[Sl.v];go_wp2;go_end0;exact⟨rfl,s,es,af.1,af.2,ae.1,Z.trans ae.2⟩
 have k:=iM Q;clear z Q J O;go_wp2;go_end0;exact⟨rfl,t.s.du,c.du,by omega,fun _ _ S=>S,F,Z⟩
theorem vd(κ:hr)(g:Nat)(t:Tk)(c:hl)(r:Rc)(i:Int)(o:i≤9223372036854775807)(w:World)(h:hK κ g t c r w)(D:c.mm.length≤1000000):
 Calls prog 106 #[.pointer (some ⟨g,0,none⟩),int i64 i] w fun e w'=>∃b,e= .returned (.bool b)∧Below w.heap.size w w':=by
 have z:t.s.ma.n=c.mm.length:=h.row.n.ma.1.symm;have H:=g' (hq.qE t.s.ma.A t.s.ma.n t.s.ma.c w.heap.size i c.mm w h.row.n.seen.ma (by omega) o);have E:=h.box.all;clear h z;go_enter func106,ntmps106;go_wp2_with fail;refine H.mono ?_;rintro e F ⟨rfl,q,rfl⟩;go_wp2;go_ret;exact⟨_,rfl,below_drewN hz q⟩
theorem yB(κ:hr)(g:Nat)(t:Tk)(c:hl)(r:Rc)(i:Nat)(m:Mem)(G:c.ms[i]?=some m)(z:Int)(w:World)(h:hK κ g t c r w)(I:my m)(af:c.du.length≤800000)(ag:∀x∈c.du,x.am<18446744073709551616)
 (ah:0≤t.s.ep∧t.s.ep≤1073741824) (ai:0≤t.wt∧t.wt≤50):
 Calls prog 119 #[.pointer (some ⟨g,0,none⟩),int i64 i,int i64 z] w fun e w'=>e= .returned (.tuple #[])∧∃s du,du.length≤c.du.length+1∧(∀R,R≤t.s.ep→(∀x∈c.du,DG R (t.s.ep+50) x)→∀x∈du,DG R (t.s.ep+50) x)∧hK κ g {t with s:={t.s with du:=s}} {c with ms:=c.ms.set i (kx m z),du:=du} r w'∧ht κ w κ w':=by
 obtain⟨b,J,aj,aT,aU,aC⟩:=h.lx G;have aD:i<c.ms.length:=(jh.1 G).1;obtain⟨H,S,T,aE⟩:=h5 (fun W=>BO m z W) G h J;have ak:=g' (fun(W:World) (O:hr) (o:hK O g t c r W)=>by
  obtain⟨aF,aG,_,_,_,al⟩:=o.lx S;obtain rfl:b=aF:=by simpa using congrArg Sl.A (J.symm.trans aG)
  exact(⟨nH Mem.len al S,oP al (i*6) 6 (by omega)⟩:W.rangeAt b (i*6) m.enc∧W.there b (i*6) 6))
 have aH:=g' aj;obtain⟨n,U⟩:=hk c.ms.length;obtain⟨Q,an⟩:=hk t.s.me.c;rw[←U]at aD;obtain⟨V,aI⟩:=hg (show t.s.me.v= .slice (some ⟨b,0,none⟩) n Q by rw[J,U,an];rfl) (fun(W:World) (O:hr) (c':hl) (o:hK O g t c' r W) (ao:c'.du=c.du)=>EN O g t c' r m.own m.hD W o I.hD ⟨I.own.1,by have:=I.own.2;omega⟩ (by rw[ao];exact af) (by rw[ao];exact ag) ah ai);have aV:=h.box.cell (j:=33) (v:= .slice (some ⟨b,0,none⟩) n Q) (by rw[←V.out];rfl);clear h J U an aC aj I af ag ah ai G;go_enter func119,ntmps119;go_wp2_with (first|(refine wpList_load_mid rfl 98 (.tmp 15) rfl b (i*6) rfl m.enc _ (ak _ _ T).1 jY rfl (by kernel_rfl) ?_));refine hI (H _) fun ap X=>?_;obtain⟨Y,aq⟩:=hg (T.below X) (ht.of (κ:=κ) X);clear X;go_upto_region 1 with(first|(refine jD rfl 98 (.tmp 6) (.tmp 19) rfl (hW (kx m z)) rfl rfl (by kernel_rfl) rfl (by kernel_rfl) ?_;intro aW ar Z aJ))
 obtain⟨au,av,aa⟩:=hs (Y.below Z) (aq.trans (ht.of Z)) ar;have aw:κ ap.heap.size=0:=Y.fresh _ hj;have ab:=g' aw;obtain⟨B,ax⟩:=ho ap.heap.size;rw[ax]at aa ab⊢;have aK:b≠B:=by intro e;have:=aH.out;rw[e,ab.out]at this;omega
 clear ar Z aw ax aJ aK;refine gZ.rg (fun w'=>ha w' B 98 (hW (kx m z))) (fun w'=>hK κ g t c r w') 8 9 (by kernel_rfl) (by rintro _ _ (_|_) _ _ h<;>exact h) aa.drew (au.below hM) fun aL D=>?_;refine gZ.tq aL 1 (gZ.sq 0 8 true []) (by kernel_rfl) D ?_;iterate 6(refine gZ.t1 rfl rfl (fun w' F=>by try simp only[S3];first|(have⟨E,o⟩:=F;have aM:=o.box.cell (j:=33) (v:= .slice (some ⟨b,0,none⟩) n Q) (by rw[←V.out];rfl);go_simp;try rfl)|(go_simp;try rfl)) ?_;try simp only[S4,S3])
 refine gZ.jK (.agg ((hW (kx m z)).toList).toArray) rfl (yieldsIf_load_mid (by rfl) 98 (.tmp 6) rfl B (0) rfl ((hW (kx m z)).toList) _ (fun w' F=>by have⟨E,o⟩:=gZ.mU F;exact fun j v aN=>by rw[Nat.zero_add];exact E.cell (by simpa using aN)) jY rfl (by kernel_rfl)) ?_;try simp only[S4,S3]
 iterate 1(refine gZ.t1 rfl rfl (fun w' F=>by try simp only[S3];first|(have⟨E,o⟩:=F;have aM:=o.box.cell (j:=33) (v:= .slice (some ⟨b,0,none⟩) n Q) (by rw[←V.out];rfl);go_simp;try rfl)|(go_simp;try rfl)) ?_;try simp only[S4,S3])
 refine gZ.hH (fun D=>?_);refine gZ.jc 8 (n:=0) rfl rfl (by kernel_rfl) (by kernel_rfl) (fun K aO=>?_);try simp only[S3]
 have ac:=D.2 rfl;rw[if_pos (by rfl)];refine wp_store_mid 98 (.tmp 28) (.tmp 27) rfl b (i*6) (hW (kx m z)) rfl rfl ((ak _ _ ac).2) (by kernel_rfl) (by kernel_rfl) ?_;obtain⟨ay,ad⟩:=ac.nb aE S 0 (hW (kx m z)).toList (kx m z) (by simp[hW]) rfl;obtain⟨ae,az,aA⟩:=hs ((ad.keep D.1 ab).1) ay (av.trans ((ht.of hM).trans ad));clear ac ay ad;rw[Nat.add_zero]at ae az aA;refine aO.out _ _ ae (fun D=>?_);clear D;refine gZ.ia rfl ?_;have aX:=ae.all;clear au av aa Y aq T;go_wp2_with fail;refine(aI _ κ _ az rfl).mono ?_;rintro e aY ⟨rfl,s,du,aP,aB,o,E⟩;obtain⟨aQ,aR,aS⟩:=hs (aA.trans E) o aB;clear o E aB;go_wp2;go_end0;exact⟨rfl,s,du,aP,aS,aR,aQ⟩
theorem yC(f:Nat→Int):∀n,(∀k,k<n→∀j,j<k→f j≠f k)∨∃m,m<n∧(∀k,k<m→∀j,j<k→f j≠f k)∧∃j,j<m∧f j=f m
 |0=> .inl fun k o=>absurd o (by omega)
 |n+1=>by
  rcases yC f n with h|⟨m,hm,h⟩
  ·by_cases r:∃j,j<n∧f j=f n
   ·exact .inr ⟨n,by omega,h,r⟩
   refine .inl fun k o j z=>?_;by_cases A:k=n
   ·subst A;exact fun e=>r ⟨j,z,e⟩
   exact h k (by omega) j z
  exact .inr ⟨m,by omega,h⟩
theorem EO(h:∀k,k<R.length→∀j,j<k→R.getD j 0≠R.getD k 0)(r:∀z∈R,0≤z∧z<128):R.length≤128:=by
 have A:R.Nodup:=by
  rw[List.Nodup,List.pairwise_iff_getElem];intro i j D o E;have:=h j o i E;simp only[iJ,List.getElem?_eq_getElem D,List.getElem?_eq_getElem o,Option.getD_some]at this;exact this
 have:=uP (l':=(List.range 128).map Int.ofNat) A (fun x F=>by
  have:=r x F;exact List.mem_map.2 ⟨x.toNat,List.mem_range.2 (by omega),by simp;omega⟩)
 simpa using this
def EP(w:World)(s:Sl)(o:List Int)(r:Int)(e:Ending)(w':World):Prop:=∃(v u:Value) (k:Nat),e= .returned (.tuple #[v,u])∧Below w.heap.size w w'∧k≤o.length∧(k:Int)≤max 0 r∧w'.ownsRow w.heap.size 3 1 v k ((o.take k).map iw)∧
 ((u=s.v∧k=0)∨∃B,w.heap.size≤B∧(∀j,v.ownBlock=some j→j<B)∧w'.ownsRow B 3 1 u (o.length-k) ((o.drop k).map iw))
theorem yD(s:Sl)(r:List Int)(E:Int)(w:World)(h:jr w w.heap.size s.A s.n r)(aj:r.length≤1000)(R:∀z∈r,0≤z∧z<128):
 Calls prog 118 #[s.v,int i64 E] w (EP w s r E):=by
 have K:=h.1;have S:∀j,j<s.n→0≤r.getD j 0∧r.getD j 0≤9223372036854775807:=fun j I=>by
  rw[iJ,iB (by omega)];have:=R _ (List.getElem_mem (by omega:j<r.length));simp only[Option.getD_some];omega
 unfold Sl.v;rcases yC (fun j=>r.getD j 0) s.n with hd|⟨m,hm,hd,Z⟩
 ·have ak:=EO (by rw[K];exact hd) R
  have H:=g' (kQ.C4 s.A s.n s.c r w K h.2 (by omega) S hd);obtain⟨k,J⟩:∃k:Nat,max 0 (min E r.length)=(k:Int):=⟨(max 0 (min E r.length)).toNat,by omega⟩;obtain⟨aa,ab,T⟩:=hs (fun(W:World) (p:Nat) (v:Value) (F:kQ.kR W p v r)=>kQ.C3 E k J F (by omega)) (fun(W:World) (p:Nat) (v:Value) (F:kQ.kR W p v (r.drop k))=>kQ.uA F (by rw[List.length_drop];omega)) (show k≤r.length∧(k:Int)≤max 0 E by omega);go_enter func118,ntmps118;go_wp2_with fail;refine H.mono ?_;rintro e ac ⟨rfl,v,F,O⟩;obtain⟨D,U⟩:=hg O F;go_wp2_with fail;refine(aa _ _ _ U).mono ?_;rintro e V ⟨o,rfl,al,ad,ae,G,am⟩;obtain⟨Q,af,X⟩:=hs ad ae (show Below w.heap.size w V from⟨G.os.trans D.os,G.tape.trans D.tape,G.output.trans D.output,Nat.le_trans D.size G.size,fun k J=>(G.block k (Nat.lt_of_lt_of_le J D.size) (by omega) (fun e=>by have:=(U.own.lt k e.symm).1;omega)).trans (D.block k J)⟩);go_wp2_with fail;refine(ab _ _ _ af).mono ?_;rintro e an ⟨u,rfl,ag,ah⟩;obtain⟨ai,Y⟩:=hg ag ah;go_wp2;go_ret2;exact⟨o,u,k,rfl,hJ X Y,T.1,T.2,j0 (Q.mono D.size) (fun j I=>Y.block j (Q.lt j I).2),.inr ⟨V.heap.size,X.size,fun j I=>(Q.lt j I).2,by rw[←List.length_drop];exact ai⟩⟩
 have H:=g' (kQ.C5 s.A s.n s.c m r w K h.2 (by omega) hm S hd Z);go_enter func118,ntmps118;go_wp2_with fail;refine H.mono ?_;rintro e ac ⟨rfl,O⟩;have D:=g' O;go_wp2;go_ret2;exact⟨.slice none 0 0,.slice s.A s.n s.c,0,rfl,D,h6,by omega,World.ownsRow_nil _ _ _ _,.inl ⟨rfl,rfl⟩⟩
theorem yE(x i:Int)(B:Nat)(w:World)(o:w.cell? ⟨B,0,none⟩=some (int i64 i)):Calls prog 186 #[int i64 x,.pointer (some ⟨B,0,none⟩)] w fun e w'=>e= .returned (.bool (x==i))∧w=w':=by
 go_enter func186,ntmps186;go_wp2;go_ret;exact⟨rfl,rfl⟩
theorem ER(b n c:Nat)(o:List Int)(x:Int)(B:Nat)(w:World)(V:o.length=n)(G:∀j,j<n→w.cell? ⟨b,j,none⟩=some (int i64 (o.getD j 0)))(W:n≤1000000)(I:w.cell? ⟨B,0,none⟩=some (int i64 x)):
 Calls prog 235 #[.slice (some ⟨b,0,none⟩) n c,.func (.func 186) #[] #[.pointer (some ⟨B,0,none⟩)]] w fun e w'=>w=w'∧∃r,e= .returned (int i64 r)∧((∃k:Nat,r=k∧k<n∧o.getD k 0=x∧∀j,j<k→o.getD j 0≠x)∨(r= -1∧∀j,j<n→o.getD j 0≠x)):=by
 obtain⟨R,H⟩:=hg G (fun y=>yE y x B w I);clear G I;go_enter func235,ntmps235;go_wp2;go_loopw [8] (fun A wr=>w=wr∧∃k:Nat,A=int i64 k∧k≤n∧∀j,j<k→o.getD j 0≠x) (fun A _=>n-(intOf A).toNat)
 case atStart=>exact⟨rfl,0,rfl,h6,fun j J=>absurd J (by omega)⟩
 case round=>
  obtain⟨rfl,k,rfl,X,K⟩:=hrel;have D:=g' K;clear K;by_cases z:k<n
  ·have S:=hZ z
   have T:=R.out k z;obtain⟨y,E⟩:=ho (o.getD k 0);rw[E]at T;have O:=g' E;obtain⟨q,Q⟩:=ho (y==x);have F:=g' Q;clear E Q;go_wp2_with fail;refine hE (H y) ?_;rw[F.out];cases q
   ·go_wp2
    exact⟨⟨by trivial,k+1,by go_num,by omega,fun j J=>by
     by_cases U:j=k
     ·subst U;rw[O.out];simpa using F.out
     exact D j (by omega)⟩,by simp[intOf];omega⟩
   go_wp2;go_ret;exact⟨by trivial,_,rfl,.inl ⟨k,rfl,z,by rw[O.out];simpa using F.out,D⟩⟩
  have S:=h1 z;obtain rfl:k=n:=by omega
  go_wp2;go_ret;exact⟨by trivial,_,rfl,.inr ⟨by trivial,D⟩⟩
theorem yF{p:Int→Bool}{y:Int}(h:R[j]?=some y):(R.take (j+1)).filter p=(R.take j).filter p++(if p y=true then[y]else[]):=by
 rw[List.take_add_one,h,List.filter_append];congr 1;show List.filter p [y]=_;rw[List.filter_cons];rfl
theorem ES(w:World)(b o m c:Nat)(D:0<m)(z:w.there b o m)(A:TypeId):(Builtin.clear_ #[40] A #[.slice (some ⟨b,o,none⟩) m c]).run prog w= .ok (.tuple #[]) (w.setCells b o (List.replicate m (int i64 0))):=
 Lib.run_clear_slice w 40 3 A (int i64 0) kB Tryz.zeroValue3 rfl rfl b o m c D (fun j r=>(z j r).1) (fun j r=>(z j r).2)
theorem ET(b c:Nat)(o:List Int)(x:Int)(B:Nat)(w:World)(J:w.ownsRow 0 3 1 (.slice (some ⟨b,0,none⟩) o.length c) o.length (o.map iw))(ad:o.length≤1000000)(Y:w.cell? ⟨B,0,none⟩=some (int i64 x))(aw:B≠b):
 Calls prog 185 #[.slice (some ⟨b,0,none⟩) o.length c,.func (.func 186) #[] #[.pointer (some ⟨B,0,none⟩)]] w fun e w'=>∃m,e= .returned (.slice (some ⟨b,0,none⟩) m c)∧w'.ownsRow 0 3 1 (.slice (some ⟨b,0,none⟩) m c) m ((o.filter (fun y=> !(y==x))).map iw)∧w.grownBy w' (some b):=by
 have R:∀j,j<o.length→o[j]?=some (o.getD j 0):=fun j E=>by rw[iJ,List.getElem?_eq_getElem E];rfl
 have ax:o.length≤c:=by
  rcases J.2 with⟨hv,_⟩|⟨_,_,_,hv,_,_,h,_⟩
  ·cases hv
  cases hv;exact h
 obtain⟨n,S⟩:=hk o.length;rw[←S]at R J ad ax⊢;obtain⟨Z,ae,ay,af,az⟩:=jg S R (ER b n c o x B w S.symm (fun j E=>by rw[J.cellAt j (by omega),List.getElem?_map,R j E];rfl) ad Y) J (fun(W:World) (y:Int) (aA:w.grownBy W (some b))=>yE y x B W (aA.cell Y (fun e=>aw (by injection e))));clear S R J Y;go_enter func185,ntmps185;go_wp2_with fail;refine ay.mono ?_;rintro e aN ⟨rfl,r,rfl,aB⟩;rcases aB with⟨k,rfl,ag,ah,T⟩|⟨rfl,T⟩
 ·have aO:((k:Int)== -1)=false:=by rw[beq_eq_false_iff_ne];omega
  have aC:i64.wrap ((k:Int)+1)=((k+1:Nat):Int):=by rw[IntKind.wrap_i64];omega
  have ai:o.take k=(o.take (k+1)).filter (fun y=> !(y==x)):=by
   rw[yF (ae.out k ag),if_neg (by simpa using ah),List.append_nil,List.filter_eq_self.2];intro y G;obtain⟨j,E,rfl⟩:=List.getElem_of_mem G;rw[List.length_take]at E;have:=T j (by omega);rw[iJ,iB (by omega)]at this;rw[List.getElem_take];simpa using this
  have aD:=g' ai;clear ai T ah;go_wp2;go_loopw [5,6] (fun aE aa wr=>∃(i j:Nat) (z:List Int),aE=int i64 i∧aa=int i64 j∧i<j∧j≤n∧z.length=n∧z.take i=(o.take j).filter (fun y=> !(y==x))∧z.drop j=o.drop j∧wr.ownsRow 0 3 1 (.slice (some ⟨b,0,none⟩) n c) n (z.map iw)∧w.grownBy wr (some b)) (fun _ aa _=>n-(intOf aa).toNat)
  case atStart=>exact⟨k,k+1,o,rfl,by first|rfl|(rw[aC]),by omega,by omega,Z.symm,aD,rfl,af,World.grownBy.refl _ _⟩
  case round=>
   obtain⟨i,j,z,rfl,rfl,aP,E,aj,U,V,F,D⟩:=hrel;have aF:i64.wrap ((i:Int)+1)=((i+1:Nat):Int):=by rw[IntKind.wrap_i64];omega
   have ak:i64.wrap ((j:Int)+1)=((j+1:Nat):Int):=by rw[IntKind.wrap_i64];omega
   by_cases ab:j<n
   ·have aG:=hZ ab
    have aH:i<n:=by omega
    obtain⟨y,G⟩:∃y,o[j]?=some y:=⟨_,ae j ab⟩;have al:z[j]?=some y:=by
     have K:=congrArg (fun l=>l[0]?) V;simp only[List.getElem?_drop,Nat.add_zero]at K;rw[K,G]
    have aQ:wr.cell? ⟨b,j,none⟩=some (int i64 y):=by rw[F.cellAt j (by omega),List.getElem?_map,al];rfl
    obtain⟨u,aR⟩:∃u,wr.cell? ⟨b,i,none⟩=some (int i64 u):=⟨z.getD i 0,by rw[F.cellAt i (by omega),List.getElem?_map,iJ,iB (by omega)];rfl⟩;have aS:=F.frozenAt i;have am:z.drop (j+1)=o.drop (j+1):=by rw[←List.drop_drop,←List.drop_drop,V]
    have an:=yF (p:=fun y=> !(y==x)) G;obtain⟨q,ao⟩:=ho (y==x);obtain⟨aI,A,ap,I⟩:=h5 (az wr y D) (And.intro U (And.intro am (And.intro an (And.intro ao aj)))) F D;clear U V am an ao G al F D aj;go_wp2_with fail;refine aI.mono ?_;rintro e aT ⟨rfl,rfl⟩;rw[A.2.2.2.1];cases q
    ·go_wp2
     refine⟨⟨i+1,j+1,z.set i y,by first|rfl|rw[aF],by first|rfl|rw[ak],by omega,by omega,by rw[List.length_set];exact A.2.2.2.2,?_,?_,?_,?_⟩,by simp[intOf];omega⟩
     ·rw[A.2.2.1,←A.1]
      have:=A.2.2.2.1;simp only[this,Bool.not_false,if_true];rw[List.take_add_one,List.getElem?_set_self (by rw[A.2.2.2.2];exact aH),List.take_set_of_le hj];rfl
     ·rw[List.drop_set_of_lt (by omega)];exact A.2.1
     ·rw[List.map_set];exact(ap.stored i (int i64 y)).1
     exact⟨I.os,I.tape,I.output,by simpa[World.setCell]using I.size,fun p X O=>(heap_setCell_other _ _ _ _ (fun e=>O (by rw[e]))).trans (I.block p X O)⟩
    go_wp2;refine⟨⟨i,j+1,z,rfl,by first|rfl|rw[ak],by omega,by omega,A.2.2.2.2,?_,A.2.1,ap,I⟩,by simp[intOf];omega⟩;rw[A.2.2.1,←A.1];have:=A.2.2.2.1;simp only[this,Bool.not_true,Bool.false_eq_true,if_false,List.append_nil]
   have aG:=h1 ab;obtain rfl:j=n:=by omega
   have aU:¬(c=i):=by omega
   have aq:wr.there b i (j-i):=fun k ag=>⟨by rw[F.cellAt (i+k) (by omega),List.getElem?_map,iB (by omega)];rfl,F.frozenAt _⟩;have aV:=fun aJ=>ES wr b i (j-i) (c-i) (by omega) aq aJ;have ar:=mz (List.replicate (j-i) (Value.int i64 0)) i wr _ F;have ac:=kQ.xM (m:=i) ar (by omega);have Q:=kQ.uv b (List.replicate (j-i) (Value.int i64 0)) i wr;have au:w.grownBy (wr.setCells b i (List.replicate (j-i) (Value.int i64 0))) (some b):=⟨Q.1.trans D.os,Q.2.1.trans D.tape,Q.2.2.1.trans D.output,by rw[Q.2.2.2];exact D.size,fun p X O=>(World.heap_setCells_other wr _ _ _ (i:=p) (Nat.lt_of_lt_of_le X D.size) (fun e=>O (by rw[e]))).trans (D.block p X O)⟩;have av:(kS (z.map iw) i (List.replicate (j-i) (Value.int i64 0))).take i=(o.filter (fun y=> !(y==x))).map iw:=by
    have K:=uR ((z.take i).map iw) (List.replicate (j-i) (Value.int i64 0)) ((z.drop i).map iw) 0;rw[←List.map_append,List.take_append_drop,Nat.add_zero,List.length_map,List.length_take,Nat.min_eq_left (by omega)]at K;rw[K,List.take_left' (by rw[List.length_map,List.length_take];omega),U,List.take_of_length_le (by rw[←Z.out];exact hj)]
   rw[av]at ac;obtain⟨aK,aL⟩:=hg ac au;clear ar ac au av Q U V F D aq;go_wp2;go_ret;exact⟨_,rfl,aK,aL⟩
 have aM:=g' T;go_wp2;go_ret;refine⟨n,rfl,?_,World.grownBy.refl _ _⟩;rw[List.filter_eq_self.2 (fun y G=>by
  obtain⟨j,E,rfl⟩:=List.getElem_of_mem G;have:=aM.out j (by rw[Z.out];exact E);rw[iJ,List.getElem?_eq_getElem E]at this;simpa using this)]
 exact af
theorem EU(s:Sl)(o:List Int)(x:Int)(B:Nat)(w:World)(r:w.ownsRow 0 3 1 s.v s.n (o.map iw))(J:s.n≤1000000)(K:w.cell? ⟨B,0,none⟩=some (int i64 x))(D:∀E,s.A=some E→B≠E.block):
 Calls prog 185 #[s.v,.func (.func 186) #[] #[.pointer (some ⟨B,0,none⟩)]] w fun e w'=>∃s':Sl,e= .returned s'.v∧w'.ownsRow 0 3 1 s'.v s'.n ((o.filter (fun y=> !(y==x))).map iw)∧w.grownBy w' s.v.ownBlock∧∀k,s'.v.ownBlock=some k→s.v.ownBlock=some k:=by
 obtain⟨A,n,c⟩:=s;unfold Sl.v at*;simp only at*;have F:=r.1;rw[List.length_map,Nat.mul_one]at F;subst F;have G:=r;rcases r.2 with⟨hv,O⟩|⟨b,cap,cur,hv,_⟩
 ·obtain rfl:o=[]:=List.eq_nil_of_length_eq_zero O
  cases hv;clear D r G;have H:Calls prog 235 #[.slice none 0 0,.func (.func 186) #[] #[.pointer (some ⟨B,0,none⟩)]] w fun e w'=>w=w'∧e= .returned (int i64 (-1)):=by
   go_enter func235,ntmps235;go_wp2;go_loopw [8] (fun I wr=>w=wr∧I=int i64 0) (fun I _=>0)
   case atStart=>exact⟨rfl,rfl⟩
   case round=>
    obtain⟨rfl,rfl⟩:=hrel;go_wp2;go_ret;exact⟨by trivial,by trivial⟩
  have H:=g' H;go_enter func185,ntmps185;go_wp2_with fail;refine H.mono ?_;rintro e S ⟨rfl,rfl⟩;go_wp2;go_ret;exact⟨⟨none,0,0⟩,rfl,World.ownsRow_nil _ _ _ _,World.grownBy.refl _ _,fun k z=>by cases z⟩
 cases hv;refine(ET b c o x B w G J K (D _ rfl)).mono ?_;rintro e w' ⟨m,rfl,Q,R⟩;exact⟨⟨some ⟨b,0,none⟩,m,c⟩,rfl,Q,R,fun k z=>z⟩
theorem qf:(prog.info? 3).map (fun i=>(i.zero,i.size,i.bytes))=some (some (int i64 0),1,8):=by kernel_rfl
theorem yG(κ:hr)(g:Nat)(t:Tk)(c:hl)(r:Rc)(i:Nat)(m:Mem)(ak:c.ms[i]?=some m)(w:World)(h:hK κ g t c r w)(al:my m)(an:c.du.length≤800000)(ao:∀x∈c.du,x.am<18446744073709551616)
 (ap:0≤t.s.ep∧t.s.ep≤1073741824) (aq:0≤t.wt∧t.wt≤50) (aR:c.xs.length≤1000000) (bn:r.os.length≤1000000):
 Calls prog 117 #[.pointer (some ⟨g,0,none⟩),int i64 i] w fun e w'=>e= .returned (.tuple #[])∧∃F aS d' o' du,du.length≤c.du.length+1∧(∀Z,Z≤t.s.ep→(∀x∈c.du,DG Z (t.s.ep+50) x)→∀x∈du,DG Z (t.s.ep+50) x)∧
  hK F g {t with s:={t.s with ex:=aS,du:=d'},r:={t.r with ou:=o'}} {c with ms:=c.ms.set i (kx m 4),xs:=c.xs.filter (fun y=> !(y==(i:Int))),du:=du} {r with os:=r.os++[(i:Int)]} w'∧ht κ w F w':=by
 obtain⟨aT,aU,aV,aW,aX⟩:=info_parts qf;have aY:t.s.ex.n=c.xs.length:=by have:=h.row.ex.own.1;rw[List.length_map,Nat.mul_one]at this;exact this.symm
 have aa:Below w.heap.size w (w.alloc (.cells #[int i64 i] 3)):=hz.alloc hj _;have G:ha (w.alloc (.cells #[int i64 i] 3)) w.heap.size 3 #[int i64 i]:=ha.new w _ _ _ rfl;have z:=h.below aa;have O:κ w.heap.size=0:=h.fresh _ hj;have ar:=g' (ht.of (κ:=κ) aa);obtain⟨aZ,ab⟩:=ho (w.alloc (.cells #[int i64 i] 3));obtain⟨B,ac⟩:=ho w.heap.size;rw[ab]at G z ar;rw[ac]at G O;obtain⟨a0,a1,D,a2,Q,a3,a4⟩:=k2 (EU t.s.ex c.xs i B aZ z.row.ex.own (by omega) (G.cell (j:=0) rfl) (fun a5 a6 e=>by have:=z.row.ex.jl a5 a6;rw[←e,O]at this;cases this)) (fun F t' c' au W (a7:hK F g t' c' au W) (a8:c'.ms=c.ms) (ad:c'.du=c.du) (a9:t'.s.ep=t.s.ep) (a':t'.wt=t.wt)=>yB F g t' c' au i m (by rw[a8];exact ak) 4 W a7 al (by rw[ad];exact an) (by rw[ad];exact ao) (by rw[a9];exact ap) (by rw[a'];exact aq)) z G O ab ac;have bo:=z.box.all;clear h aa G z O ab ac al an ao ap aq aR ak aY;go_enter func117,ntmps117;go_upto_region 1 with(fail)
 rw[a3.out,a4.out];go_wp2_with fail;refine a0.mono ?_;rintro e ba ⟨s',rfl,av,R,aw⟩;obtain⟨ax,E⟩:=D.row.exit R s' _ av aw;have ay:t.s.ex.v.ownBlock≠some g:=fun e=>by have:=D.row.ex.h2 g e;rw[D.kg]at this;cases this
 have S:ha ba g 138 t.cs:=(R.block g D.box.lt (fun e=>ay e.symm)).trans D.box;have bp:=S.all;have bq:=S.frozen 35;obtain⟨az,ae⟩:=hK.nG (fun k bb=>D.fresh k (Nat.le_trans R.size bb)) D.kg S ax 35 (.slice s'.A s'.n s'.c) rfl;obtain⟨bc,bd,aA⟩:=hs az (ar.trans (E.trans ae)) (((E.trans ae).keep a2 Q).1);have br:=aA.all;clear av R aw ax E ay S az ae;simp only[Sl.v];go_wp2_with fail;refine(a1 κ _ _ _ _ bc rfl rfl rfl rfl).mono ?_;rintro e T ⟨rfl,d',du,aB,aC,aD,af⟩;obtain⟨aE,be,bf,aF⟩:=h5 aD (bd.trans af) ((af.keep aA Q).1) (And.intro aB aC);clear aD af aB aC;go_wp2;have aG:=g' (show t.r.ou.n≤1000000 by have:=aE.row.ou.own.1;rw[List.length_map,Nat.mul_one]at this;have ad:r.os.length=t.r.ou.n:=this;omega);refine gZ.rg (fun w'=>ha w' B 3 #[int i64 i]) (fun w'=>hK κ g _ _ r w') 8 13 (by kernel_rfl) (by rintro _ _ (_|_) _ _ h<;>exact h) bf.drew (aE.below hM) fun aH o=>?_;refine gZ.tq aH 6 (gZ.sq 0 5 false (gZ.sq 5 1 true (gZ.sq 6 1 false []))) (by kernel_rfl) o ?_;iterate 7(refine gZ.t1 rfl rfl (fun w' I=>by try simp only[S3];first|(have⟨E,z⟩:=I;have ag:=E.all;have bg:=z.box.all;go_simp;try rfl)|(have ag:=I.all;go_simp;try rfl)) ?_;try simp only[S4,S3])
 refine gZ.hH (fun o=>?_);refine gZ.hY 7 (n:=5) rfl rfl (by kernel_rfl) (fun K J=>?_);try simp only[S3]
 go_simp;have ah:=g' ((o.2 rfl).below (hz.alloc hj (.cells #[int i64 i] 3)));refine J.out _ _ (o.1.alloc _) ah (fun o=>?_);try simp only[S4,S3]
 refine gZ.jc 8 (n:=4) rfl rfl (by kernel_rfl) (by kernel_rfl) (fun K J=>?_);try simp only[S3]
 rw[if_pos (by rfl)];refine wp_append_lies _ (.tmp 23) (.tmp 25) 40 (by rfl) 0 3 aT _ 1 8 kB aU aV aW aX (by rfl) (by omega) (.slice t.r.ou.A t.r.ou.n t.r.ou.c) t.r.ou.n (r.os.map iw) (by rfl) ah.row.ou.own ⟨T.heap.size,0,none⟩ 1 1 [int i64 i] (by rfl) (by rfl) (kp _ _ _ _ (by simp)) (by first|(intro u U;simp at U;subst U;rfl)|exact fun u U=>by simpa using U) (by omega) (by have:=aG.out;unfold maxLen;omega) (by have:=aG.out;omega) (h6) _ rfl ?_;intro b bh bt ai aI aJ aK;have aL:r.os.map iw++[int i64 (i:Int)]=(r.os++[(i:Int)]).map iw:=by rw[List.map_append];rfl
 rw[aL]at ai;obtain⟨aM,aN,V,aO,X⟩:=ah.uU _ aI ai (aJ.imp id (fun e=>by rw[e];exact hj)) aK;obtain⟨aP,bi,Y,bj⟩:=h5 ((X.keep o.1 Q).1) ((X.keep o.1 Q).2) (And.intro aM (And.intro aN (And.intro V aO))) (be.trans (((ht.of ((Below.drew (Below.refl T.heap.size T)).alloc hj _)):ht κ T κ _).trans X));have bu:=V.frozen 51;have bv:=V.all;clear aM aN V aO X ai aI aJ aK aL;refine J.out _ _ aP (fun o=>?_);try simp only[Act.put,List.setIfInBounds_toArray,List.set_cons_zero,List.set_cons_succ]
 refine gZ.tq aH 1 (gZ.sq 9 3 false []) (by kernel_rfl) o ?_;iterate 3(refine gZ.t1 rfl rfl (fun w' I=>by try simp only[S3];first|(have⟨E,z⟩:=I;have ag:=E.all;have bg:=z.box.all;go_simp;try rfl)|(have ag:=I.all;go_simp;try rfl)) ?_;try simp only[S4,S3])
 refine gZ.hH (fun o=>?_);refine gZ.jc 12 (n:=0) rfl rfl (by kernel_rfl) (by kernel_rfl) (fun K J=>?_);try simp only[S3]
 obtain⟨aQ,aj⟩:=hK.nG Y.1 Y.2.1 Y.2.2.1 Y.2.2.2 51 (.slice (some ⟨b,0,none⟩) (t.r.ou.n+1) bh) rfl;obtain⟨bk,bl,bm⟩:=hs aQ (bj.trans aj) ((aj.keep aP bi).1);clear aQ aj;go_simp;refine J.out _ _ bm (fun o=>?_);clear o;refine gZ.ia rfl ?_;go_wp2;go_end0;exact⟨rfl,_,s',d',_,du,aF.1,aF.2,bk,bl⟩
structure TS where
 κ:hr
 t:Tk
 c:hl
 r:Rc
def TS.At(S:TS)(g:Nat)(w:World):Prop:=hK S.κ g S.t S.c S.r w
theorem l1{t:Tk}{s:Sl}(h:t.s.me=s):t.cs[33]?=some (.slice s.A s.n s.c):=by subst h;rfl
theorem hK.kz{κ:hr}{t:Tk}{c:hl}{r:Rc}(h:hK κ g t c r w):c.ms.length=t.s.me.n:=by
 have:=h.row.me.own.1;rw[mh Mem.len]at this;omega
theorem rY(f:FuncId)(aH:∀Z w,(callFunc f Z).run prog w= .ok (.enter f Z) w)(aa:Array Value)(g:Nat)(o:Sl)(z:Nat→TS→World→Prop)
 (J:∀k S W,z k S W→S.At g W∧S.t.s.me=o) (ab:∀k S W D,z k S W→Below W.heap.size W D→z k S D)
 (ac:∀k S W m,z k S W→S.c.ms[k]?=some m→nW m=false→z (k+1) S W)
 (ad:∀k S W m b,z k S W→S.c.ms[k]?=some m→nW m=true→o=⟨some ⟨b,0,none⟩,o.n,o.c⟩→Calls prog f (#[.int .i64 k,.pointer (some ⟨b,k*6,none⟩)]++aa) W fun e D=>e= .returned (.tuple #[])∧∃E,z (k+1) E D)
 (S:TS) (w:World) (K:z 0 S w) (ar:o.n≤1000000):
 Calls prog 103 #[.pointer (some ⟨g,0,none⟩),.func (.func f) #[] aa] w fun e w'=>e= .returned (.tuple #[])∧∃E,z o.n E w':=by
 obtain⟨au,av,aw,ax⟩:=h5 J ab ac ad;have ae:=(J 0 S w K).1.box.cell (j:=33) (v:= .slice o.A o.n o.c) (l1 (J 0 S w K).2);have ay:=g' K;clear J ab ac ad K;obtain⟨n,R⟩:=hk o.n;rw[←R]at ae ar⊢;have af:=g' R;clear R;go_enter func103,ntmps103;go_wp2;go_loopw [11] (fun T wr=>∃(k:Nat) (S:TS),T= .int .i64 k∧k≤n∧z k S wr) (fun T _=>n-(intOf T).toNat)
 case atStart=>exact⟨0,S,rfl,h6,ay⟩
 case round=>
  obtain⟨k,S,rfl,aI,F⟩:=hrel;by_cases ag:k<n
  ·have az:=hZ ag
   have ah:IntKind.i64.wrap ((k:Int)+1)=((k+1:Nat):Int):=by rw[IntKind.wrap_i64];omega
   obtain⟨G,I⟩:=au k S wr F;have ai:S.c.ms.length=n:=by rw[G.kz,I,af.out]
   obtain⟨m,O⟩:∃m,S.c.ms[k]?=some m:=⟨_,iB (by omega)⟩;obtain⟨b,aj,_,_,_,ak⟩:=hK.lx G O;have Q:o=⟨some ⟨b,0,none⟩,n,o.c⟩:=by rw[←I,aj,ai]
   obtain⟨aA,al,aB,am⟩:=h5 (nH Mem.len ak O) O (show hK S.κ g S.t S.c S.r wr from G) (rF m wr _ rfl);have aJ:=G.box.cell (j:=33) (v:= .slice (some ⟨b,0,none⟩) n o.c) (l1 (I.trans Q));obtain⟨aC,aD,aE⟩:=hs (fun D aF=>av k S wr D F aF) (show S.t.s.me=⟨some ⟨b,0,none⟩,n,o.c⟩from I.trans Q) (show o=⟨some ⟨b,0,none⟩,o.n,o.c⟩ by rw[←af.out];exact Q);obtain⟨q,U⟩:=ho (nW m);rw[U]at am;have an:=g' U;clear G I ai O aj ak Q U F ae;go_wp2_with (first|(refine wpList_load_mid rfl 98 (.tmp 20) rfl b (k*6) rfl m.enc _ aA jY rfl (by kernel_rfl) ?_));refine am.mono ?_;rintro e V ⟨rfl,X⟩;have ao:=aC.out V X;have ap:=g' ao;have aK:=(aB.below X).box.cell (j:=33) (v:= .slice (some ⟨b,0,none⟩) n o.c) (l1 aD);clear X ao;cases q
   ·go_wp2
    exact⟨⟨k+1,S,by first|rfl|rw[ah],by omega,aw k S V m ap al an⟩,by simp[intOf];omega⟩
   have aG:=g' (ax k S V m b ap al an aE);go_wp2_with (first|(go_at_fn f;refine aG.mono ?_;rintro e aL ⟨rfl,E,aq⟩)|go_in);have Y:=g' aq;clear aq;go_wp2;exact⟨⟨k+1,E,by first|rfl|rw[ah],by omega,Y⟩,by simp[intOf];omega⟩
  have az:=h1 ag;obtain rfl:k=n:=by omega
  have Y:=g' F;clear F;go_wp2;go_end0;exact⟨rfl,S,Y⟩
end hB
end Go.Proofs.YtffbipddbnkdjaaGreat
