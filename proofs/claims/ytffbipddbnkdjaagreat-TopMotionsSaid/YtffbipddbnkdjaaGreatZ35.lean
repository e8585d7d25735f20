/- What functions compute at any arguments, and plain facts: the genesis that is simple, and that an engine is awake; the frame of a law's loop over a script; The law TopMint, walked: what a tick mints is its budget or nothing and others. Conditions: those that each theorem names. -/
import Derived.Test.YtffbipddbnkdjaaGreatZ34
import Derived.OpenShut
set_option maxRecDepth 100000
set_option maxHeartbeats 40000000
set_option linter.all false
open Go Go.Proofs.Tryz
open Go.Value(int)
open Go.IntKind(i64 u64)
variable{A T:Option Addr}{n g b L k B i x a m j q c p s r d h u N y:Nat}{E z:Int}{P:Program}{w W X Z:World}{e t:TypeId}{f:Nat→Value}{l:List Bool}{V U:Value}{Y:List Nat}{S:List Value}{R:List Int}{Q:Array Value}{O:List (List Nat)}{M:Bool}{K:Ending}{J:Addr}{I:Nat→Nat}{H:Option Nat}
namespace Go.Proofs.YtffbipddbnkdjaaGreat
namespace hB
open RowKit
open hG hf hC h0 hU
section
variable {P:Program} {ops:Array Oper} {Q:Exit→Act→World→Prop} {a:Act} {w:World} {rest:List Oper} {o:Oper}
theorem Hw(r:Region.wanted o (yielded ops a.tmps)=true)(z:TypeId)(x:Operand)(k:Nat)(_:o.op= .field z x k)(v:Value)(A:∀w',(execOp a.eval o).run P w'= .ok (.value v) w')(h:wpList P ops Q rest (a.put o.dst v) w):wpList P ops Q (o::rest) a w:=ht.s1 v r (A w) h
end
theorem Hx(w:World):Calls prog 27 #[] w fun e w'=>e= .returned (.agg sP.cs)∧Below w.heap.size w w':=by
 go_enter func27,ntmps27;go_wp2_with (first|(refine wpList_build rfl 24 #[(0,.const (.int .u64 10)),(1,.const (.int .u64 30)),(2,.const (.int .u64 10)),(3,.const (.int .u64 40)),(4,.const (.int .u64 10)),(5,.const (.int .u64 5)),(6,.const (.int .u64 4)),(7,.const (.int .u64 100)),(8,.const (.int .u64 8)),(9,.const (.int .u64 50)),(10,.const (.int .u64 2)),(11,.const (.int .u64 100)),(12,.const (.int .u64 1048576)),(13,.const (.int .u64 1)),(14,.const (.int .i64 2)),(15,.const (.int .i64 4)),(16,.const (.int .i64 100)),(17,.const (.int .i64 100)),(18,.const (.int .i64 5000)),(19,.const (.int .i64 2)),(20,.const (.int .i64 2)),(21,.const (.int .i64 2)),(22,.const (.int .i64 1)),(23,.const (.int .i64 3000))] rfl (.agg sP.cs) (fun w'=>by kernel_rfl) ?_)|(refine jD rfl 24 (.tmp 0) (.tmp 1) rfl sP.cs rfl rfl (jb _) rfl (mq _) ?_;intro z o r _));exact bodyPost_ret (v:= .agg sP.cs) (l9 results27 _ _ _ _ _ _ rfl o hQ rfl (jb _)) rfl ⟨rfl,r⟩
def Hy(w:World)(e:Ending)(w':World):Prop:=∃pu o:Sl,e= .returned (.agg (je sP 1073741824 pu o))∧Below w.heap.size w w'∧jk w' w'.heap.size pu.A pu.n sU∧(pu.A=none→pu.n=0∧pu.c=0)∧hV w' w'.heap.size o.A o.n 2 (flat Fo.enc sF)
theorem Hz(w:World):Calls prog 14 #[] w (Hy w):=by
 go_enter func14,ntmps14;go_wp2_with fail;refine hI (Hx _) fun r E=>?_;obtain⟨Q,W⟩:=hg ((ha.new w _ 28 (je hx.zero 0 Sl.nil Sl.nil) rfl).to E) (((Below.refl _ w).alloc hj (.cells (je hx.zero 0 Sl.nil Sl.nil) 28)).trans (E.mono (by simp)));clear E;obtain⟨o,F⟩:=ho (r.alloc (.cells #[.int .u64 500,.int .u64 200] 22));have R:o.heap.size=r.heap.size+1:=by rw[←F];simp
 have G:Below r.heap.size r o:=by rw[←F];exact hz.alloc hj _
 have S:ha o r.heap.size 22 #[.int .u64 500,.int .u64 200]:=by rw[←F];exact ha.new _ _ _ _ rfl
 obtain⟨I,J⟩:=ho (o.alloc (.cells #[.int .i64 0,.int .u64 25,.int .i64 1,.int .u64 40] 87));have D:Below o.heap.size o I:=by rw[←J];exact hz.alloc hj _
 have T:ha I o.heap.size 87 #[.int .i64 0,.int .u64 25,.int .i64 1,.int .u64 40]:=by rw[←J];exact ha.new _ _ _ _ rfl
 have U:I.heap.size=o.heap.size+1:=by rw[←J];simp
 have X:=(Q.to G).to D;obtain⟨Y,Z,aa,V⟩:=h5 (S.to D) T (And.intro R U) (hJ (hJ W G) D);have ac:w.heap.size<r.heap.size:=by have:=Q.lt;exact this
 clear G S D T R U;go_wp2_with (first|(refine wpList_build rfl 87 #[(1,.const (.int .u64 25))] rfl (.agg #[.int .i64 0,.int .u64 25]) (fun w'=>by kernel_rfl) ?_)|(refine wpList_build rfl 87 #[(0,.const (.int .i64 1)),(1,.const (.int .u64 40))] rfl (.agg #[.int .i64 1,.int .u64 40]) (fun w'=>by kernel_rfl) ?_)|(refine wpList_build rfl 28 #[(0,.tmp 1),(1,.const (.int .u64 1073741824)),(2,.tmp 2),(3,.tmp 5)] rfl (.agg (je sP 1073741824 ⟨some ⟨r.heap.size,0,none⟩,2,2⟩ ⟨some ⟨o.heap.size,0,none⟩,2,2⟩)) (fun w'=>by kernel_rfl) ?_)|(refine iL rfl 28 (.tmp 0) (.tmp 6) rfl w.heap.size (je sP 1073741824 ⟨some ⟨r.heap.size,0,none⟩,2,2⟩ ⟨some ⟨o.heap.size,0,none⟩,2,2⟩) rfl rfl 28 _ X (qp _ _ _ _) rfl (by kernel_rfl) ?_;intro ad ab K));have A:=Y.hT K (by omega);have z:=Z.hT K (by have:=aa.1;omega);refine bodyPost_ret (v:= .agg (je sP 1073741824 ⟨some ⟨r.heap.size,0,none⟩,2,2⟩ ⟨some ⟨o.heap.size,0,none⟩,2,2⟩)) (l9 results14 _ _ _ _ _ _ rfl ab np rfl (qp _ _ _ _)) rfl ⟨_,_,rfl,iC V K hj V.size,⟨rfl,(fun u A=>by simp[sU]at A;omega),fun j O=>?_⟩,(fun e=>by cases e),⟨rfl,fun j O=>?_⟩⟩
 ·match j,O with
  |0,_=>exact⟨_,rfl,A.lt,by rw[hG.add_zero];exact A.cell rfl⟩
  |1,_=>exact⟨_,rfl,A.lt,A.cell rfl⟩
 match j,O with
 |0,_=>exact⟨_,rfl,z.lt,by rw[hG.add_zero];exact z.cell rfl⟩
 |1,_=>exact⟨_,rfl,z.lt,z.cell rfl⟩
 |2,_=>exact⟨_,rfl,z.lt,z.cell rfl⟩
 |3,_=>exact⟨_,rfl,z.lt,z.cell rfl⟩
theorem vt(w:World):Calls prog 6 #[] w fun e w'=>e= .returned (.bool true)∧Below w.heap.size w w':=by
 go_enter func6,ntmps6;go_wp2_with fail;refine(Hz _).mono ?_;rintro e aZ ⟨pu,X,rfl,aj,ak,al,am⟩;obtain⟨an,Y⟩:=hg (zl sP 1073741824 pu X.A X.n X.c sU sF aZ ak al am (by omega) (by decide) (by decide) (fun f ao=>by simp[sF]at ao;rcases ao with rfl|rfl<;>exact⟨by decide,by decide,by decide⟩)) aj;clear aj ak al am;go_wp2_with fail;refine an.mono ?_;rintro e a0 ⟨v,E,rfl,ap,J,K⟩;obtain rfl:E=0:=K Hg (by rw[zn];omega);obtain⟨_,_,g,O,me,ma,rfl,aq,Q⟩:=J rfl;rw[zn]at Q;have a1:w.heap.size≤g:=Nat.le_trans Y.size aq;have ar:O.n=2:=Q.lay.pu.1.symm;have au:me.n=2:=(Q.lay.me.len Mem.len (by omega)).symm.trans rfl;obtain⟨T,U,z,G⟩:=h5 (Hk 765 O me ma ar au) (Hm O me ma) (show(jS sP sU sF).us=500::[200]∧(jS sP sU sF).ds=[]∧(jS sP sU sF).du=[]∧(jf sP 1073741824 765 O me ma).ep=0∧(ju (jS sP sU sF).ms).sum=50 from⟨rfl,rfl,rfl,rfl,Hn⟩) Q;obtain⟨s,av⟩:=ho (jf sP 1073741824 765 O me ma);obtain⟨c,aw⟩:=ho (jS sP sU sF);rw[av]at T U z G;rw[aw]at T U z G;have ax:=g' (hJ Y.out ap);clear J K aq Q av aw ar au ap an Y;have ay:=g' (Hv g s c a0 G.out 500 [200] z.1);go_wp2_with fail;refine ay.mono ?_;rintro e az ⟨b,rfl,Z,a2,aA,aB⟩;obtain⟨aa,aC,ab,a3,a4⟩:=jg (G.below Z) (hJ ax.out Z) (And.intro aA aB) a1 (show b≠g from by have a':=G.box.lt;omega);clear Z a2 aA aB ay G ax;go_wp2_with fail;refine hE (Ht g s c az aa.out) ?_;have aD:=g' (zj g s c az aa.out ⟨by rw[z.2.2.1];exact h6,fun x aE=>by rw[z.2.2.1]at aE;cases aE⟩);go_wp2_with fail;refine aD.mono ?_;rintro e R ⟨ba,E,rfl,V,a5,bb,_,J,K⟩;obtain rfl:E=0:=K T.out z.2.1 z.2.2.1 U.out (by rw[z.2.2.2.1];omega);obtain⟨s',c',p,r,rfl,aF,_,_,ac⟩:=J rfl;obtain⟨aG,W,aH,aI⟩:=h5 (iC aC.out V a3.out aC.size) (show R.cell? ⟨b,0,none⟩=some (.int .u64 500)∧b<R.heap.size from⟨(V.cell ab.1 a4.out).trans ab.2,Nat.lt_of_lt_of_le ab.1 V.size⟩) aF (show p.act=50∧s'.ep=1 from⟨by rw[ac.qk];exact z.2.2.2.2,by rw[ac.ep,z.2.2.2.1];rfl⟩);clear J K ac aF V a5 aD T U z aa;go_upto_region 7 with(first|(refine jD rfl 49 (.tmp 7) (.tmp 29) rfl p.cs rfl rfl (lP _) rfl (nk _) ?_;intro F ad S a6))
 obtain⟨aJ,aK⟩:=hg (hJ aG.out S) (aH.below S);have aL:F.cell? ⟨b,0,none⟩=some (.int .u64 500):=(S.cell W.2).trans W.1;have aM:F.cell? ⟨R.heap.size,4,none⟩=some (.int .u64 50):=ad.cell (j:=4) (by show some (Value.int .u64 (p.act:Nat))=_;rw[aI.1];rfl);obtain⟨D,aN⟩:=ho (F.alloc (.cells #[.int .u64 500] 22));have I:Below F.heap.size F D:=by rw[←aN];exact hz.alloc hj _
 have ae:ha D F.heap.size 22 #[.int .u64 500]:=by rw[←aN];exact ha.new _ _ _ _ rfl
 have af:Wd [500]:=fun u a7=>by simp at a7;omega
 have ag:b<F.heap.size:=Nat.lt_of_lt_of_le W.2 S.size;obtain⟨aO,aP,aQ,aR⟩:=h5 (zV (some ⟨b,0,none⟩) (some ⟨F.heap.size,0,none⟩) 1 1 1 D.heap.size [500] D ⟨rfl,af,fun j ah=>by match j,ah with|0,_=>exact⟨_,rfl,Nat.lt_of_lt_of_le ag I.size,by rw[hG.add_zero];exact(I.cell ag).trans aL⟩⟩ ⟨rfl,af,fun j ah=>by match j,ah with|0,_=>exact⟨_,rfl,ae.lt,by rw[hG.add_zero];exact ae.cell rfl⟩⟩ (by omega)) ((I.cell (p:=⟨R.heap.size,4,none⟩) ad.lt).trans aM) (aK.below I) (hJ aJ.out I);clear ad S a6 aL aM I ae af ag aK aJ aH aG W;go_wp2_with fail;refine aO.mono ?_;rintro e aS ⟨rfl,q,rfl⟩;have ai:Below D.heap.size D (D.drewN q):=⟨rfl,rfl,rfl,hj,fun _ _=>rfl⟩;have aT:=g' (aQ.below ai);have a8:(D.drewN q).cell? ⟨R.heap.size,4,none⟩=some (.int .u64 50):=aP.out;have aU:=g' (hJ aR.out ai);clear ai aQ aR aP aO;obtain⟨aS,aV⟩:=ho (D.drewN q);rw[aV]at aT a8 aU⊢;clear aV;go_wp2_with fail;refine(q5 g s' c' aS aT.out).mono ?_;rintro e bc ⟨o,bd,rfl,aW,aX,_,_⟩;have aY:o.ep=1:=(n7 aX).2.2.2.2.2.2.1.trans aI.2;rw[show o.cs= #[.int .u64 o.p.inc,.int .u64 o.p.ix,.int .u64 o.p.floor,.int .u64 o.p.cap,.int .u64 o.p.up,.int .u64 o.p.down,.int .u64 o.p.ih,.int .u64 o.p.quot,.int .u64 o.p.iR,.int .u64 o.p.iS,.int .u64 o.p.recover,.int .u64 o.p.ig,.int .u64 o.p.iT,.int .u64 o.p.iU,.int .i64 o.p.iV,.int .i64 o.p.ic,.int .i64 o.p.iE,.int .i64 o.p.iN,.int .i64 o.p.iI,.int .i64 o.p.iy,.int .i64 o.p.wait,.int .i64 o.p.iW,.int .i64 o.p.iK,.int .i64 o.p.iO,.int .u64 o.hX,.int .u64 o.gen,.int .u64 o.hO,.int .u64 o.h7,.int .u64 o.hN,.int .i64 o.ep,.int .i64 o.calm,.bool o.em,.slice o.pu.A o.pu.n o.pu.c,.slice o.me.A o.me.n o.me.c,.slice o.en.A o.en.n o.en.c,.slice o.ex.A o.ex.n o.ex.c,.slice o.po.A o.po.n o.po.c,.slice o.du.A o.du.n o.du.c,.slice o.mo.A o.mo.n o.mo.c,.slice o.ma.A o.ma.n o.ma.c,.slice o.ri.A o.ri.n o.ri.c]from rfl,aY];have a9:=g' (hJ aU.out aW);clear aY aX aW;go_wp2_with (first|(refine Hw (by rfl) 46 (.tmp 53) 6 rfl (.int .i64 1) (fun w'=>by kernel_rfl) ?_));go_ret;exact⟨rfl,a9.out⟩
structure vu (w:World) (pu:Sl) (fA:Option Addr) (fn:Nat) (us:List Nat) (fs:List Fo) (hX:Nat) (A:Option Addr) (n:Nat) (xs:List jC):Prop where
 u:jk w w.heap.size pu.A pu.n us
 un:pu.A=none→pu.n=0∧pu.c=0
 f:hV w w.heap.size fA fn 2 (flat Fo.enc fs)
 m:hX<18446744073709551616
 fb:∀f∈fs,f.hD<18446744073709551616∧(-9223372036854775808≤f.own∧f.own<9223372036854775808)
 a:q6 w A n xs
 an:n≤9223372036854775807
structure LI (w:World) (gc:Array Value) (hX g k:Nat) (s:hA) (c:hl) (wr:World):Prop where
 below:Below w.heap.size w wr
 box:ha wr w.heap.size 28 gc
 nr:jx g s c wr
 gg:w.heap.size<g
 di:DI (512*k) s c
 mo:s.hX=hX
 ep:0≤s.ep∧s.ep≤k
theorem LI.to{s:hA}{c:hl}{wr w':World}(h:LI w Q n g k s c wr)(o:Below wr.heap.size wr w'):LI w Q n g k s c w':=
 ⟨hJ h.below o,h.box.to o,h.nr.below o,h.gg,h.di,h.mo,h.ep⟩
theorem DI.more{s:hA}{c:hl}(h:DI m s c)(o:m≤n):DI n s c:=⟨Nat.le_trans h.len o,h.dg⟩
theorem LI.next{s s':hA}{c c':hl}{wr w':World}(h:LI w Q n g k s c wr)(o:hn g wr w')(r:jx g s' c' w')(z:DI (512*(k+1)) s' c')(A:s'.hX=s.hX)(D:s'.ep=s.ep∨s'.ep=s.ep+1):LI w Q n g (k+1) s' c' w':=
 ⟨iC h.below o (Nat.le_of_lt h.gg) h.below.size,h.box.hT o (Nat.ne_of_lt h.gg),r,h.gg,z,A.trans h.mo,by have:=h.ep;omega⟩
theorem qZ.di{s s':hA}{c c':hl}{p:kJ}{r:Rc}(h:qZ s c s' c' p r)(o:DI n s c)(A: -1≤s.ep):DI (n+512) s' c':=
 ⟨Nat.le_trans h.dl (Nat.add_le_add_right o.len _),fun x z=>by have k:=h.dg x z;exact⟨k.am,k.ac,by have:=k.lo;omega,by have:=k.hi;have:=h.ep;omega⟩⟩
theorem vv(h:Q.size=14):(prog.info? 49).map (·.size)=some Q.size:=by rw[h];kernel_rfl
theorem oa(s:hA):∀(j:Nat) (v:Value),(s.p.cs.toList)[j]?=some v→s.cs[0+j]?=some v:=oz (M:=s.cs) 0 (by kernel_rfl)
open ChangeShapes WideShapes ChangeAt Deep
theorem zr{α:Type}(r:Nat→α→Prop):∀n:Nat,(∀i,i<n→∃a,r i a)→∃l:List α,l.length=n∧∀i a,l[i]?=some a→r i a
 |0,_=>⟨[],rfl,fun i a h=>by simp at h⟩
 |n+1,h=>by
  obtain⟨l,z,A⟩:=zr r n fun i D=>h i (by omega);obtain⟨a,E⟩:=h n (by omega);refine⟨l++[a],by simp[z],fun i b o=>?_⟩;by_cases D:i<n
  ·exact A i b (by rwa[List.getElem?_append_left (by omega)]at o)
  have F:=(jh.1 o).1;simp at F;obtain rfl:i=n:=by omega
  rw[List.getElem?_append_right (by omega),z,Nat.sub_self]at o;simp at o;exact o▸E
theorem HA{α:Type}{enc:α→List Value}{ds:List α}{w:World}(r:∀d,(enc d).length=n)(z:0<n)
 (h:∀i d,ds[i]?=some d→∃o,A=some o∧o.block<B∧∀j v,(enc d)[j]?=some v→w.cell? (o.add (i*n+j))=some v):hV w B A ds.length n (flat enc ds):=by
 refine⟨mh r ds,fun k J=>?_⟩;have D:k/n<ds.length:=(Nat.div_lt_iff_lt_mul z).2 J;obtain⟨o,K,O,Q⟩:=h (k/n) _ (List.getElem?_eq_getElem D);have E:=Nat.mod_lt k z;have e:k/n*n+k%n=k:=by rw[Nat.mul_comm];exact Nat.div_add_mod k n
 have F:(enc ds[k/n])[k%n]?=some ((enc ds[k/n])[k%n]'(by rw[r];exact E)):=List.getElem?_eq_getElem _;have G:=Q _ _ F;have I:=mJ r ds _ _ _ (List.getElem?_eq_getElem D) E;rw[e]at G I;refine⟨o,K,O,G.trans ?_⟩;unfold kN;rw[I,F];rfl
section
variable {H:Type} {enc:TypeId×Value→H} {P:Program} {w:World} {base:Nat} {spare:Nat→Bool} {held:Bool}
theorem vw{o:Array Field}{x:DataW H×List MemPlace}(z:P.underlying t=some (.struct o))(h:DataW.trod enc P w base spare held g t S=some x)(i:Nat)(f:Field)(r:o[i]?=some f):
 ∃n y,DataW.trod enc P w base spare held n f.type ((S.drop f.offset).take (P.cellsOf f.type))=some y:=by
 obtain⟨xs,n,_,_,_,A,D⟩:=DataW.trod_struct z h;have E:i<xs.length:=by rw[A];exact(Array.getElem?_eq_some_iff.1 r).1
 exact⟨n,_,(D i f r).trans (List.getElem?_eq_getElem E)⟩
theorem vx{o:Array Field}{x:DataW H×List MemPlace}(A:P.underlying t=some (.struct o))(h:DataW.trod enc P w base spare held g t S=some x)(i:Nat)(f:Field)(D:o[i]?=some f)(E:P.cellsOf f.type=1)(r:f.offset<S.length):
 ∃v n y,S[f.offset]?=some v∧DataW.trod enc P w base spare held n f.type [v]=some y:=by
 obtain⟨n,y,z⟩:=vw A h i f D;rw[E,List.drop_eq_getElem_cons r]at z;exact⟨_,n,y,List.getElem?_eq_getElem r,z⟩
theorem jF{o:Array Field}{x:DataW H×List MemPlace}{k:IntKind}(r:P.underlying t=some (.struct o))(h:DataW.trod enc P w base spare held g t S=some x)(i:Nat)(f:Field)(A:o[i]?=some f)(D:P.cellsOf f.type=1)(E:f.offset<S.length)
 (F:P.underlying f.type=some (.int k)):∃z,S[f.offset]?=some (.int k z)∧(Lit.int k z).wf=true:=by
 obtain⟨v,n,y,G,I⟩:=vx r h i f A D E;obtain⟨J,K⟩:=jz.Bk F I;exact⟨_,by rw[G,←J],K⟩
theorem HB{o:Array Field}{x:DataW H×List MemPlace}(r:P.underlying t=some (.struct o))(h:DataW.trod enc P w base spare held g t S=some x)(i:Nat)(f:Field)(z:o[i]?=some f)(A:P.cellsOf f.type=1)(D:f.offset<S.length)
 (E:P.underlying f.type=some .bool):∃b,S[f.offset]?=some (.bool b):=by
 obtain⟨v,n,y,F,G⟩:=vx r h i f z A D;exact⟨_,by rw[F,←jz.Bl E G]⟩
theorem r'{z:Array Field}{x:DataW H×List MemPlace}(E:P.underlying t=some (.struct z))(h:DataW.trod enc P w base spare held g t S=some x)(i:Nat)(f:Field)(F:z[i]?=some f)(G:P.cellsOf f.type=1)(I:f.offset<S.length)
 (J:P.underlying f.type=some (.slice e)):∃A n c d p,S[f.offset]?=some (.slice A n c)∧DataW.Trod enc P w base spare held f.type (.slice A n c) d p:=by
 obtain⟨v,n,y,D,r⟩:=vx E h i f F G I;rcases open_slice J r with⟨o,_⟩|⟨a,len,cap,_,_,_,_,o,_⟩
 ·injection o with o
  subst o;exact⟨none,0,0,y.1,y.2,D,n,r⟩
 injection o with o;subst o;exact⟨some a,len,cap,y.1,y.2,D,n,r⟩
theorem vy{α:Type}(r:α→List Value)(o:Nat)(F:α→Prop){d:DataW H}{p:List MemPlace}(X:P.underlying t=some (.slice e))(Y:P.cellsOf e=o)(Q:0<o)(G:∀a,(r a).length=o)
 (Z:∀(R:Nat) (I:List Value) y,DataW.trod enc P w base spare held R e I=some y→I.length=o→∃a,I=r a∧F a)
 (h:DataW.Trod enc P w base spare held t (.slice A n c) d p):n≤maxLen∧∃ds:List α,hV w w.heap.size A n o (flat r ds)∧∀d∈ds,F d:=by
 obtain⟨R,aa⟩:=h;have S:n≤maxLen∧∀i,i<n→∃a,F a∧∃J,A=some J∧J.block<w.heap.size∧∀j v,(r a)[j]?=some v→w.cell? (J.add (i*o+j))=some v:=by
  rcases open_slice X aa with⟨z,_⟩|⟨a,len,cap,m,k,D,ai,z,_,K,hm,ab,_,ac⟩
  ·simp[Value.cells]at z
   obtain⟨rfl,rfl,rfl⟩:=z;exact⟨h6,fun i E=>absurd E (by omega)⟩
  simp[Value.cells]at z;obtain⟨rfl,rfl,rfl⟩:=z;have aj:n≤m:=by rw[ab];split<;>omega
  refine⟨Nat.le_trans K hm,fun i E=>?_⟩;obtain⟨ak,T,ad⟩:=ac i (by omega);rw[Y]at T;obtain⟨_,ae,af⟩:=World.cells?_some T;obtain⟨x,rfl,ag⟩:=Z _ _ _ ad ae;have U:∀j v,(r x)[j]?=some v→w.cell? (a.add (i*o+j))=some v:=fun j v V=>by
   have ah:j<o:=by rw[←G x];exact(jh.1 V).1
   rw[←Go.Deep.add_add,af j ah,V]
  refine⟨x,ag,a,rfl,?_,U⟩;have:=block_lt_of_cell (U 0 _ (iB (by rw[G];exact Q)));rwa[hG.block_add]at this
 obtain⟨ds,K,W⟩:=zr _ n S.2;refine⟨S.1,ds,K▸HA G Q fun i d O=>(W i d O).2,fun d O=>?_⟩;obtain⟨i,E,rfl⟩:=List.getElem_of_mem O;exact(W i _ (List.getElem?_eq_getElem E)).1
theorem zt{x:DataW H×List MemPlace}(h:DataW.trod enc prog w base spare held n 24 S=some x):∃p:hx,S=p.cs.toList∧p.jE:=by
 have o:S.length=24:=by obtain⟨_,_,_,_,r,_⟩:=DataW.trod_struct hQ h;exact r.trans (by kernel_rfl)
 obtain⟨bg,z,A⟩:=jF hQ h 0 _ rfl (by kernel_rfl) (by rw[o];decide) ky;obtain⟨D,rfl,E⟩:=jz.kP A;obtain⟨bh,F,G⟩:=jF hQ h 1 _ rfl (by kernel_rfl) (by rw[o];decide) ky;obtain⟨I,rfl,J⟩:=jz.kP G;obtain⟨bi,K,O⟩:=jF hQ h 2 _ rfl (by kernel_rfl) (by rw[o];decide) ky;obtain⟨Q,rfl,R⟩:=jz.kP O;obtain⟨bj,T,U⟩:=jF hQ h 3 _ rfl (by kernel_rfl) (by rw[o];decide) ky;obtain⟨V,rfl,W⟩:=jz.kP U;obtain⟨bk,X,Y⟩:=jF hQ h 4 _ rfl (by kernel_rfl) (by rw[o];decide) ky;obtain⟨Z,rfl,aa⟩:=jz.kP Y;obtain⟨bl,ab,ac⟩:=jF hQ h 5 _ rfl (by kernel_rfl) (by rw[o];decide) ky;obtain⟨ad,rfl,ae⟩:=jz.kP ac;obtain⟨bm,af,ag⟩:=jF hQ h 6 _ rfl (by kernel_rfl) (by rw[o];decide) ky;obtain⟨ah,rfl,ai⟩:=jz.kP ag;obtain⟨bn,aj,ak⟩:=jF hQ h 7 _ rfl (by kernel_rfl) (by rw[o];decide) ky;obtain⟨al,rfl,am⟩:=jz.kP ak;obtain⟨bo,an,ao⟩:=jF hQ h 8 _ rfl (by kernel_rfl) (by rw[o];decide) ky;obtain⟨ap,rfl,aq⟩:=jz.kP ao;obtain⟨bp,ar,au⟩:=jF hQ h 9 _ rfl (by kernel_rfl) (by rw[o];decide) ky;obtain⟨av,rfl,aw⟩:=jz.kP au;obtain⟨bq,ax,ay⟩:=jF hQ h 10 _ rfl (by kernel_rfl) (by rw[o];decide) ky;obtain⟨az,rfl,aA⟩:=jz.kP ay;obtain⟨br,aB,aC⟩:=jF hQ h 11 _ rfl (by kernel_rfl) (by rw[o];decide) ky;obtain⟨aD,rfl,aE⟩:=jz.kP aC;obtain⟨bt,aF,aG⟩:=jF hQ h 12 _ rfl (by kernel_rfl) (by rw[o];decide) ky;obtain⟨aH,rfl,aI⟩:=jz.kP aG;obtain⟨bu,aJ,aK⟩:=jF hQ h 13 _ rfl (by kernel_rfl) (by rw[o];decide) ky;obtain⟨aL,rfl,aM⟩:=jz.kP aK;obtain⟨aN,aO,aP⟩:=jF hQ h 14 _ rfl (by kernel_rfl) (by rw[o];decide) j9;obtain⟨aQ,aR,aS⟩:=jF hQ h 15 _ rfl (by kernel_rfl) (by rw[o];decide) j9;obtain⟨aT,aU,aV⟩:=jF hQ h 16 _ rfl (by kernel_rfl) (by rw[o];decide) j9;obtain⟨aW,aX,aY⟩:=jF hQ h 17 _ rfl (by kernel_rfl) (by rw[o];decide) j9;obtain⟨aZ,a0,a1⟩:=jF hQ h 18 _ rfl (by kernel_rfl) (by rw[o];decide) j9;obtain⟨a2,a3,a4⟩:=jF hQ h 19 _ rfl (by kernel_rfl) (by rw[o];decide) j9;obtain⟨a5,a6,a7⟩:=jF hQ h 20 _ rfl (by kernel_rfl) (by rw[o];decide) j9;obtain⟨a8,a9,a'⟩:=jF hQ h 21 _ rfl (by kernel_rfl) (by rw[o];decide) j9;obtain⟨ba,bb,bc⟩:=jF hQ h 22 _ rfl (by kernel_rfl) (by rw[o];decide) j9;obtain⟨bd,be,bf⟩:=jF hQ h 23 _ rfl (by kernel_rfl) (by rw[o];decide) j9;refine⟨⟨D,I,Q,V,Z,ad,ah,al,ap,av,az,aD,aH,aL,aN,aQ,aT,aW,aZ,a2,a5,a8,ba,bd⟩,List.ext_getElem? fun j=>?_,⟨E,J,R,W,aa,ae,ai,am,aq,aw,aA,aE,aI,aM,jz.nz aP,jz.nz aS,jz.nz aV,jz.nz aY,jz.nz a1,jz.nz a4,jz.nz a7,jz.nz a',jz.nz bc,jz.nz bf⟩⟩;match j with
 |0=>exact z
 |1=>exact F
 |2=>exact K
 |3=>exact T
 |4=>exact X
 |5=>exact ab
 |6=>exact af
 |7=>exact aj
 |8=>exact an
 |9=>exact ar
 |10=>exact ax
 |11=>exact aB
 |12=>exact aF
 |13=>exact aJ
 |14=>exact aO
 |15=>exact aR
 |16=>exact aU
 |17=>exact aX
 |18=>exact a0
 |19=>exact a3
 |20=>exact a6
 |21=>exact a9
 |22=>exact bb
 |23=>exact be
 |j+24=>rw[List.getElem?_eq_none (by omega),List.getElem?_eq_none (by show 24≤j+24;omega)]
def zu(w:World)(d:DD):Prop:=d.p.jE∧d.am<18446744073709551616∧∃bs,hq.ie w w.heap.size d.bi.A d.bi.n bs
theorem HC{x:DataW H×List MemPlace}(h:DataW.trod enc prog w base spare held g 70 S=some x):∃d:DD,S=d.enc∧zu w d:=by
 have r:S.length=34:=by obtain⟨_,_,_,_,z,_⟩:=DataW.trod_struct ja h;exact z.trans (by kernel_rfl)
 obtain⟨D,E,an⟩:=jF ja h 0 _ rfl (by kernel_rfl) (by rw[r];decide) j9;obtain⟨F,G,ao⟩:=jF ja h 1 _ rfl (by kernel_rfl) (by rw[r];decide) j9;obtain⟨I,J,ap⟩:=jF ja h 2 _ rfl (by kernel_rfl) (by rw[r];decide) j9;obtain⟨K,O,aq⟩:=jF ja h 3 _ rfl (by kernel_rfl) (by rw[r];decide) j9;obtain⟨Q,R,ar⟩:=jF ja h 5 _ rfl (by kernel_rfl) (by rw[r];decide) j9;obtain⟨T,U,au⟩:=jF ja h 7 _ rfl (by kernel_rfl) (by rw[r];decide) j9;obtain⟨V,W,av⟩:=jF ja h 9 _ rfl (by kernel_rfl) (by rw[r];decide) j9;obtain⟨aw,X,Y⟩:=jF ja h 4 _ rfl (by kernel_rfl) (by rw[r];decide) ky;obtain⟨Z,rfl,aa⟩:=jz.kP Y;obtain⟨A,n,c,ax,ay,ab,ac⟩:=r' ja h 6 _ rfl (by kernel_rfl) (by rw[r];decide) lF;obtain⟨_,_,bs,ad,ae,af⟩:=jz.w7 lF underlying5 (by kernel_rfl) ac;obtain⟨b,ag⟩:=HB ja h 10 _ rfl (by kernel_rfl) (by rw[r];decide) kv;obtain⟨az,aA,ah⟩:=vw ja h 8 _ rfl;obtain⟨p,ai,aj⟩:=zt ah;have ak:prog.cellsOf 24=24:=by kernel_rfl
 have al:(S.drop 8).take 24=p.cs.toList:=by rw[←ai];show _=(S.drop 8).take (prog.cellsOf 24);rw[ak]
 have o:∀i,i<24→S[8+i]?=(p.cs.toList)[i]? :=fun i am=>by rw[←al,List.getElem?_take_of_lt am,List.getElem?_drop]
 refine⟨⟨D,F,I,K,Z,Q,⟨A,n,c⟩,T,p,V,b⟩,List.ext_getElem? fun j=>?_,aj,aa,bs,ad,ae,af⟩;match j with
 |0=>exact E
 |1=>exact G
 |2=>exact J
 |3=>exact O
 |4=>exact X
 |5=>exact R
 |6=>exact ab
 |7=>exact U
 |8=>exact o 0 (by omega)
 |9=>exact o 1 (by omega)
 |10=>exact o 2 (by omega)
 |11=>exact o 3 (by omega)
 |12=>exact o 4 (by omega)
 |13=>exact o 5 (by omega)
 |14=>exact o 6 (by omega)
 |15=>exact o 7 (by omega)
 |16=>exact o 8 (by omega)
 |17=>exact o 9 (by omega)
 |18=>exact o 10 (by omega)
 |19=>exact o 11 (by omega)
 |20=>exact o 12 (by omega)
 |21=>exact o 13 (by omega)
 |22=>exact o 14 (by omega)
 |23=>exact o 15 (by omega)
 |24=>exact o 16 (by omega)
 |25=>exact o 17 (by omega)
 |26=>exact o 18 (by omega)
 |27=>exact o 19 (by omega)
 |28=>exact o 20 (by omega)
 |29=>exact o 21 (by omega)
 |30=>exact o 22 (by omega)
 |31=>exact o 23 (by omega)
 |32=>exact W
 |33=>exact ag
 |j+34=>rw[List.getElem?_eq_none (by omega),List.getElem?_eq_none (by show 34≤j+34;omega)]
theorem HD{x:DataW H×List MemPlace}(h:DataW.trod enc prog w base spare held g 38 S=some x):∃a:jC,S=a.enc∧mH w w.heap.size a:=by
 have o:S.length=3:=by obtain⟨_,_,_,_,r,_⟩:=DataW.trod_struct nL h;exact r.trans (by kernel_rfl)
 obtain⟨z,D,W⟩:=jF nL h 0 _ rfl (by kernel_rfl) (by rw[o];decide) j9;obtain⟨A,n,c,X,Y,E,F⟩:=r' nL h 1 _ rfl (by kernel_rfl) (by rw[o];decide) underlying35;obtain⟨_,ds,G,I⟩:=vy DD.enc 34 (zu w) underlying35 (by kernel_rfl) (by omega) DD.len (fun _ _ _ h _=>HC h) F;obtain⟨J,K,O,Z,aa,Q,R⟩:=r' nL h 2 _ rfl (by kernel_rfl) (by rw[o];decide) lF;obtain⟨_,_,bs,T,U,V⟩:=jz.w7 lF underlying5 (by kernel_rfl) R;refine⟨⟨z,⟨A,n,c⟩,⟨J,K,O⟩,ds,bs⟩,List.ext_getElem? fun j=>?_,G,I,T,U,V⟩;match j with
 |0=>exact D
 |1=>exact E
 |2=>exact Q
 |j+3=>rw[List.getElem?_eq_none (by omega),List.getElem?_eq_none (by show 3≤j+3;omega)]
theorem HE{x:DataW H×List MemPlace}(h:DataW.trod enc prog w base spare held n 87 S=some x):∃f:Fo,S=f.enc∧(f.hD<18446744073709551616∧(-9223372036854775808≤f.own∧f.own<9223372036854775808)):=by
 have r:S.length=2:=by obtain⟨_,_,_,_,z,_⟩:=DataW.trod_struct tt h;exact z.trans (by kernel_rfl)
 obtain⟨o,A,D⟩:=jF tt h 0 _ rfl (by kernel_rfl) (by rw[r];decide) j9;obtain⟨J,E,F⟩:=jF tt h 1 _ rfl (by kernel_rfl) (by rw[r];decide) ky;obtain⟨G,rfl,I⟩:=jz.kP F;have K:=jz.nz D;refine⟨⟨o,G⟩,List.ext_getElem? fun j=>?_,I,by show-9223372036854775808≤o∧o<9223372036854775808;omega⟩;match j with
 |0=>exact A
 |1=>exact E
 |j+2=>rw[List.getElem?_eq_none (by omega),List.getElem?_eq_none (by show 2≤j+2;omega)]
theorem vz{r:Reach}{v:Value}{d:DataW H}{Q:List MemPlace}(S:Value.okWide prog w r b 28 v)(h:DataW.Trod enc prog w base spare held 28 v d Q):
 ∃(p:hx) (E:Nat) (pu:Sl) (F:Option Addr) (G J:Nat) (us:List Nat) (I:List Fo),v= .agg (je p E pu ⟨F,G,J⟩)∧jk w w.heap.size pu.A pu.n us∧(pu.A=none→pu.n=0∧pu.c=0)∧hV w w.heap.size F G 2 (flat Fo.enc I)∧E<18446744073709551616∧∀f∈I,f.hD<18446744073709551616∧(-9223372036854775808≤f.own∧f.own<9223372036854775808):=by
 obtain⟨z,rfl,K⟩:=okWide_struct np S;replace K:z.size=27:=K.trans (by kernel_rfl);obtain⟨T,D⟩:=h;have D:DataW.trod enc prog w base spare held T 28 z.toList=some (d,Q):=D;have O:z.toList.length=27:=by simpa using K
 obtain⟨al,U,V⟩:=jF np D 1 _ rfl (by kernel_rfl) (by rw[O];decide) ky;obtain⟨E,rfl,W⟩:=jz.kP V;obtain⟨A,n,c,am,an,X,R⟩:=r' np D 2 _ rfl (by kernel_rfl) (by rw[O];decide) kO;obtain⟨_,_,Y,_⟩:=jz.w4 kO (by kernel_rfl) R;obtain⟨_,_,us,Z,aa,ab⟩:=jz.Bj kO ky (by kernel_rfl) R;obtain⟨F,G,J,ao,ap,ac,ad⟩:=r' np D 3 _ rfl (by kernel_rfl) (by rw[O];decide) underlying26;obtain⟨_,I,ae,af⟩:=vy Fo.enc 2 (fun f=>f.hD<18446744073709551616∧(-9223372036854775808≤f.own∧f.own<9223372036854775808)) underlying26 (by kernel_rfl) (by omega) Fo.len (fun _ _ _ h _=>HE h) ad;obtain⟨aq,ar,ag⟩:=vw np D 0 _ rfl;obtain⟨p,ah,au⟩:=zt ag;have ai:prog.cellsOf 24=24:=by kernel_rfl
 have aj:(z.toList.drop 0).take 24=p.cs.toList:=by rw[←ah];show _=(z.toList.drop 0).take (prog.cellsOf 24);rw[ai]
 have o:∀i,i<24→z.toList[i]?=(p.cs.toList)[i]? :=fun i ak=>by rw[←aj,List.getElem?_take_of_lt ak,List.getElem?_drop,Nat.zero_add]
 refine⟨p,E,⟨A,n,c⟩,F,G,J,us,I,?_,⟨Z,aa,ab⟩,Y,ae,W,af⟩;refine congrArg Value.agg (Array.toList_inj.1 (List.ext_getElem? fun j=>?_));match j with
 |0=>exact o 0 (by omega)
 |1=>exact o 1 (by omega)
 |2=>exact o 2 (by omega)
 |3=>exact o 3 (by omega)
 |4=>exact o 4 (by omega)
 |5=>exact o 5 (by omega)
 |6=>exact o 6 (by omega)
 |7=>exact o 7 (by omega)
 |8=>exact o 8 (by omega)
 |9=>exact o 9 (by omega)
 |10=>exact o 10 (by omega)
 |11=>exact o 11 (by omega)
 |12=>exact o 12 (by omega)
 |13=>exact o 13 (by omega)
 |14=>exact o 14 (by omega)
 |15=>exact o 15 (by omega)
 |16=>exact o 16 (by omega)
 |17=>exact o 17 (by omega)
 |18=>exact o 18 (by omega)
 |19=>exact o 19 (by omega)
 |20=>exact o 20 (by omega)
 |21=>exact o 21 (by omega)
 |22=>exact o 22 (by omega)
 |23=>exact o 23 (by omega)
 |24=>exact U
 |25=>exact X
 |26=>exact ac
 |j+27=>rw[List.getElem?_eq_none (by omega),List.getElem?_eq_none (by show 27≤j+27;omega)]
theorem vA{d:DataW H}{p:List MemPlace}(h:DataW.Trod enc prog w base spare held 29 (.slice A n c) d p):n≤9223372036854775807∧∃xs,q6 w A n xs:=by
 obtain⟨o,xs,r,z⟩:=vy jC.enc 3 (mH w w.heap.size) tx (by kernel_rfl) (by omega) jC.len (fun _ _ _ h _=>HD h) h;exact⟨Nat.le_trans o (Nat.le_of_ble_eq_true rfl),xs,r,z⟩
end
theorem vB{s:Sl}(h:s.Ok):s.n≤9223372036854775807:=by
 rcases h with⟨_,h,_⟩|⟨_,_,o,r⟩
 ·omega
 exact Nat.le_trans (Nat.le_trans o r) (Nat.le_of_ble_eq_true rfl)
end hB
end Go.Proofs.YtffbipddbnkdjaaGreat
