/- What functions compute at any arguments, and plain facts: An engine in memory; An engine's is, State, Tick, Apply, and engine.New; An engine's Apply, and engine.New; Small; an act is done; an engine is made; who is among some and others. Conditions: those that each theorem names. -/
import Derived.Test.YtffbipddbnkdjaaGreatZ33
set_option maxRecDepth 100000
set_option maxHeartbeats 40000000
set_option linter.all false
open Go Go.Proofs.Tryz
open Go.Value(int)
open Go.IntKind(i64 u64)
variable{A T:Option Addr}{n g b L k B i x a m j q c p s r d h u N y:Nat}{E z:Int}{P:Program}{w W X Z:World}{e t:TypeId}{f:Nat→Value}{l:List Bool}{V U:Value}{Y:List Nat}{S:List Value}{R:List Int}{Q:Array Value}{O:List (List Nat)}{M:Bool}{K:Ending}{J:Addr}{I:Nat→Nat}{H:Option Nat}
namespace Go.Proofs.YtffbipddbnkdjaaGreat
namespace hB
open RowKit
open hG hf hC h0 hU
def qq(g:Nat):hr:=fun k=>if k=g then 10 else 0
theorem G4(g:Nat):qq g g=10:=if_pos rfl
theorem zg(h:k≠g):qq g k=0:=if_neg h
theorem tu(o:g<L)(h:iQ L k=0):qq g k=0:=zg fun e=>by rw[e,iQ,if_pos o]at h;cases h
theorem zh{κ o:hr}{p:Addr}{v:Value}(r:∀k,κ k=0→o k=0)(h:(hL κ w).cell? p=some v):(hL o w).cell? p=some v:=by
 obtain⟨z,A⟩:=rQ h;rw[p5 (r _ A)];exact z
theorem Rd.less{κ o:hr}(r:∀k,κ k=0→o k=0)(h:Rd (hL κ w) B A n f):Rd (hL o w) B A n f:=fun j z=>by
 obtain⟨D,e,E,F⟩:=h j z;exact⟨D,e,E,zh r F⟩
theorem jr.less{κ o:hr}(r:∀k,κ k=0→o k=0)(h:jr (hL κ w) B A n R):jr (hL o w) B A n R:=⟨h.1,Rd.less r h.2⟩
theorem Lay.less{κ A:hr}{s:hA}{c:hl}(o:∀k,κ k=0→A k=0)(h:Lay s c (hL κ w) B):Lay s c (hL A w) B:=
 ⟨⟨h.pu.1,h.pu.2.1,Rd.less o h.pu.2.2⟩,⟨h.me.1,Rd.less o h.me.2⟩,h.en.less o,h.ex.less o,⟨h.po.1,Rd.less o h.po.2⟩,⟨h.du.1,Rd.less o h.du.2⟩,⟨h.mo.1,Rd.less o h.mo.2⟩,
   fun m r=>⟨⟨(h.mv m r).ys.1,(h.mv m r).ys.2.1,Rd.less o (h.mv m r).ys.2.2⟩,⟨(h.mv m r).ns.1,(h.mv m r).ns.2.1,Rd.less o (h.mv m r).ns.2.2⟩,(h.mv m r).yo,(h.mv m r).no⟩,
   ⟨h.ma.1,h.ma.2.1,Rd.less o h.ma.2.2⟩,⟨h.ri.1,fun i D=>by
   obtain⟨E,F,G,e,I,J,z,K⟩:=h.ri.2 i D;exact⟨E,F,G,e,I,zh o J,⟨z.1,z.2.1,Rd.less o z.2.2⟩,K⟩⟩⟩
theorem kk.less{κ z:hr}{p:kJ}{r:Rc}(o:∀k,κ k=0→z k=0)(h:kk p r (hL κ w) B):kk p r (hL z w) B:=⟨h.ou.less o,h.le.less o,h.st.less o,h.dn.less o,h.oo,h.lo,h.so,h.q0⟩
theorem Lay.seen{κ:hr}{s:hA}{c:hl}(h:Lay s c (hL κ w) B):Lay s c w B:=
 ⟨uL h.pu,oO h.me,n4 h.en,n4 h.ex,oO h.po,oO h.du,oO h.mo,fun m o=>yn (h.mv m o),tb h.ma,yg h.ri⟩
theorem kk.seen{κ:hr}{p:kJ}{r:Rc}(h:kk p r (hL κ w) B):kk p r w B:=⟨n4 h.ou,n4 h.le,n4 h.st,n4 h.dn,h.oo,h.lo,h.so,h.q0⟩
theorem Rd.free{κ:hr}(r:∀k,k<B→κ k=0)(h:Rd w B A n f):Rd (hL κ w) B A n f:=fun j z=>by
 obtain⟨D,e,o,E⟩:=h j z;exact⟨D,e,o,(p5 (by first|exact r _ o|(rw[block_add];exact r _ o))).trans E⟩
theorem jr.free{κ:hr}(o:∀k,k<B→κ k=0)(h:jr w B A n R):jr (hL κ w) B A n R:=⟨h.1,Rd.free o h.2⟩
theorem Lay.free{κ:hr}{s:hA}{c:hl}(o:∀k,k<B→κ k=0)(h:Lay s c w B):Lay s c (hL κ w) B:=
 ⟨⟨h.pu.1,h.pu.2.1,Rd.free o h.pu.2.2⟩,⟨h.me.1,Rd.free o h.me.2⟩,h.en.free o,h.ex.free o,⟨h.po.1,Rd.free o h.po.2⟩,⟨h.du.1,Rd.free o h.du.2⟩,⟨h.mo.1,Rd.free o h.mo.2⟩,
   fun m r=>⟨⟨(h.mv m r).ys.1,(h.mv m r).ys.2.1,Rd.free o (h.mv m r).ys.2.2⟩,⟨(h.mv m r).ns.1,(h.mv m r).ns.2.1,Rd.free o (h.mv m r).ns.2.2⟩,(h.mv m r).yo,(h.mv m r).no⟩,
   ⟨h.ma.1,h.ma.2.1,Rd.free o h.ma.2.2⟩,⟨h.ri.1,fun i D=>by
   obtain⟨E,F,G,e,z,I,A,J⟩:=h.ri.2 i D;exact⟨E,F,G,e,z,(p5 (by first|exact o _ z|(rw[block_add];exact o _ z))).trans I,⟨A.1,A.2.1,Rd.free o A.2.2⟩,J⟩⟩⟩
theorem G5{s:hA}{c:hl}(h:Lay s c (hL (iQ L) w) w.heap.size)(o:Below w.heap.size w X)(r:w.heap.size≤W.heap.size):Lay s c (hL (qq W.heap.size) X) X.heap.size:=
 ((h.seen.below o).free (κ:=qq W.heap.size) fun k z=>zg (by omega)).more o.size
structure Kept (s:hA) (c:hl) (s':hA) (c':hl):Prop where
 p:s'.p=s.p
 hX:s'.hX=s.hX
 gen:s'.gen=s.gen
 hO:s'.hO=s.hO
 ep:s'.ep=s.ep
 em:s'.em=s.em
 du:c'.du=c.du
theorem Kept.refl(s:hA)(c:hl):Kept s c s c:=⟨rfl,rfl,rfl,rfl,rfl,rfl,rfl⟩
theorem Kept.di{s s':hA}{c c':hl}(h:Kept s c s' c')(d:DI n s c):DI n s' c':=⟨by rw[h.du];exact d.len,by rw[h.du,h.ep];exact d.dg⟩
def l7(s:hA):Array Value:=s.cs.push (.bool true)
instance{s:hA}:hf.jP (l7 s) fun o r=>(∀j,o.frozen? ⟨r,j,none⟩=false)∧o.cell? ⟨r,0,none⟩=some (.int .u64 s.p.inc)∧o.cell? ⟨r,1,none⟩=some (.int .u64 s.p.ix)∧o.cell? ⟨r,2,none⟩=some (.int .u64 s.p.floor)∧o.cell? ⟨r,3,none⟩=some (.int .u64 s.p.cap)∧o.cell? ⟨r,4,none⟩=some (.int .u64 s.p.up)∧o.cell? ⟨r,5,none⟩=some (.int .u64 s.p.down)∧o.cell? ⟨r,6,none⟩=some (.int .u64 s.p.ih)∧o.cell? ⟨r,7,none⟩=some (.int .u64 s.p.quot)∧o.cell? ⟨r,8,none⟩=some (.int .u64 s.p.iR)∧o.cell? ⟨r,9,none⟩=some (.int .u64 s.p.iS)∧o.cell? ⟨r,10,none⟩=some (.int .u64 s.p.recover)∧o.cell? ⟨r,11,none⟩=some (.int .u64 s.p.ig)∧o.cell? ⟨r,12,none⟩=some (.int .u64 s.p.iT)∧o.cell? ⟨r,13,none⟩=some (.int .u64 s.p.iU)∧o.cell? ⟨r,14,none⟩=some (.int .i64 s.p.iV)∧o.cell? ⟨r,15,none⟩=some (.int .i64 s.p.ic)∧o.cell? ⟨r,16,none⟩=some (.int .i64 s.p.iE)∧o.cell? ⟨r,17,none⟩=some (.int .i64 s.p.iN)∧o.cell? ⟨r,18,none⟩=some (.int .i64 s.p.iI)∧o.cell? ⟨r,19,none⟩=some (.int .i64 s.p.iy)∧o.cell? ⟨r,20,none⟩=some (.int .i64 s.p.wait)∧o.cell? ⟨r,21,none⟩=some (.int .i64 s.p.iW)∧o.cell? ⟨r,22,none⟩=some (.int .i64 s.p.iK)∧o.cell? ⟨r,23,none⟩=some (.int .i64 s.p.iO)∧o.cell? ⟨r,24,none⟩=some (.int .u64 s.hX)∧o.cell? ⟨r,25,none⟩=some (.int .u64 s.gen)∧o.cell? ⟨r,26,none⟩=some (.int .u64 s.hO)∧o.cell? ⟨r,27,none⟩=some (.int .u64 s.h7)∧o.cell? ⟨r,28,none⟩=some (.int .u64 s.hN)∧o.cell? ⟨r,29,none⟩=some (.int .i64 s.ep)∧o.cell? ⟨r,30,none⟩=some (.int .i64 s.calm)∧o.cell? ⟨r,31,none⟩=some (.bool s.em)∧o.cell? ⟨r,32,none⟩=some (.slice s.pu.A s.pu.n s.pu.c)∧o.cell? ⟨r,33,none⟩=some (.slice s.me.A s.me.n s.me.c)∧o.cell? ⟨r,34,none⟩=some (.slice s.en.A s.en.n s.en.c)∧o.cell? ⟨r,35,none⟩=some (.slice s.ex.A s.ex.n s.ex.c)∧o.cell? ⟨r,36,none⟩=some (.slice s.po.A s.po.n s.po.c)∧o.cell? ⟨r,37,none⟩=some (.slice s.du.A s.du.n s.du.c)∧o.cell? ⟨r,38,none⟩=some (.slice s.mo.A s.mo.n s.mo.c)∧o.cell? ⟨r,39,none⟩=some (.slice s.ma.A s.ma.n s.ma.c)∧o.cell? ⟨r,40,none⟩=some (.slice s.ri.A s.ri.n s.ri.c)∧o.cell? ⟨r,41,none⟩=some (.bool true):=⟨fun h=>⟨h.frozen,h.cell (j:=0) rfl,h.cell (j:=1) rfl,h.cell (j:=2) rfl,h.cell (j:=3) rfl,h.cell (j:=4) rfl,h.cell (j:=5) rfl,h.cell (j:=6) rfl,h.cell (j:=7) rfl,h.cell (j:=8) rfl,h.cell (j:=9) rfl,h.cell (j:=10) rfl,h.cell (j:=11) rfl,h.cell (j:=12) rfl,h.cell (j:=13) rfl,h.cell (j:=14) rfl,h.cell (j:=15) rfl,h.cell (j:=16) rfl,h.cell (j:=17) rfl,h.cell (j:=18) rfl,h.cell (j:=19) rfl,h.cell (j:=20) rfl,h.cell (j:=21) rfl,h.cell (j:=22) rfl,h.cell (j:=23) rfl,h.cell (j:=24) rfl,h.cell (j:=25) rfl,h.cell (j:=26) rfl,h.cell (j:=27) rfl,h.cell (j:=28) rfl,h.cell (j:=29) rfl,h.cell (j:=30) rfl,h.cell (j:=31) rfl,h.cell (j:=32) rfl,h.cell (j:=33) rfl,h.cell (j:=34) rfl,h.cell (j:=35) rfl,h.cell (j:=36) rfl,h.cell (j:=37) rfl,h.cell (j:=38) rfl,h.cell (j:=39) rfl,h.cell (j:=40) rfl,h.cell (j:=41) rfl⟩⟩
theorem G6(s:hA):∀(j:Nat) (v:Value),(s.cs.toList)[j]?=some v→(l7 s)[0+j]?=some v:=oz (M:=l7 s) 0 (by kernel_rfl)
theorem zi(s s':hA):hf.splice (l7 s) 0 s'.cs.toList=l7 s':=by kernel_rfl
structure jx (g:Nat) (s:hA) (c:hl) (w:World):Prop where
 box:ha w g 75 (l7 s)
 lay:Lay s c (hL (qq g) w) w.heap.size
 ok:s.Ok
 iq:jE s c
 nj:nJ s c
theorem jx.below{s:hA}{c:hl}{w':World}(h:jx g s c w)(o:Below w.heap.size w w'):jx g s c w':=
 ⟨h.box.to o,(h.lay.below (oY o)).more o.size,h.ok,h.iq,h.nj⟩
theorem jx.seen{s:hA}{c:hl}(h:jx g s c w):Lay s c w w.heap.size:=h.lay.seen
theorem jx.range{s:hA}{c:hl}(h:jx g s c w):w.rangeAt g 0 s.cs.toList:=fun j v o=>h.box.cell (G6 s j v o)
theorem jx.old{s:hA}{c:hl}{w':World}(h:jx g s c w)(o:hn g w w')(r:ha w' g 75 (l7 s)):jx g s c w':=
 ⟨r,(h.lay.below (mF o (by rw[G4];decide))).more o.size,h.ok,h.iq,h.nj⟩
theorem jx.fresh{s:hA}{c:hl}{w':World}(h:jx g s c w)(r:Lay s c (hL (iQ L) w) w.heap.size)(o:hn q w w')(z:q<L)(A:g<L)(D:g≠q):jx g s c w'∧Lay s c (hL (iQ L) w') w'.heap.size:=by
 have k:=(r.below (mF o (nn z))).more o.size;exact⟨⟨h.box.hT o D,k.less fun k=>tu A,h.ok,h.iq,h.nj⟩,k⟩
theorem kk.fresh{p:kJ}{r:Rc}{w':World}(z:kk p r (hL (iQ L) w) w.heap.size)(o:hn q w w')(A:q<L):kk p r (hL (iQ L) w') w'.heap.size:=
 (z.below (mF o (nn A))).more o.size
theorem jx.store{s s':hA}{c':hl}(z:Q=s'.cs)(A:g<L)(G:ha W g 75 (l7 s))(I:Lay s' c' (hL (iQ L) w) w.heap.size)(o:Below w.heap.size w W)(J:s'.Ok)(K:jE s' c')(O:nJ s' c')(D:X=W.setCells g 0 Q.toList):jx g s' c' X∧hn g W X∧Lay s' c' (hL (iQ L) X) X.heap.size:=by
 have r:hn g W X:=by rw[D];exact hn.setCells _ 0 W (hn.refl g W)
 have E:=ha.setCells Q.toList 0 _ _ G;rw[z,zi,←z,←D]at E;have q:=(oY (κ:=iQ L) o).trans ((mF r (nn A)).mono o.size);have F:=(I.below q).more (Nat.le_trans o.size r.size);exact⟨⟨E,F.less fun k=>tu A,J,K,O⟩,r,F⟩
theorem jx.G7{s s':hA}{c':hl}{p:kJ}{r:Rc}(G:Q=s'.cs)(D:g<L)(R:q<L)(S:g≠q)(T:ha W g 75 (l7 s))(I:Lay s' c' (hL (iQ L) w) w.heap.size)(J:kk p r (hL (iQ L) w) w.heap.size)(o:Below w.heap.size w W)(U:s'.Ok)(V:jE s' c')(Y:nJ s' c')(K:X=W.setCells g 0 Q.toList)(E:hn q X Z):jx g s' c' Z∧kk p r (hL (qq g) Z) Z.heap.size∧Lay s' c' (hL (iQ L) Z) Z.heap.size∧kk p r (hL (iQ L) Z) Z.heap.size:=by
 have F:hn g W X:=by rw[K];exact hn.setCells _ 0 W (hn.refl g W)
 have O:=ha.setCells Q.toList 0 _ _ T;rw[G,zi,←G,←K]at O;have z:=((oY (κ:=iQ L) o).trans ((mF F (nn D)).mono o.size)).trans ((mF E (nn R)).mono (Nat.le_trans o.size F.size));have A:w.heap.size≤Z.heap.size:=Nat.le_trans o.size (Nat.le_trans F.size E.size);exact⟨⟨O.hT E S,((I.below z).more A).less fun k=>tu D,U,V,Y⟩,((J.below z).more A).less fun k=>tu D,(I.below z).more A,(J.below z).more A⟩
theorem G8{s s':hA}{c c':hl}{w':World}{B':Nat}(G:FG s c)(o:HI s c 64 s' c')(A:Lay s c w B)(r:Lay s' c' w' B')(z:jE s c)(F:nJ s c):jE s' c'∧nJ s' c'∧Kept s c s' c':=by
 have R:c.du.length=s.du.n:=A.du.len Du.len (by omega);have I:c'.du.length=s'.du.n:=r.du.len Du.len (by omega);have S:c'.ms.length=s'.me.n:=r.me.len Mem.len (by omega);have T:c'.ds.length=s'.po.n:=r.po.len h'.len (by omega);have U:c'.mo.length=s'.mo.n:=r.mo.len hp.len (by omega);have V:=r.pu.1;have W:=r.ma.1;have J:=r.ri.1;have X:=A.ri.1;have K:=r.en.1;have Y:=A.en.1;have Z:=r.ex.1;have aa:=o.us;have ab:=o.ml;have ac:=G.us;have ad:=G.ml;have ae:=o.dl;have af:=o.xl;have ag:=o.kT;have ah:=o.mm;have ai:=z.s9;have aj:=F.en;have D:=o.rs;have O:=o.es;have E:=o.du;rw[D]at J;rw[O]at K;rw[E]at I;exact⟨⟨by rw[o.hX];exact z.hX,by rw[o.gen];exact z.gen,by rw[o.hO];exact z.hO,by rw[o.h7];exact z.h7,o.hN,o.ms,o.ds,by rw[E];exact z.du,by rw[E];exact z.di,fun m Q=>(o.mo m Q).1,fun i A=>by rw[D];exact z.rs i (by omega),by omega,by omega,by omega,by omega,by omega,by omega⟩,
  ⟨by omega,by omega,by rw[D];exact F.rn,by rw[D];exact F.rp⟩,⟨o.p,o.hX,o.gen,o.hO,o.ep,o.em,E⟩⟩
theorem G9{p:hx}{us:List Nat}{o:List Fo}{pu me ma:Sl}(z:ts L (jf p g b pu me ma) (jS p us o) w)(A:kM p g us o=true)(F:b<18446744073709551616)(O:us.length≤100)(Q:o.length≤200)(G:∀f∈o,f.hD<18446744073709551616∧(-9223372036854775808≤f.own∧f.own<9223372036854775808)):jE (jf p g b pu me ma) (jS p us o)∧nJ (jf p g b pu me ma) (jS p us o):=by
 have R:us.length=pu.n:=z.lay.pu.1;have I:(o.map (kL p)).length=me.n:=z.lay.me.len Mem.len (by omega);have S:hq.ij.length=ma.n:=z.lay.ma.1;have T:hq.ij.length=16:=rfl;rw[List.length_map]at I;unfold kM at A;simp only[Bool.and_eq_true,decide_eq_true_eq]at A;obtain⟨U,V,_,_,_⟩:=A;exact⟨⟨by show g<_;omega,F,by show(0:Nat)<_;omega,by show(0:Nat)<_;omega,by show(0:Nat)<_;omega,fun m J=>by
  obtain⟨f,K,rfl⟩:=List.mem_map.1 J;have D:=G f K;exact⟨D.1,AR p f.hD D.1,by show(0:Nat)<_;omega,by show-9223372036854775808≤(0:Int)∧(0:Int)<9223372036854775808;omega,D.2,by show-9223372036854775808≤(2:Int)∧(2:Int)<9223372036854775808;omega⟩,
  fun d r=>(by cases r),fun d r=>(by cases r),fun d r=>(by cases r),fun d r=>(by cases r),fun i E=>absurd E (by show¬i<0;omega),by show pu.n≤_;omega,by show me.n≤_;omega,by show(0:Nat)≤_;omega,by show(0:Nat)≤_;omega,by show(0:Nat)≤_;omega,by show ma.n≤_;omega⟩,
  ⟨by show(0:Nat)≤_;omega,by show(0:Nat)≤_;omega,by show(0:Nat)≤_;omega,fun i E=>absurd E (by show¬i<0;omega)⟩⟩
theorem r9(g:Nat)(s:hA)(w:World)(h:ha w g 75 (l7 s)):
 Calls prog 19 #[.pointer (some ⟨g,0,none⟩)] w fun e w'=>e= .returned (.bool true)∧w=w':=by
 have o:=h.all;go_enter func19,ntmps19;go_wp2;go_ret;exact⟨rfl,rfl⟩
def G'(s:hA)(c:hl)(w:World)(e:Ending)(w':World):Prop:=∃o mo,e= .returned (.agg o.cs)∧Below w.heap.size w w'∧qn s o∧k0 c.mo mo∧ts w.heap.size o {c with mo:=mo} w'
theorem q5(g:Nat)(s:hA)(c:hl)(w:World)(h:jx g s c w):
 Calls prog 9 #[.pointer (some ⟨g,0,none⟩)] w (G' s c w):=by
 obtain⟨z,G,I,J⟩:=iF w hC.h4 46;have K:Hid (w.alloc (.cells #[.int .u64 0,.int .u64 0,.int .u64 0,.int .u64 0,.int .u64 0,.int .u64 0,.int .u64 0,.int .u64 0,.int .u64 0,.int .u64 0,.int .u64 0,.int .u64 0,.int .u64 0,.int .u64 0,.int .i64 0,.int .i64 0,.int .i64 0,.int .i64 0,.int .i64 0,.int .i64 0,.int .i64 0,.int .i64 0,.int .i64 0,.int .i64 0,.int .u64 0,.int .u64 0,.int .u64 0,.int .u64 0,.int .u64 0,.int .i64 0,.int .i64 0,.bool false,.slice none 0 0,.slice none 0 0,.slice none 0 0,.slice none 0 0,.slice none 0 0,.slice none 0 0,.slice none 0 0,.slice none 0 0,.slice none 0 0] 46)=z):=g' G;obtain⟨A,D⟩:=hg I J;clear G I J;have o:=g' (h.below A);obtain⟨R,S,T⟩:=hs (r9 g s z o.box) (rh s c z o.seen o.ok o.iq o.nj) o.range;clear h;go_enter func9,ntmps9;go_upto_region 1 with(fail)
 rw[K.out];clear K;go_wp2_with fail;refine R.mono ?_;rintro e w' ⟨rfl,rfl⟩;go_wp2_with (first|(refine wpList_load_mid rfl 46 (.tmp 10) rfl g 0 rfl s.cs.toList _ T iX rfl (by kernel_rfl) ?_)|fail);refine S.mono ?_;rintro e O ⟨κ,r,U,rfl,Q,E,V,W⟩;have X:=D.to E;go_wp2_with (first|(refine iL rfl 46 (.tmp 2) (.tmp 12) rfl w.heap.size r.cs rfl rfl 46 _ X (j4 r) rfl (ln r) ?_;intro Y Z F)|fail);have aa:=Q.lay;have ab:Below O.heap.size (hL (iQ z.heap.size) O) (hL (iQ z.heap.size) Y):=mF F (nn (by have:=D.lt;omega));have ac:=Lay.low (L:=w.heap.size) (fun k ad=>vl (by have:=D.lt;omega) ad) ((aa.below ab).more F.size);exact bodyPost_ret (v:= .agg r.cs) (l9 results9 _ _ _ _ _ _ rfl Z iX rfl (j4 r)) rfl ⟨r,U,rfl,iC (A.trans (E.mono A.size)) F hj (Nat.le_trans A.size E.size),V,W,⟨ac,Q.F5⟩⟩
def Ha(g:Nat)(s:hA)(c:hl)(w:World)(e:Ending)(w':World):Prop:=∃(o:Array Value) (E:Int),e= .returned (.tuple #[.agg o,.int .i64 E])∧hn g w w'∧o.size=14∧o.all (·.oneCell')=true∧(E≠0→jx g s c w')∧(E=0→∃s' c' p r,o=p.cs∧jx g s' c' w'∧Lay s' c' (hL (iQ (w.heap.size+1)) w') w'.heap.size∧kk p r (hL (iQ (w.heap.size+1)) w') w'.heap.size∧qZ s c s' c' p r)∧(mZ s c=true→c.ds=[]→c.du=[]→mB s c=true→s.ep<1073741824→E=0)
theorem zj(g:Nat)(s:hA)(c:hl)(w:World)(h:jx g s c w)(al:DI 60000 s c):
 Calls prog 16 #[.pointer (some ⟨g,0,none⟩)] w (Ha g s c w):=by
 obtain⟨O,Z,am,an⟩:=iF w jR.cs 49;have ao:Hid (w.alloc (.cells #[.int .i64 0,.int .i64 0,.bool false,.int .u64 0,.int .u64 0,.int .u64 0,.int .u64 0,.int .u64 0,.int .u64 0,.int .u64 0,.slice none 0 0,.slice none 0 0,.slice none 0 0,.slice none 0 0] 49)=O):=g' Z;obtain⟨z,ap,aq⟩:=hs am an (show w.heap.size+1=O.heap.size by rw[←Z];simp);clear Z am an;obtain⟨A,aR⟩:=hg (h.below z.out) h;obtain⟨aS,aT,aU,Q⟩:=h5 (r9 g s O A.box) (Gi s c O A.seen A.ok A.iq A.nj al) A.range h.box.lt;clear h al;go_enter func16,ntmps16;go_upto_region 1 with(fail)
 rw[ao.out];clear ao;go_wp2_with fail;refine aS.mono ?_;rintro e w' ⟨rfl,rfl⟩;go_wp2_with (first|(refine wpList_load_mid rfl 46 (.tmp 15) rfl g 0 rfl s.cs.toList _ aU.out iX rfl (by kernel_rfl) ?_)|fail);refine aT.mono ?_;rintro e o ⟨a8,a9,E,rfl,ar,⟨I,F,rfl,rfl,aa,ab,au,av⟩,aw,ax⟩;obtain⟨aV,aW,D⟩:=hs aw ax ar;have ay:(prog.info? 46).map (·.size)=some I.size:=by rw[aa];kernel_rfl
 have az:(prog.info? 49).map (·.size)=some F.size:=by rw[ab];kernel_rfl
 obtain⟨ac,R,aA,ad,ae,aB⟩:=ku ay az au av ab aa;have aC:Below o.heap.size o ((o.alloc (.cells hC.h4 46)).alloc (.cells jR.cs 49)):=(hz.alloc hj _).alloc (by simp) _;have aD:ha ((o.alloc (.cells hC.h4 46)).alloc (.cells jR.cs 49)) o.heap.size 46 hC.h4:=(ha.new o _ _ _ rfl).alloc _;have aE:ha ((o.alloc (.cells hC.h4 46)).alloc (.cells jR.cs 49)) (o.heap.size+1) 49 jR.cs:=ha.new _ _ _ _ (by simp);have S:=g' aC;clear aw ax ar ay az aa ab au av aC;go_upto_region 4 with(first|(refine iL rfl 46 (.tmp 4) (.tmp 18) rfl o.heap.size I rfl rfl 46 _ aD ac.out aB.symm aA.out ?_;intro a' aF T;have aG:=aE.hT T (by omega))|(refine iL rfl 49 (.tmp 5) (.tmp 19) rfl (o.heap.size+1) F rfl rfl 49 _ aG R.out ae.symm ad.out ?_;intro J aH af))
 have U:Below o.heap.size o J:=iC (iC S.out T hj S.size) af (Nat.le_succ _) (Nat.le_trans S.size T.size);obtain⟨ag,aX,aY,aI,aJ⟩:=jg U (aF.hT af (by omega)) aH ((ap.to D.out).to U) ((A.below D.out).below U);clear U T af aF aH aD aE aG S;by_cases K:E=0
 ·obtain⟨s',c',p,r,V⟩:=aV.out K
  have G:=g' V;subst K;have aK:I=s'.cs:=by have:=V.v1;injection this
  have aL:F=p.cs:=by have:=V.v2;injection this
  obtain⟨aZ,a0⟩:=hg aK aL;clear V aK aL;have aM:=aX.out;have aN:=aJ.box.there 0 41 (by show 0+41≤42;omega);go_upto_region 7 with(first|(refine hR aM iX ac.out rfl rfl rfl rfl ?_)|(refine wpList_store_mid rfl 46 (.tmp 29) (.tmp 26) rfl g 0 I rfl rfl (by rw[aB.out];exact aN) ac.out aA.out ?_;obtain⟨a1,ah⟩:=ho (J.setCells g 0 I.toList);have aO:=g' ah.symm;rw[ah];clear ah))
  have W:hn g J a1:=by rw[aO.out];exact hn.setCells _ 0 J (hn.refl g J)
  have a2:=g' W;have a3:=aY.hT W (by have aP:=Q.out;have ba:=z.size;have bb:=D.size;omega);have ai:=aI.hT W (by have aP:=Q.out;omega);clear W aM aN;go_wp2_with (first|(refine hR a3 l6 R.out rfl rfl rfl rfl ?_)|(refine iL rfl 49 (.tmp 2) (.tmp 30) rfl w.heap.size F rfl rfl 49 _ ai R.out ae.symm ad.out ?_;intro aj ak X));obtain⟨a4,_,a5,a6⟩:=jx.G7 aZ.out (Nat.lt_of_lt_of_le Q.out z.size) ap.lt (by have aP:=Q.out;omega) aJ.box G.lay G.rep ag.out G.ok G.iq G.nj aO.out X;have Y:hn g w aj:=n0 (hn.trans' (hn.jJ (z.trans ((D.mono z.size).trans (ag.mono (Nat.le_trans z.size D.size))))) a2.out) X hj;exact bodyPost_ret (v:= .tuple #[.agg F,.int .i64 0]) (jy results16 _ _ _ _ _ _ _ rfl rfl ak l6 rfl R.out) rfl ⟨F,0,rfl,Y,ae.out,ad.out,fun e=>absurd rfl e,fun _=>⟨s',c',p,r,a0.out,a4,by rw[aq.out];exact a5,by rw[aq.out];exact a6,G.law⟩,fun _ _ _ _ _=>rfl⟩
 have bc:(E !=0)=true:=by simp[K]
 have a7:=g' K;clear K;have ai:=aI.out;go_wp2_with (first|refine wpList_build rfl 49 #[] rfl (.agg jR.cs) (fun w'=>by kernel_rfl) ?_|(refine iL rfl 49 (.tmp 2) (.tmp 23) rfl w.heap.size jR.cs rfl rfl 49 _ ai (lP _) rfl (nk _) ?_;intro aj ak X));have Y:=z.trans ((D.mono z.size).trans (ag.mono (Nat.le_trans z.size D.size)));have aQ:Below w.heap.size w aj:=iC Y X hj Y.size;exact bodyPost_ret (v:= .tuple #[.agg jR.cs,.int .i64 E]) (jy results16 _ _ _ _ _ _ _ rfl rfl ak l6 rfl (lP _)) rfl ⟨jR.cs,E,rfl,hn.jJ aQ,rfl,nk _,fun _=>aR.below aQ,fun e=>absurd e a7.out,aW.out⟩
def Hb(g:Nat)(s:hA)(c:hl)(w:World)(e:Ending)(w':World):Prop:=∃(i E:Int),e= .returned (.tuple #[.int .i64 i,.int .i64 E])∧hn g w w'∧∃s' c',jx g s' c' w'∧Kept s c s' c'∧((s'=s∧c'=c)∨Lay s' c' (hL (iQ w.heap.size) w') w'.heap.size)
theorem zk(g:Nat)(s:hA)(c:hl)(A:Option Addr)(n U:Nat)(bs:List Nat)(w:World)(h:jx g s c w)(V:hq.ie w w.heap.size A n bs)(W:n≤1000000):
 Calls prog 21 #[.pointer (some ⟨g,0,none⟩),.slice A n U] w (Hb g s c w):=by
 obtain⟨F,ao,ap,aq,ar⟩:=jg h (r9 g s w h.box) (GZ s c A n U bs w h.seen h.ok h.iq h.nj V W) h.range h.box.lt;clear h V W;go_enter func21,ntmps21;go_wp2_with fail;refine ao.mono ?_;rintro e w' ⟨rfl,rfl⟩;go_wp2_with (first|(refine wpList_load_mid rfl 46 (.tmp 14) rfl g 0 rfl s.cs.toList _ aq iX rfl (by kernel_rfl) ?_)|fail);refine ap.mono ?_;rintro e o ⟨G,au,E,rfl,X,I,Y,Z⟩;obtain⟨av,z⟩:=hg Z X;have aa:(prog.info? 46).map (·.size)=some G.size:=by rw[I];kernel_rfl
 obtain⟨J,ab,ac⟩:=hs aa Y I;have ad:Below o.heap.size o (o.alloc (.cells hC.h4 46)):=hz.alloc hj _;have ae:ha (o.alloc (.cells hC.h4 46)) o.heap.size 46 hC.h4:=ha.new o _ _ _ rfl;have K:=g' ad;clear Z X aa I Y ad;go_upto_region 4 with(first|(refine iL rfl 46 (.tmp 6) (.tmp 18) rfl o.heap.size G rfl rfl 46 _ ae J ac.symm ab ?_;intro af ag ah))
 have O:Below o.heap.size o af:=iC K ah hj K.size;obtain⟨Q,aw,R⟩:=hs O ag ((F.below z).below O);clear O ah ag ae K;by_cases D:E=0
 ·obtain⟨s',c',r⟩:=av D
  obtain⟨ai,ax,S⟩:=hs r r.v (G8 r.fg r.hi F.seen r.lay F.iq F.nj);have ay:(E !=0)=false:=by simp[D]
  clear D r;have aj:=aw.out;have ak:=R.box.there 0 41 (by show 0+41≤42;omega);go_upto_region 7 with(first|(refine hR aj iX J rfl rfl rfl rfl ?_)|(refine wpList_store_mid rfl 46 (.tmp 29) (.tmp 26) rfl g 0 G rfl rfl (by rw[ac.out];exact ak) J ab ?_;obtain⟨aD,T⟩:=ho (af.setCells g 0 G.toList);have az:=g' T.symm;rw[T];clear T))
  obtain⟨al,am,an⟩:=jx.store ax ar R.box ai.lay Q ai.ok S.1 S.2.1 az;obtain⟨aA,aB,aC⟩:=hs al am an;clear al am an aj ak;go_wp2;go_ret2;exact⟨0,0,rfl,hn.trans' (hn.jJ (z.trans (Q.mono z.size))) aB,s',c',aA,S.2.2,.inr aC⟩
 have ay:(E !=0)=true:=by simp[D]
 clear D;go_wp2;go_ret2;exact⟨au,E,rfl,hn.jJ (z.trans (Q.mono z.size)),s,c,R,.refl s c,.inl ⟨rfl,rfl⟩⟩
def Hc(p:hx)(r:Nat)(us:List Nat)(o:List Fo)(w:World)(e:Ending)(w':World):Prop:=∃(v:Value) (E:Int),e= .returned (.tuple #[v,.int .i64 E])∧Below w.heap.size w w'∧
 (E=0→kM p r us o=true∧iH (us++o.map Fo.hD)≤r∧∃g pu me ma,v= .pointer (some ⟨g,0,none⟩)∧w.heap.size≤g∧jx g (jf p r (iH (us++o.map Fo.hD)) pu me ma) (jS p us o) w')∧
 (kM p r us o=true→iH (us++o.map Fo.hD)≤r→E=0)
theorem zl(p:hx)(D:Nat)(pu:Sl)(I:Option Addr)(J K:Nat)(us:List Nat)(z:List Fo)(w:World)(O:jk w w.heap.size pu.A pu.n us)(aj:pu.A=none→pu.n=0∧pu.c=0)(ak:hV w w.heap.size I J 2 (flat Fo.enc z))(S:D<18446744073709551616)(T:us.length≤100)(U:z.length≤200)(V:∀f∈z,f.hD<18446744073709551616∧(-9223372036854775808≤f.own∧f.own<9223372036854775808)):
 Calls prog 13 #[.agg (je p D pu ⟨I,J,K⟩)] w (Hc p D us z w):=by
 obtain⟨aO,al,F,W⟩:=iF w (je p D pu ⟨I,J,K⟩) 28;obtain⟨am,X,an,Q⟩:=h5 (G3 p D pu I J K us z aO ⟨O.1,O.2.1,(O.2.2.below F).more F.size⟩ aj ((ak.below F).more F.size) S T U V) al F (And.intro S (And.intro T (And.intro U V)));obtain⟨aP,Y⟩:=ho (je p D pu ⟨I,J,K⟩);have ao:(prog.info? 28).map (·.size)=some aP.size:=by rw[←Y];exact qp _ _ _ _
 rw[Y]at W am X⊢;have aQ:=g' ao;clear al F O aj ak S T U V Y ao;go_enter func13,ntmps13;go_upto_region 1 with(fail)
 rw[X.out];clear X;go_wp2_with (first|(refine hR W np aQ rfl rfl rfl rfl ?_)|fail);refine am.mono ?_;rintro e o ⟨ap,E,rfl,aq,Z,ar,au,av⟩;obtain⟨aR,aS,aw⟩:=hs au av (an.trans (aq.mono an.size));have ax:(prog.info? 46).map (·.size)=some ap.size:=by rw[Z];kernel_rfl
 obtain⟨ay,az,aA⟩:=hs ax ar Z;have aB:Below o.heap.size o (o.alloc (.cells hC.h4 46)):=hz.alloc hj _;have aC:ha (o.alloc (.cells hC.h4 46)) o.heap.size 46 hC.h4:=ha.new o _ _ _ rfl;have aa:=g' aB;clear au av aq ax Z ar aB W;go_upto_region 2 with(first|(refine iL rfl 46 (.tmp 4) (.tmp 9) rfl o.heap.size ap rfl rfl 46 _ aC ay aA.symm az ?_;intro r aD aE))
 have ab:Below o.heap.size o r:=iC aa aE hj aa.size;obtain⟨ac,aT,R⟩:=hs ab aD (aw.trans (ab.mono aw.size));clear ab aE aD aC aa;by_cases G:E=0
 ·obtain⟨ad,aF,aG,me,ma,aH,ae⟩:=aR G
  have aU:(E !=0)=false:=by simp[G]
  have aI:iH (us++z.map Fo.hD)<18446744073709551616:=by have:=Q.1;omega
  obtain⟨af,aJ,ag⟩:=hs ae (And.intro ad aF) (G9 ae ad aI Q.2.1 Q.2.2.1 Q.2.2.2);obtain⟨s,ah⟩:=ho (jf p D (iH (us++z.map Fo.hD)) aG me ma);rw[ah]at aH af ag;have aV:=g' ah;subst aH;have aK:=aT.out;clear G ad aF ae aI ah aA ay az;go_wp2_with (first|(refine hR aK iX (j4 s) rfl rfl rfl rfl ?_)|(refine wpList_build rfl 73 #[(0,.tmp 14)] rfl (.agg s.cs) (fun w'=>by kernel_rfl) ?_)|(refine wpList_build rfl 75 #[(0,.tmp 15),(1,.const (.bool true))] rfl (.agg (l7 s)) (fun w'=>by kernel_rfl) ?_));have ai:Below r.heap.size r (r.alloc (.cells (l7 s) 75)):=hz.alloc hj _;have aL:Below o.heap.size o (r.alloc (.cells (l7 s) 75)):=ac.trans (ai.mono ac.size);have aM:jx r.heap.size s (jS p us z) (r.alloc (.cells (l7 s) 75)):=⟨ha.new r _ _ _ rfl,G5 af.lay aL ac.size,af.ok,ag.1,ag.2⟩;have aN:=g' (And.intro aM (R.trans (ai.mono R.size)));clear ai aL aM aK;go_ret2;exact⟨_,0,rfl,aN.2,fun _=>⟨aJ.1,aJ.2,r.heap.size,aG,me,ma,rfl,R.size,by rw[aV.out];exact aN.1⟩,fun _ _=>rfl⟩
 have aU:(E !=0)=true:=by simp[G]
 have aW:=g' G;clear G;go_wp2;go_ret2;exact⟨_,E,rfl,R,fun e=>absurd e aW,aS⟩
structure jC where
 k:Int
 dl:Sl
 bl:Sl
 ds:List DD
 bs:List Nat
def jC.cs(a:jC):Array Value:= #[.int .i64 a.k,.slice a.dl.A a.dl.n a.dl.c,.slice a.bl.A a.bl.n a.bl.c]
instance{a:jC}:hf.jP a.cs fun o r=>(∀j,o.frozen? ⟨r,j,none⟩=false)∧hf.hh o r 0 (.int .i64 a.k)∧hf.hh o r 1 (.slice a.dl.A a.dl.n a.dl.c)∧hf.hh o r 2 (.slice a.bl.A a.bl.n a.bl.c):=⟨fun h=>⟨h.frozen,hf.jX h⟩⟩
def jC.enc(a:jC):List Value:=a.cs.toList
theorem jC.len(a:jC):a.enc.length=3:=rfl
theorem qs(a:jC):(prog.info? 38).map (·.size)=some a.cs.size:=by kernel_rfl
theorem tv(a:jC):a.cs.all (·.oneCell')=true:=by kernel_rfl
structure mH (w:World) (B:Nat) (a:jC):Prop where
 ds:hV w B a.dl.A a.dl.n 34 (flat DD.enc a.ds)
 iq:∀d∈a.ds,d.p.jE∧d.am<18446744073709551616∧∃bs,hq.ie w B d.bi.A d.bi.n bs
 bs:hq.ie w B a.bl.A a.bl.n a.bs
theorem mH.below{w':World}{a:jC}(h:mH w B a)(o:Below B w w'):mH w' B a:=
 ⟨h.ds.below o,fun d r=>by obtain⟨z,A,bs,D⟩:=h.iq d r;exact⟨z,A,bs,D.below o⟩,h.bs.below o⟩
theorem mH.more{B':Nat}{a:jC}(h:mH w B a)(o:B≤B'):mH w B' a:=
 ⟨h.ds.more o,fun d r=>by obtain⟨z,A,bs,D⟩:=h.iq d r;exact⟨z,A,bs,D.more o⟩,h.bs.more o⟩
theorem mH.to{w':World}{a:jC}(h:mH w w.heap.size a)(o:Below w.heap.size w w'):mH w' w'.heap.size a:=(h.below o).more o.size
structure jC.ow (a:jC):Prop where
 dn:a.dl.n≤20
 bn:a.bl.n≤3000
 bits:∀d∈a.ds,d.bi.n≤100
structure q6 (w:World) (A:Option Addr) (n:Nat) (xs:List jC):Prop where
 row:hV w w.heap.size A n 3 (flat jC.enc xs)
 qk:∀a∈xs,mH w w.heap.size a
theorem q6.to{w':World}{xs:List jC}(h:q6 w A n xs)(o:Below w.heap.size w w'):q6 w' A n xs:=⟨h.row.to o,fun a r=>(h.qk a r).to o⟩
def q7(xs:List jC)(n o:Nat)(w:World)(e:Ending)(w':World):Prop:=∃b:Bool,e= .returned (.bool b)∧Below w.heap.size w w'∧(b=true→n≤o∧∀a∈xs,a.ow)
theorem q7.no{xs:List jC}{w':World}(o:Below w.heap.size w w'):q7 xs n g w (.returned (.bool false)) w':=⟨false,rfl,o,fun h=>by cases h⟩
theorem tw(A:Option Addr)(n c S:Nat)(xs:List jC)(w:World)(h:q6 w A n xs)(aL:n≤9223372036854775807):Calls prog 8 #[.slice A n c,.int .i64 S] w (q7 xs n S w):=by
 obtain⟨aa,ab⟩:=hg h (h.row.len jC.len (by omega));clear h;go_enter func8,ntmps8;go_wp2;go_loopw [11] (fun T wr=>∃k:Nat,T= .int .i64 k∧k≤n∧Below w.heap.size w wr∧∀j a,j<k→xs[j]?=some a→a.ow) (fun T _=>n-(intOf T).toNat)
 case atStart=>exact⟨0,rfl,h6,hz,fun j _ K=>absurd K (by omega)⟩
 case round=>
  obtain⟨k,rfl,aM,z,ac⟩:=hrel;obtain⟨O,ad⟩:=hg z ac;clear z ac;by_cases D:k<n
  ·have an:=hZ D
   obtain⟨a,r⟩:∃a,xs[k]?=some a:=⟨_,iB (by rw[ab.out];exact D)⟩;obtain⟨ao,rfl,_,E⟩:=(aa.to O).row.cell jC.len D r (by omega);obtain⟨F,ap,aq⟩:=hs E r ((aa.to O).qk a (List.mem_of_getElem? r));clear E r;go_upto_region 4 with(first|(refine oL rfl 38 (.tmp 13) rfl (ao.add (k*3)) rfl a.enc _ F nL rfl (by kernel_rfl) ?_)|(refine jD rfl 38 (.tmp 6) (.tmp 14) rfl a.cs rfl rfl (qs _) rfl (tv _) ?_;intro ae af U ar))
   obtain⟨Q,ag⟩:=hg (hJ O U) ((aq.to U).ds);have aN:=af.all;clear af U ar F;by_cases R:20<a.dl.n
   ·have au:decide ((20:Int)<(a.dl.n:Int))=true:=by simp;omega
    clear R;go_wp2;go_ret;exact q7.no Q
   have au:decide ((20:Int)<(a.dl.n:Int))=false:=by simp;omega
   have av:=g' R;by_cases V:3000<a.bl.n
   ·have aw:decide ((3000:Int)<(a.bl.n:Int))=true:=by simp;omega
    clear R V;go_wp2;go_ret;exact q7.no Q
   have aw:decide ((3000:Int)<(a.bl.n:Int))=false:=by simp;omega
   obtain⟨ax,ah⟩:=hg V (ag.len DD.len (by omega));clear R V;go_wp2;go_loopw [28] (fun W ay=>∃j:Nat,W= .int .i64 j∧j≤a.dl.n∧Below ae.heap.size ae ay∧∀i d,i<j→a.ds[i]?=some d→d.bi.n≤100) (fun W _=>a.dl.n-(intOf W).toNat)
   case atStart=>exact⟨0,rfl,h6,hz,fun j _ K=>absurd K (by omega)⟩
   case round=>
    obtain⟨j,rfl,K,z,ai⟩:=hrel;obtain⟨X,aj⟩:=hg z ai;clear z ai;have az:a.dl.n≤20:=by have:=av.out;omega
    by_cases G:j<a.dl.n
    ·have aA:=hZ G
     obtain⟨d,I⟩:∃d,a.ds[j]?=some d:=⟨_,iB (by rw[ah.out];exact G)⟩;obtain⟨aB,aC,_,E⟩:=(ag.to X).cell DD.len G I (by omega);obtain⟨F,aD⟩:=hg E I;rw[aC];clear E I;go_upto_region 9 with(first|(refine oL rfl 70 (.tmp 30) rfl (aB.add (j*34)) rfl d.enc _ F ja rfl (by kernel_rfl) ?_)|(refine jD rfl 70 (.tmp 8) (.tmp 31) rfl d.cs rfl rfl (uH _) rfl (k7 _) ?_;intro aO ak al aE))
     have am:=g' (hJ X al);have aP:=ak.all;clear ak al aE F;by_cases Y:100<d.bi.n
     ·have aF:decide ((100:Int)<(d.bi.n:Int))=true:=by simp;omega
      clear Y;go_wp2;go_ret;exact q7.no (hJ Q am)
     have aF:decide ((100:Int)<(d.bi.n:Int))=false:=by simp;omega
     have aG:=g' Y;clear Y;go_wp2;refine⟨⟨j+1,by go_num,by omega,am,fun i y o J=>?_⟩,by simp[intOf];omega⟩;rcases Nat.lt_succ_iff_lt_or_eq.1 o with o|rfl
     ·exact aj i y o J
     have:=aD.out;rw[J]at this;cases this;have:=aG.out;omega
    have aA:=h1 G;have aH:=g' (show a.ow from⟨az,by have:=ax.out;omega,fun d I=>by
     obtain⟨i,o,Z⟩:=List.getElem_of_mem I;exact aj i d (by have:=ah.out;omega) (by rw[List.getElem?_eq_getElem o,Z])⟩)
    clear G;go_wp2;refine⟨⟨k+1,by go_num,by omega,hJ Q X,fun i y o J=>?_⟩,by simp[intOf];omega⟩;rcases Nat.lt_succ_iff_lt_or_eq.1 o with o|rfl
    ·exact ad i y o J
    have:=ap.out;rw[J]at this;cases this;exact aH
  have an:=h1 D;have aI:=g' (show∀a∈xs,a.ow from fun a r=>by
   obtain⟨i,o,Z⟩:=List.getElem_of_mem r;exact ad i a (by have:=ab.out;omega) (by rw[List.getElem?_eq_getElem o,Z]))
  obtain⟨b,aJ⟩:=ho (decide (n≤S));have aK:=g' aJ;clear D;go_wp2;go_ret;exact⟨b,rfl,O,fun e=>⟨by have:=aK.out;rw[e]at this;simpa using this,aI⟩⟩
theorem Hd(p:hx)(A:Nat)(pu o:Sl)(w:World)(b:Bool)(r:b=decide (pu.n≤100∧o.n≤200)):Calls prog 18 #[.agg (je p A pu o)] w fun e w'=>e= .returned (.bool b)∧Below w.heap.size w w':=by
 obtain⟨K,D,E,F⟩:=iF w (je p A pu o) 28;obtain⟨G,I⟩:=hg D E;have O:=F.all;clear D E F;by_cases z:pu.n≤100;focus
  have J:decide ((pu.n:Int)≤100)=true:=by simp;omega
  have Q:decide ((o.n:Int)≤200)=b:=by rw[r];simp[z];omega
 rotate_left;focus
  have J:decide ((pu.n:Int)≤100)=false:=by simp;omega
  obtain rfl:b=false:=by rw[r];simp[z]
 all_goals
  clear r z;go_enter func18,ntmps18;go_upto_region 1 with(fail)
  rw[G.out];go_wp2;go_ret;exact⟨rfl,I⟩
def He(g:Nat)(s:hA)(c:hl)(w:World)(e:Ending)(w':World):Prop:=∃(o:Array Value) (t:Bool) (E:Int),e= .returned (.tuple #[.agg o,.bool t,.int .i64 E])∧hn g w w'∧o.size=14∧o.all (·.oneCell')=true∧
 (t=false→∃s' c',jx g s' c' w'∧Kept s c s' c')∧(t=true→∃s' c' p r,o=p.cs∧jx g s' c' w'∧kk p r w' w'.heap.size∧qZ s c s' c' p r)
theorem vr(g:Nat)(s:hA)(c:hl)(a:jC)(w:World)(h:jx g s c w)(W:DI 60000 s c)(aD:mH w w.heap.size a)(aE:a.ow):Calls prog 10 #[.pointer (some ⟨g,0,none⟩),.agg a.cs] w (He g s c w):=by
 have X:Below w.heap.size w ((w.alloc (.cells a.cs 38)).alloc (.cells jR.cs 49)):=(hz.alloc hj _).alloc (by simp) _;have am:ha ((w.alloc (.cells a.cs 38)).alloc (.cells jR.cs 49)) w.heap.size 38 a.cs:=(ha.new w _ _ _ rfl).alloc _;have an:ha ((w.alloc (.cells a.cs 38)).alloc (.cells jR.cs 49)) (w.heap.size+1) 49 jR.cs:=ha.new _ _ _ _ (by simp);obtain⟨Q,ag⟩:=ho ((w.alloc (.cells a.cs 38)).alloc (.cells jR.cs 49));rw[ag]at X am an;have aF:Hid ((w.alloc (.cells a.cs 38)).alloc (.cells #[.int .i64 0,.int .i64 0,.bool false,.int .u64 0,.int .u64 0,.int .u64 0,.int .u64 0,.int .u64 0,.int .u64 0,.int .u64 0,.slice none 0 0,.slice none 0 0,.slice none 0 0,.slice none 0 0] 49)=Q):=g' ag;obtain⟨ao,ap,aq,o,ar,au,G,aV,av⟩:=og X am an h.box.lt (h.below X) h (show w.heap.size+2=Q.heap.size by rw[←ag];simp) W (aD.to X);have aw:=g' aE;clear ag X am an h W aD aE;go_enter func10,ntmps10;go_upto_region 1 with(fail)
 rw[aF.out];clear aF;have bf:=ap.all;by_cases ah:a.k=1
 ·have aW:=jU ah
  have bg:=ap.all;clear ah;have aG:=g' (El a.dl.A a.dl.n a.dl.c a.ds Q av.ds (fun d W=>by obtain⟨Y,D,Z⟩:=av.iq d W;exact⟨Y,D,aw.bits d W,Z⟩) aw.dn);go_wp2_with fail;refine aG.mono ?_;rintro e aX ⟨bh,rfl,aH,aa⟩;obtain⟨aY,aZ,a0,a1,rfl,bi,aI⟩:=aH.row;obtain⟨a2,a3,a4,aJ⟩:=h5 (ar.below aa) (aq.to aa) (hJ ao.out aa) aa.size;have ab:=g' (zk g s c aY aZ a0 a1 aX a2.out aI (by omega));clear aH aa aI aG;go_wp2_with fail;refine ab.mono ?_;rintro e aK ⟨a5,E,rfl,F,s',c',K,ac,ad⟩;obtain⟨I,ax,ay,ae,az⟩:=jg K ac ad F (a3.hT F (by have:=o.out;omega));clear F K ac ad ab;have O:=az.out;go_wp2_with (first|(refine hR O l6 (lP _) rfl rfl rfl rfl ?_)|(refine iL rfl 49 (.tmp 4) (.tmp 35) rfl (w.heap.size+1) jR.cs rfl rfl 49 _ O (lP _) rfl (nk _) ?_;intro ai T z));have J:=g' (n0 (hn.trans' (hn.jJ a4.out) ae.out) z (show w.heap.size≤w.heap.size+1 from Nat.le_succ _));have R:Hid (jx g s' c' ai):=g' (by
   rcases ay.out with⟨rfl,rfl⟩|U
   ·exact au.old J.out (I.box.hT z (by have:=o.out;omega))
   exact(I.fresh U z (by have Y:=aJ.out;have D:=G.out;omega) (by have Y:=aJ.out;have D:=G.out;have Z:=o.out;omega) (by have:=o.out;omega)).1)
  exact bodyPost_ret (v:= .tuple #[.agg jR.cs,.bool false,.int .i64 E]) (oc results10 _ _ _ _ _ _ _ _ rfl rfl rfl T l6 rfl (lP _)) rfl ⟨_,false,E,rfl,J.out,rfl,nk _,fun _=>⟨s',c',R.out,ax.out⟩,fun h=>by cases h⟩
 have aW:=iM ah;clear ah;by_cases aj:a.k=2
 ·have a6:=jU aj
  have bj:=ap.all;clear aj;have ab:=g' (zk g s c a.bl.A a.bl.n a.bl.c a.bs Q ar.out av.bs (by have:=aw.bn;omega));go_wp2_with fail;refine ab.mono ?_;rintro e aK ⟨a5,E,rfl,F,s',c',K,ac,ad⟩;obtain⟨I,ax,ay,ae,az⟩:=jg K ac ad F (aq.hT F (by have:=o.out;omega));clear F K ac ad ab;have O:=az.out;go_wp2_with (first|(refine hR O l6 (lP _) rfl rfl rfl rfl ?_)|(refine iL rfl 49 (.tmp 4) (.tmp 35) rfl (w.heap.size+1) jR.cs rfl rfl 49 _ O (lP _) rfl (nk _) ?_;intro ai T z));have J:=g' (n0 (hn.trans' (hn.jJ ao.out) ae.out) z (show w.heap.size≤w.heap.size+1 from Nat.le_succ _));have R:Hid (jx g s' c' ai):=g' (by
  rcases ay.out with⟨rfl,rfl⟩|U
  ·exact au.old J.out (I.box.hT z (by have:=o.out;omega))
  ·exact(I.fresh U z (by have Y:=Nat.le_refl Q.heap.size;have D:=G.out;omega) (by have Y:=Nat.le_refl Q.heap.size;have D:=G.out;have Z:=o.out;omega) (by have:=o.out;omega)).1)
  exact bodyPost_ret (v:= .tuple #[.agg jR.cs,.bool false,.int .i64 E]) (oc results10 _ _ _ _ _ _ _ _ rfl rfl rfl T l6 rfl (lP _)) rfl ⟨_,false,E,rfl,J.out,rfl,nk _,fun _=>⟨s',c',R.out,ax.out⟩,fun h=>by cases h⟩
 have a6:=iM aj;clear aj;have aL:=g' (zj g s c Q ar.out aV.out);go_wp2_with fail;refine aL.mono ?_;rintro e aK ⟨S,E,rfl,F,aA,aM,aN,aO,_⟩;obtain⟨a7,a8⟩:=hg aN aO;have aP:=aq.hT F (by have:=o.out;omega);obtain⟨af,aB,ak,ae⟩:=h5 (show(prog.info? 49).map (·.size)=some S.size by rw[aA];kernel_rfl) aA aM F;clear aN aO F aA aM aL;go_upto_region 3 with(first|(refine iL rfl 49 (.tmp 4) (.tmp 12) rfl (w.heap.size+1) S rfl rfl 49 _ aP af.out (by rw[aB.out];rfl) ak.out ?_;intro bk aQ aR))
 obtain⟨al,a9⟩:=hg aR aQ;clear aP aQ aR;by_cases V:E=0;focus
  have a':(E==0)=true:=by simp[V]
  obtain⟨s',c',p,r,aS,K,U,aT,aU⟩:=a8.out V;obtain⟨I,ba,bb,bc,bd⟩:=jg K U aT aU aS;clear V aS K U aT aU
 rotate_left;focus
  have a':(E==0)=false:=by simp[V]
  have I:=g' (a7.out V);clear V
 rotate_left;all_goals
  have O:=a9.out;go_wp2_with (first|(refine hR O l6 af.out rfl rfl rfl rfl ?_)|(refine iL rfl 49 (.tmp 4) (.tmp 35) rfl (w.heap.size+1) S rfl rfl 49 _ O af.out rfl ak.out ?_;intro ai T z));have J:=g' (n0 (n0 (hn.trans' (hn.jJ ao.out) ae.out) al.out (show w.heap.size≤w.heap.size+1 from Nat.le_succ _)) z (show w.heap.size≤w.heap.size+1 from Nat.le_succ _))
 ·have aC:=I.fresh ba.out al.out (by have D:=G.out;omega) (by have D:=G.out;have Z:=o.out;omega) (by have:=o.out;omega)
  have R:=g' (aC.1.fresh aC.2 z (by have D:=G.out;omega) (by have D:=G.out;have Z:=o.out;omega) (by have:=o.out;omega)).1;have be:=g' ((bb.fresh al.out (by have D:=G.out;omega)).fresh z (by have D:=G.out;omega)).seen;clear aC;exact bodyPost_ret (v:= .tuple #[.agg S,.bool true,.int .i64 E]) (oc results10 _ _ _ _ _ _ _ _ rfl rfl rfl T l6 rfl af.out) rfl ⟨S,true,E,rfl,J.out,aB.out,ak.out,(fun h=>by cases h),fun _=>⟨s',c',p,r,bd.out,R.out,be.out,bc.out⟩⟩
 have R:=g' (au.old J.out ((I.box.hT al.out (by have:=o.out;omega)).hT z (by have:=o.out;omega)));exact bodyPost_ret (v:= .tuple #[.agg S,.bool false,.int .i64 E]) (oc results10 _ _ _ _ _ _ _ _ rfl rfl rfl T l6 rfl af.out) rfl ⟨S,false,E,rfl,J.out,aB.out,ak.out,fun _=>⟨s,c,R.out,.refl s c⟩,fun h=>by cases h⟩
def q8(p:hx)(r:Nat)(us:List Nat)(o:List Fo)(w:World)(e:Ending)(w':World):Prop:=∃(v:Value) (b:Bool),e= .returned (.tuple #[v,.bool b])∧Below w.heap.size w w'∧
 (b=true→kM p r us o=true∧iH (us++o.map Fo.hD)≤r∧∃g pu me ma,v= .pointer (some ⟨g,0,none⟩)∧w.heap.size≤g∧jx g (jf p r (iH (us++o.map Fo.hD)) pu me ma) (jS p us o) w')
theorem q8.no{p:hx}{us:List Nat}{o:List Fo}{w':World}(v:Value)(r:Below w.heap.size w w'):q8 p n us o w (.returned (.tuple #[v,.bool false])) w':=⟨v,false,rfl,r,fun h=>by cases h⟩
theorem lE(p:hx)(z:Nat)(pu:Sl)(r:Option Addr)(o K:Nat)(us:List Nat)(D:List Fo)(w:World)(O:jk w w.heap.size pu.A pu.n us)(aj:pu.A=none→pu.n=0∧pu.c=0)(Y:hV w w.heap.size r o 2 (flat Fo.enc D))(ak:z<18446744073709551616)(al:∀f∈D,f.hD<18446744073709551616∧(-9223372036854775808≤f.own∧f.own<9223372036854775808)):
 Calls prog 7 #[.agg (je p z pu ⟨r,o,K⟩),.slice none 0 0] w (q8 p z us D w):=by
 obtain⟨R,am,S,an⟩:=iF w (je p z pu ⟨r,o,K⟩) 28;obtain⟨ao,F⟩:=hk (decide (pu.n≤100∧o≤200));obtain⟨Z,aG,ap,aq,aa,aH,aI,ab,T⟩:=og (fun W=>Hd p z pu ⟨r,o,K⟩ W ao F) F (fun(W:World) (ac:Below R.heap.size R W)=>show jk W W.heap.size pu.A pu.n us from⟨O.1,O.2.1,(O.2.2.to S).to ac⟩) (fun(W:World) (ac:Below R.heap.size R W)=>show hV W W.heap.size r o 2 (flat Fo.enc D)from(Y.to S).to ac) (And.intro aj (And.intro ak al)) O.1 (Y.len Fo.len (by omega)) am S;have ad:=g' an;obtain⟨aJ,ae⟩:=ho (je p z pu ⟨r,o,K⟩);have ar:(prog.info? 28).map (·.size)=some aJ.size:=by rw[←ae];exact qp _ _ _ _
 have af:=g' (fun(W:World) (G:jk W W.heap.size pu.A pu.n us) (I:hV W W.heap.size r o 2 (flat Fo.enc D)) (aK:us.length≤100) (aL:D.length≤200)=>zl p z pu r o K us D W G aa.1 I aa.2.1 aK aL aa.2.2);rw[ae]at ad ab Z af⊢;have au:=g' ar;clear am S an O aj Y ak al ae ar F;go_enter func7,ntmps7;go_upto_region 1 with(fail)
 rw[ab.out];clear ab;have ag:=ad.out;go_wp2_with (first|(refine hR ag np au rfl rfl rfl rfl ?_));refine hI (Z _) fun aM F=>?_;obtain⟨U,av⟩:=hg F (ag.to F);clear F ag ad Z;cases ao
 ·go_wp2
  go_ret2;exact q8.no _ (hJ T U)
 have aw:=g' (show pu.n≤100∧o≤200 from by have h:=aG.out;simpa using h.symm);have ax:=g' (tw none 0 0 40 [] aM ⟨hV.nil _ _ _ _,fun a aN=>by cases aN⟩ (by omega));go_wp2_with fail;refine ax.mono ?_;rintro e V ⟨aO,rfl,ah,_⟩;obtain⟨J,ay⟩:=hg (U.trans (ah.mono U.size)) (av.to ah);clear ah av ax U;cases aO
 ·go_wp2
  go_ret2;exact q8.no _ (hJ T J)
 have az:=g' (af V (ap V J) (aq V J) (by have G:=aH.out;have I:=aw.1;omega) (by have G:=aI.out;have I:=aw.2;omega));have aA:=ay.out;go_wp2_with (first|(refine hR aA np au rfl rfl rfl rfl ?_));refine az.mono ?_;rintro e aP ⟨v,E,rfl,aB,aC,_⟩;obtain⟨ai,aD,aQ⟩:=hs aC (hJ T (J.trans (aB.mono J.size))) (show w.heap.size≤V.heap.size from Nat.le_trans T.size J.size);clear aC aB ay aA az af ap aq;by_cases Q:E=0
 ·obtain⟨G,I,g,aR,me,ma,rfl,aE,aF⟩:=ai Q
  have aS:(E !=0)=false:=by simp[Q]
  have X:=g' (And.intro G (And.intro I (kY (Nat.le_trans aQ aE) aF)));clear G I aE aF Q ai;go_wp2;go_loopw [27] (fun aT wr=>aT= .int .i64 0∧wr=aP) (fun _ _=>0)
  case atStart=>exact⟨rfl,rfl⟩
  case round=>
   obtain⟨rfl,rfl⟩:=hrel;go_wp2;go_ret2;exact⟨_,true,rfl,aD,fun _=>⟨X.1,X.2.1,g,aR,me,ma,rfl,X.2.2.1,X.2.2.2⟩⟩
 have aS:(E !=0)=true:=by simp[Q]
 clear Q ai;go_wp2;go_ret2;exact q8.no _ aD
def sP:hx:=⟨10,30,10,40,10,5,4,100,8,50,2,100,1048576,1,2,4,100,100,5000,2,2,2,1,3000⟩
def sU:List Nat:=[500,200]
def sF:List Fo:=[⟨0,25⟩,⟨1,40⟩]
theorem Hf:lk sP=11:=wu ⟨by omega,fun i o=>by
 match i,o with
 |0,_=>decide
 |1,_=>decide
 |2,_=>decide
 |3,_=>decide
 |4,_=>decide
 |5,_=>decide
 |6,_=>decide
 |7,_=>decide
 |8,_=>decide
 |9,_=>decide
 |10,_=>decide,fun _=>by decide⟩
theorem zm:iG sP=true:=by
 unfold iG;rw[Hf];decide
theorem Hg:kM sP 1073741824 sU sF=true:=by
 unfold kM;rw[zm];decide
theorem zn:iH (sU++sF.map Fo.hD)=765:=by decide
theorem zo:sF.map (kL sP)=[⟨25,20,0,0,0,2⟩,⟨40,30,0,0,1,2⟩]:=rfl
theorem Hh:lX sP ⟨25,20,0,0,0,2⟩=true:=by
 unfold lX;rw[decide_eq_true (show j1 sP (ll ⟨25,20,0,0,0,2⟩)=ll ⟨25,20,0,0,0,2⟩from by simp[j1,ll,sP];decide)];decide
theorem Hj:lX sP ⟨40,30,0,0,1,2⟩=true:=by
 unfold lX;rw[decide_eq_true (show j1 sP (ll ⟨40,30,0,0,1,2⟩)=ll ⟨40,30,0,0,1,2⟩from by simp[j1,ll,sP];decide)];decide
theorem zq(o:Int)(h:o=1∨o=3):mW [⟨25,20,0,0,0,2⟩,⟨40,30,0,0,1,2⟩] [] o=true:=by
 rcases h with rfl|rfl<;>decide
theorem Hk(o:Nat)(pu me ma:Sl)(r:pu.n=2)(z:me.n=2):mZ (jf sP 1073741824 o pu me ma) (jS sP sU sF)=true:=by
 have A:pC (jf sP 1073741824 o pu me ma) (jS sP sU sF)=true:=by
  unfold pC;rw[show(jS sP sU sF).ms=[⟨25,20,0,0,0,2⟩,⟨40,30,0,0,1,2⟩]from zo,show(jS sP sU sF).es=[]from rfl,show(jS sP sU sF).xs=[]from rfl,zq 1 (.inl rfl),zq 3 (.inr rfl),show(jf sP 1073741824 o pu me ma).me.n=2 from z,show(jf sP 1073741824 o pu me ma).p=sP from rfl];simp only[List.all_cons,List.all_nil,Hh,Hj,k9,show(jf sP 1073741824 o pu me ma).pu.n=2 from r];decide
 unfold mZ;rw[A,show(jf sP 1073741824 o pu me ma).p=sP from rfl,zm,show(jf sP 1073741824 o pu me ma).pu.n=2 from r,show(jf sP 1073741824 o pu me ma).ep=0 from rfl,show(jf sP 1073741824 o pu me ma).calm=0 from rfl,show(jS sP sU sF).us=sU from rfl];decide
theorem Hl(pu me ma:Sl):(mA (jf sP 1073741824 765 pu me ma) (jS sP sU sF)).nU+0=765+0:=by
 unfold hC.St.nU;show iH ((sF.map (kL sP)).map Mem.hD)+iH sU+iH (kh [] [])+iH (kh [] [])+0+0=765+0;rw[zo];decide
theorem Hm(pu me ma:Sl):mB (jf sP 1073741824 765 pu me ma) (jS sP sU sF)=true:=by
 have o:oN (jf sP 1073741824 765 pu me ma) (jS sP sU sF)=true:=by unfold oN;rfl
 have r:p7 (jf sP 1073741824 765 pu me ma) (jS sP sU sF)=true:=by
  unfold p7 qP;rw[Bool.and_eq_true];have z:hq.qI (jS sP sU sF).mm (jS sP sU sF).rs:=⟨by decide,⟨by decide,by decide,by decide,fun i _=>hq.xR i⟩,fun i A=>absurd A (by show¬i<0;omega)⟩;refine⟨by simp[z],?_⟩;rw[List.all_eq_true];intro j _;rw[Bool.or_eq_true];right
  show(!(hq.kH hq.ij (j:Nat)))=true;rw[show hq.kH hq.ij (j:Nat)=false from hq.xR j];rfl
 have D:hC.o9 (mA (jf sP 1073741824 765 pu me ma) (jS sP sU sF))=true:=by
  unfold hC.o9;rw[decide_eq_true_iff];exact⟨by show(1073741824:Nat)≤_;omega,by show 765+0≤1073741824;omega,Hl pu me ma⟩
 unfold mB;rw[o,r,D];rfl
theorem Hn:(ju (jS sP sU sF).ms).sum=50:=by decide
theorem Ho(g:Nat)(w:World):Calls prog 28 #[.pointer (some ⟨g,0,none⟩),.int .i64 2] w fun e w'=>e= .returned (.tuple #[.slice none 0 0,.bool false])∧w=w':=by
 go_enter func28,ntmps28;go_wp2;go_ret2;exact⟨rfl,rfl⟩
theorem Hp(g:Nat)(w:World):Calls prog 28 #[.pointer (some ⟨g,0,none⟩),.int .i64 9] w fun e w'=>e= .returned (.tuple #[.slice none 0 0,.bool false])∧w=w':=by
 go_enter func28,ntmps28;go_wp2;go_ret2;exact⟨rfl,rfl⟩
theorem Hq(g:Nat)(w:World):Calls prog 29 #[.pointer (some ⟨g,0,none⟩),.int .i64 9,.int .i64 0] w fun e w'=>e= .returned (.tuple #[.slice none 0 0,.bool false])∧w=w':=by
 go_enter func29,ntmps29;go_wp2;go_ret2;exact⟨rfl,rfl⟩
theorem uA(v:Value)(w:World):Calls prog 53 #[v] w fun e w'=>e= .returned v∧w=w':=by
 go_enter func53,ntmps53;go_wp2;go_ret;exact⟨rfl,rfl⟩
def Hr(x:Nat)(w:World)(e:Ending)(w':World):Prop:=∃b,e= .returned (.tuple #[.slice (some ⟨b,0,none⟩) 1 1,.bool true])∧Below w.heap.size w w'∧w.heap.size≤b∧b<w'.heap.size∧w'.cell? ⟨b,0,none⟩=some (.int .u64 x)
theorem Hs(g:Nat)(s:hA)(c:hl)(w:World)(h:jx g s c w)(x:Nat)(us:List Nat)(z:c.us=x::us):
 Calls prog 29 #[.pointer (some ⟨g,0,none⟩),.int .i64 2,.int .i64 0] w (Hr x w):=by
 obtain⟨J,_,D⟩:=h.seen.pu;have A:0<s.pu.n:=by rw[←J,z];exact Nat.succ_pos _
 obtain⟨pu,E⟩:=ho s.pu;obtain⟨K,o,_,r⟩:=D 0 A;rw[z]at r;have r:w.cell? (K.add 0)=some (.int .u64 x):=r;have F:s.pu.Ok:=h.ok.pu;have G:=h.box.all;rw[E]at A o G F;obtain⟨O,Q,R⟩:=pu;simp only at o A G;rcases F with⟨I,_⟩|⟨b,hb,_⟩
 ·simp only at I;rw[I]at o;cases o
 simp only at hb;subst hb;cases o;have S:w.cell? ⟨b,0,none⟩=some (.int .u64 x):=r;clear E D z h r;go_enter func29,ntmps29;go_wp2_with fail;refine hE (uA _ _) ?_;go_wp2;go_ret2;exact⟨_,rfl,hz.alloc hj _,hj,by simp,kp w [.int .u64 x] _ _ rfl 0 _ rfl⟩
theorem Ht(g:Nat)(s:hA)(c:hl)(w:World)(h:jx g s c w):
 Calls prog 15 #[.pointer (some ⟨g,0,none⟩),.int .i64 9,.int .i64 0] w fun e w'=>e= .returned (.tuple #[.slice none 0 0,.int .i64 270])∧w=w':=by
 have o:=g' (r9 g s w h.box);clear h;go_enter func15,ntmps15;go_wp2_with fail;refine o.mono ?_;rintro e w' ⟨rfl,rfl⟩;go_wp2_with fail;refine hE (Hp _ _) ?_;go_wp2_with fail;refine hE (Hq _ _) ?_;go_wp2;go_ret2;exact⟨rfl,rfl⟩
def Hu(x:Nat)(w:World)(e:Ending)(w':World):Prop:=∃b,e= .returned (.tuple #[.slice (some ⟨b,0,none⟩) 1 1,.int .i64 0])∧Below w.heap.size w w'∧w.heap.size≤b∧b<w'.heap.size∧w'.cell? ⟨b,0,none⟩=some (.int .u64 x)
theorem Hv(g:Nat)(s:hA)(c:hl)(w:World)(h:jx g s c w)(x:Nat)(us:List Nat)(r:c.us=x::us):
 Calls prog 15 #[.pointer (some ⟨g,0,none⟩),.int .i64 2,.int .i64 0] w (Hu x w):=by
 obtain⟨F,G⟩:=hg (r9 g s w h.box) (Hs g s c w h x us r);clear h r;go_enter func15,ntmps15;go_wp2_with fail;refine F.mono ?_;rintro e w' ⟨rfl,rfl⟩;go_wp2_with fail;refine hE (Ho _ _) ?_;go_wp2_with fail;refine G.mono ?_;rintro e I ⟨b,rfl,z,A,D,E⟩;have o:=g' (And.intro z (And.intro A (And.intro D E)));clear z A D E;go_wp2;go_ret2;exact⟨b,rfl,o.1,o.2.1,o.2.2.1,o.2.2.2⟩
end hB
end Go.Proofs.YtffbipddbnkdjaaGreat
