/- What functions compute at any arguments, and plain facts: what each leaves, as the next one and the three laws need it; A state in memory of its own: state.Own. Conditions: those that each theorem names. -/
import Derived.Test.YtffbipddbnkdjaaGreatZ28
set_option maxRecDepth 100000
set_option maxHeartbeats 40000000
set_option linter.all false
open Go Go.Proofs.Tryz
open Go.Value(int)
open Go.IntKind(i64 u64)
variable{A T:Option Addr}{n g b L k B i x a m j q c p s r d h u N y:Nat}{E z:Int}{P:Program}{w W X Z:World}{e t:TypeId}{f:Nat→Value}{l:List Bool}{V U:Value}{Y:List Nat}{S:List Value}{R:List Int}{Q:Array Value}{O:List (List Nat)}{M:Bool}{K:Ending}{J:Addr}{I:Nat→Nat}{H:Option Nat}
namespace Go.Proofs.YtffbipddbnkdjaaGreat
namespace hB
open RowKit
open hG hf hC h0 hU
def qo(o:Int):kJ:=⟨o,0,false,0,0,0,0,0,0,0,Sl.nil,Sl.nil,Sl.nil,Sl.nil⟩
def l5:Rc:=⟨[],[],[],[]⟩
def kn(s:hA):Tk:=⟨s,qo s.ep,s.p.wait⟩
theorem hK.start{κ:hr}{s:hA}{c:hl}(h:jO L κ s c w)(r:Below w.heap.size w W)(z:w.heap.size≤g)(o:ha W g 138 (kn s).cs):hK (iz κ g 1) g (kn s) c l5 W∧∀k,k<L→iz κ g 1 k=10:=by
 have k:=h.qe (x:=1) r z o.lt;exact⟨⟨k.fresh,py _ _ _,o,k.n,⟨rfl,fun j A=>absurd A (by show¬j<0;omega)⟩,k.jL,k.jG,k.jH,k.jv,k.jM,k.jN,Sl.Ok.nil,k.me,k.ex,k.en,ni _ _ _ _ _,ni _ _ _ _ _,ni _ _ _ _ _⟩,k.low⟩
structure PI (s:hA) (c:hl) (lo:Int) (n:Nat) (t:Tk) (d:hl) (r:Rc):Prop where
 hc:iG t.s.p=true
 ms:∀m∈d.ms,MG m
 ml:d.ms.length≤128
 us:d.us.length=c.us.length
 wt:t.wt=s.p.wait
 ep:t.s.ep=s.ep
 hX:t.s.hX=s.hX
 gen:t.s.gen=s.gen
 num:qh t.s
 mm:d.mm=c.mm
 rs:d.rs=c.rs
 dl:d.du.length≤c.du.length+n
 dg:∀x∈d.du,DG lo (s.ep+50) x
 xl:d.xs.length≤128
 ol:r.os.length≤n
theorem PI.td{s:hA}{c:hl}{t:Tk}{d:hl}{r:Rc}(h:PI s c E n t d r)(o:FG s c)(A:c.du.length≤60000)(D:n≤600)(F: -1≤E):TD t d r:=
 ⟨by rw[h.ep];exact o.ep,by rw[h.wt];exact(j6 o.hc).wait,by have:=h.dl;omega,fun x z=>(by rw[h.ep];have k:=h.dg x z;exact⟨k.am,k.ac,by have:=k.lo;omega,k.hi⟩),by have:=h.xl;omega,by have:=h.ol;omega⟩
structure kc (g L:Nat) (w:World) (s:hA) (c:hl) (lo:Int) (n:Nat) (κ:hr) (t:Tk) (d:hl) (r:Rc) (W:World):Prop where
 at_:hK κ g t d r W
 low:∀k,k<L→κ k=10
 le:L≤W.heap.size
 below:Below L w W
 pi:PI s c lo n t d r
theorem kc.step{s:hA}{c:hl}{n':Nat}{κ o:hr}{t t':Tk}{d d':hl}{r A:Rc}(h:kc g L w s c E n κ t d r W)(D:ht κ W o X)(G:hK o g t' d' A X)(I:PI s c z n' t' d' A):kc g L w s c z n' o t' d' A X:=
 ⟨G,fun k F=>(D.jl k (by have:=h.le;omega)).trans (h.low k F),Nat.le_trans h.le D.size,h.below.trans (D.below h.le fun k F=> .inr (h.low k F)),I⟩
theorem kc.more{s:hA}{c:hl}{n':Nat}{κ:hr}{t:Tk}{d:hl}{r:Rc}(h:kc g L w s c E n κ t d r W)(o:n≤n'):kc g L w s c E n' κ t d r W:=
 have p:=h.pi
 ⟨h.at_,h.low,h.le,h.below,⟨p.hc,p.ms,p.ml,p.us,p.wt,p.ep,p.hX,p.gen,p.num,p.mm,p.rs,by have:=p.dl;omega,p.dg,p.xl,by have:=p.ol;omega⟩⟩
theorem kc.world{s:hA}{c:hl}{κ:hr}{t:Tk}{d:hl}{r:Rc}(h:kc g L w s c E n κ t d r W)(o:Below W.heap.size W X):kc g L w s c E n κ t d r X:=
 h.step (ht.of o) (h.at_.below o) h.pi
structure PU (s:hA) (mo:List hp) (t:Tk) (d:hl) (r:Rc):Prop where
 p:t.s.p=s.p
 em:t.s.em=s.em
 mo:d.mo=mo
 dn:r.dn=[]
structure PM (s:hA) (c:hl) (p:kJ):Prop where
 act:p.act=(ju c.ms).sum
 hO:p.hO=mP s.p p.act (s.gen+s.hO) s.hX p.mode
 jB:p.jB≤p.hO
 kept:p.kept=p.hO-p.jB
 h7:p.h7≤4611686018427387904
 j5:p.j5≤4611686018427387904
structure X0 (s:hA) (c:hl) (mo:List hp) (t:Tk) (d:hl) (r:Rc):Prop where
 pu:PU s mo t d r
 xs:d.xs=c.xs
 es:d.es=c.es
 ds:d.ds=c.ds
 nm:d.ms.length=c.ms.length
 r:r=l5
 z:t.r.jB=0∧t.r.h7=0∧t.r.j5=0
theorem y8{o:List Mem}(h:∀m∈o,MG m)(I:o.length≤128):(ju o).sum<18446744073709551616:=by
 have z:∀l:List Nat,(∀u∈l,u≤1099511627776)→l.sum≤l.length*1099511627776:=by
  intro l;induction l with
  |nil=>intro _;simp
  |cons a l A=>
   intro r;have D:=r a (List.mem_cons_self ..);have E:=A fun u F=>r u (List.mem_cons_of_mem _ F);rw[List.sum_cons,List.length_cons];omega
 have D:=z _ (sT o 1099511627776 fun m G=>(h m G).hP);have E:(ju o).length≤o.length:=by unfold ju;rw[List.length_map];exact List.length_filter_le _ _
 omega
theorem n7{s s':hA}(h:qn s s'):s'.p=s.p∧s'.hX=s.hX∧s'.gen=s.gen∧s'.hO=s.hO∧s'.h7=s.h7∧s'.hN=s.hN∧s'.ep=s.ep∧s'.calm=s.calm∧s'.em=s.em:=by
 have:=h.num;simp only[Prod.mk.injEq]at this;exact this
theorem PI.start{s o:hA}{c:hl}{mo:List hp}(z:FG s c)(F:DI 60000 s c)(G:qn s o)(r:qh s):PI s c (-1) 0 (kn o) {c with mo:=mo} l5:=by
 obtain⟨A,D,E,I,J,K,O,Q,R⟩:=n7 G;exact⟨by show iG o.p=true;rw[A];exact z.hc,z.ms,z.ml,rfl,by show o.p.wait=_;rw[A],O,D,E,⟨by show o.hX<_;rw[D];exact r.hX,by show o.gen<_;rw[E];exact r.gen,by show o.hO<_;rw[I];exact r.hO,by show o.h7<_;rw[J];exact r.h7,by show o.hN<_;rw[K];exact r.hN⟩,rfl,rfl,hj,F.dg,z.xl,hj⟩
abbrev oX:Ending:= .returned (.tuple #[])
theorem F8{s o:hA}{c:hl}{mo:List hp}{κ:hr}(z:FG s c)(J:qn s o)(h:kc g L w s c (-1) 0 κ (kn o) {c with mo:=mo} l5 W):
 Calls prog 60 #[.pointer (some ⟨g,0,none⟩)] W fun e A=>e=oX∧∃K t d r,kc g L w s c (-1) 0 K t d r A∧X0 s c mo t d r∧t.r.act=(ju c.ms).sum∧t.s.hO=s.hO∧t.s.hN=s.hN:=by
 obtain⟨O,aa,ab,Q,ac,R,ad,T,U⟩:=n7 J;refine(EZ κ g _ _ _ W h.at_ h.pi.hc h.pi.ms (by have:=h.at_.kz;have:=h.pi.ml;omega) (by show c.mm.length≤_;rw[z.mm];omega) (by show 0≤o.calm∧o.calm≤_;rw[T];exact z.calm)).mono ?_;rintro e A ⟨V,S,x,X,D,ae,E,F,af,G,I,Y⟩;obtain⟨Z,ag,ah,ai⟩:=S;simp only at E F G D;subst E F G;have p:=h.pi;refine⟨V,Z,_,_,_,h.step D X ⟨p.hc,Y,by rw[I];exact p.ml,p.us,p.wt,p.ep,p.hX,p.gen,⟨p.num.hX,p.num.gen,p.num.hO,p.num.h7,p.num.hN⟩,p.mm,p.rs,p.dl,p.dg,p.xl,p.ol⟩,⟨⟨O,U,rfl,rfl⟩,rfl,rfl,rfl,I,rfl,rfl,rfl,rfl⟩,rfl,Q,R⟩
theorem F9{s:hA}{c:hl}{D:List hp}{κ:hr}{t:Tk}{d:hl}{r:Rc}(o:FG s c)(h:kc g L w s c (-1) 0 κ t d r W)(x:X0 s c D t d r)(E:t.r.act=(ju c.ms).sum)(A:t.s.hO=s.hO)(O:t.s.hN=s.hN):
 Calls prog 61 #[.pointer (some ⟨g,0,none⟩)] W fun e F=>e=oX∧∃Q t d r,kc g L w s c (-1) 0 Q t d r F∧(PU s D t d r∧d.xs=c.xs∧d.es=c.es∧d.ds=c.ds∧d.ms.length=c.ms.length∧r=l5)∧(t.r.h7=0∧t.r.j5=0)∧PM s c t.r:=by
 have p:=h.pi;have G:=x.pu.p;obtain⟨n,I⟩:=hk (mP t.s.p t.r.act (t.s.gen+t.s.hO) t.s.hX t.r.mode);have J:n=mP s.p t.r.act (s.gen+s.hO) s.hX t.r.mode:=by rw[I,G,p.gen,A,p.hX]
 have ab:=o.room;have ac:n+t.s.hO<18446744073709551616:=by
  have ad:n≤4611686018427387904:=by
   rw[J];unfold mP;split
   ·omega
   rename_i R;have:=not_or.1 R;omega
  rw[A];omega
 refine(Fw κ g t d r W h.at_ p.hc p.ms (by have:=h.at_.kz;have:=p.ml;omega) (by rw[p.mm,o.mm];omega) (by rw[p.us];have:=o.us;omega) p.num (by rw[E];exact y8 o.ms o.ml) x.z.1 (by rw[p.gen,A,p.hX];exact o.room) (by rw[O];exact o.hN) n I).mono ?_;rintro e F ⟨S,us,T,a,pu,ae,U,V,X,K,Y,Z,aa⟩;refine⟨S,κ,_,_,_,h.step V aa ⟨p.hc,Y,by show T.length≤_;rw[K];exact p.ml,X.trans p.us,p.wt,p.ep,p.hX,p.gen,⟨p.num.hX,p.num.gen,by show t.s.hO+n<_;omega,p.num.h7,Z⟩,p.mm,p.rs,p.dl,p.dg,p.xl,p.ol⟩,
  ⟨⟨G,x.pu.em,x.pu.mo,x.pu.dn⟩,x.xs,x.es,x.ds,K.trans x.nm,x.r⟩,⟨x.z.2.1,x.z.2.2⟩,⟨E,J,U,rfl,by show t.r.h7≤_;rw[x.z.2.1];omega,by show t.r.j5≤_;rw[x.z.2.2];omega⟩⟩
theorem F'{s:hA}{c:hl}{z:List hp}{κ:hr}{t:Tk}{d:hl}{r:Rc}(E:FG s c)(h:kc g L w s c (-1) 0 κ t d r W)(x:PU s z t d r∧d.xs=c.xs∧d.es=c.es∧d.ds=c.ds∧d.ms.length=c.ms.length∧r=l5)(F:t.r.h7=0∧t.r.j5=0)(o:PM s c t.r):
 Calls prog 62 #[.pointer (some ⟨g,0,none⟩)] W fun e A=>e=oX∧∃G t d r,kc g L w s c (-1) 0 G t d r A∧(PU s z t d r∧d.xs=c.xs∧d.es=c.es∧d.ds=c.ds∧d.ms.length=c.ms.length∧r=l5)∧PM s c t.r:=by
 have p:=h.pi;refine(Fk κ g t d r W h.at_ p.hc p.ms (by have:=h.at_.kz;have:=p.ml;omega) (by rw[p.mm,E.mm];omega) p.num F).mono ?_;rintro e A ⟨I,J,K,a,b,O,Q,R,D,S,T,U,X,Y,V⟩;refine⟨I,J,_,_,_,h.step R V ⟨p.hc,S,by show K.length≤_;rw[D];exact p.ml,p.us,p.wt,p.ep,p.hX,p.gen,⟨p.num.hX,p.num.gen,p.num.hO,U,T⟩,p.mm,p.rs,p.dl,p.dg,p.xl,p.ol⟩,
  ⟨⟨x.1.p,x.1.em,x.1.mo,x.1.dn⟩,x.2.1,x.2.2.1,x.2.2.2.1,D.trans x.2.2.2.2.1,x.2.2.2.2.2⟩,⟨o.act,o.hO,o.jB,o.kept,by show O≤_;omega,by show Q≤_;omega⟩⟩
theorem Ga{s:hA}{c:hl}{D:List hp}{κ:hr}{t:Tk}{d:hl}{r:Rc}(E:FG s c)(Q:c.du.length≤60000)(h:kc g L w s c (-1) 0 κ t d r W)(x:PU s D t d r∧d.xs=c.xs∧d.es=c.es∧d.ds=c.ds∧d.ms.length=c.ms.length∧r=l5)(z:PM s c t.r):
 Calls prog 63 #[.pointer (some ⟨g,0,none⟩)] W fun e F=>e=oX∧∃R t d r,kc g L w s c (-1) 128 R t d r F∧(PU s D t d r∧d.es=c.es∧d.ds=c.ds∧d.ms.length=c.ms.length∧r.ss=[])∧PM s c t.r∧∃o,d.xs=jV c.xs o∧r.os=o:=by
 have p:=h.pi;refine(yJ κ g t d r W h.at_ (p.td E Q (by omega) (by omega)) p.ms (by have:=h.at_.kz;have:=p.ml;omega)).mono ?_;rintro e F ⟨T,S,U,G,ah,d',o',V,X,o,I,J,K,O,Y,Z,ai,aa⟩;obtain⟨ab,aj,ak,al⟩:=S;simp only at I J K G;subst I J K;obtain⟨A,ac,ad,ae,af,rfl⟩:=x;refine⟨T,ab,_,_,_,h.step G U ⟨p.hc,Y,by show V.length≤_;rw[O];exact p.ml,p.us,p.wt,p.ep,p.hX,p.gen,⟨p.num.hX,p.num.gen,p.num.hO,p.num.h7,p.num.hN⟩,p.mm,p.rs,by show X.length≤_;have:=p.dl;omega,fun y ag=>(by have:=aa (-1) (by rw[p.ep];have:=E.ep;omega) (by rw[p.ep];exact p.dg) y ag;rw[p.ep]at this;exact this),by show(jV d.xs o).length≤_;have:=qS d.xs o;have:=p.xl;omega,by show([]++o).length≤_;simpa using Z⟩,
  ⟨⟨A.p,A.em,A.mo,A.dn⟩,ad,ae,O.trans af,rfl⟩,⟨z.act,z.hO,z.jB,z.kept,z.h7,z.j5⟩,o,by show jV d.xs o=_;rw[ac],rfl⟩
theorem Gb{s:hA}{c:hl}{F:List hp}{κ:hr}{t:Tk}{d:hl}{r:Rc}(E:FG s c)(Q:c.du.length≤60000)(h:kc g L w s c (-1) 128 κ t d r W)(x:PU s F t d r∧d.es=c.es∧d.ds=c.ds∧d.ms.length=c.ms.length∧r.ss=[])(z:PM s c t.r)(R:∃o,d.xs=jV c.xs o∧r.os=o):
 Calls prog 64 #[.pointer (some ⟨g,0,none⟩)] W fun e G=>e=oX∧∃S t d r,kc g L w s c s.ep 256 S t d r G∧(PU s F t d r∧d.es=c.es∧d.ds=c.ds∧d.ms.length=c.ms.length∧r.ss=[])∧PM s c t.r∧∃k o,r.ls=(jV c.xs o).take k∧(k:Int)≤s.p.iy∧∀y∈o,y∈r.os:=by
 have p:=h.pi;obtain⟨A,T,U,I,V⟩:=x;obtain⟨o,J,X⟩:=R;refine(FB κ g t d r W h.at_ (p.td E Q (by omega) (by omega)) p.ms p.ml (fun y D=>by rw[J]at D;rw[I];exact E.xv y (EV D)) (by rw[p.us];have:=E.us;omega)).mono ?_;rintro e G ⟨Y,Z,k,ah,d',l',ai,aa,ab,us,K,aj,O,ac,ad,ak,ae,af,ag⟩;have al:=(j6 E.hc).iy;refine⟨Y,Z,_,_,_,h.step af ag ⟨p.hc,ac,by show aa.length≤_;rw[O];exact p.ml,ad.trans p.us,p.wt,p.ep,p.hX,p.gen,⟨p.num.hX,p.num.gen,p.num.hO,p.num.h7,p.num.hN⟩,p.mm,p.rs,by show ab.length≤_;have:=p.dl;rw[A.p]at K;omega,fun y D=>(by have:=ae y D;rw[p.ep]at this;exact this),by show(d.xs.drop k).length≤_;rw[List.length_drop];have:=p.xl;omega,by show r.os.length≤_;have:=p.ol;omega⟩,
  ⟨⟨A.p,A.em,A.mo,A.dn⟩,T,U,O.trans I,V⟩,⟨z.act,z.hO,z.jB,z.kept,z.h7,z.j5⟩,k,o,by show d.xs.take k=_;rw[J],by rw[A.p]at K;omega,fun y D=>by show y∈r.os;rw[X];exact D⟩
structure X6 (s:hA) (c:hl) (t:Tk) (r:Rc):Prop where
 pm:PM s c t.r
 ls:∃(k:Nat) (new:List Int),r.ls=(jV c.xs new).take k∧(k:Int)≤s.p.iy∧∀y∈new,y∈r.os
 ss:(r.ss.length:Int)≤s.p.iy
theorem Gc{s:hA}{c:hl}{Q:List hp}{κ:hr}{t:Tk}{d:hl}{r:Rc}(z:FG s c)(Z:c.du.length≤60000)(h:kc g L w s c s.ep 256 κ t d r W)(x:PU s Q t d r∧d.es=c.es∧d.ds=c.ds∧d.ms.length=c.ms.length∧r.ss=[])(A:PM s c t.r)(aa:∃k E,r.ls=(jV c.xs E).take k∧(k:Int)≤s.p.iy∧∀y∈E,y∈r.os):
 Calls prog 65 #[.pointer (some ⟨g,0,none⟩)] W fun e G=>e=oX∧∃ab t d r,kc g L w s c s.ep 384 ab t d r G∧PU s Q t d r∧X6 s c t r∧d.ds.length≤256∧(∀y∈d.ds,y.am<18446744073709551616)∧d.es.length≤600:=by
 have p:=h.pi;obtain⟨D,I,F,R,J⟩:=x;obtain⟨k,E,S,T,U⟩:=aa;have ap:=(j6 z.hc).iy;have aq:=z.ep;cases V:t.r.q
 ·refine(FK κ g t d r W h.at_ V).mono ?_
  rintro e G ⟨K,rfl⟩;refine⟨K,κ,t,d,r,h.step (ht.refl κ W) h.at_ ⟨p.hc,p.ms,p.ml,p.us,p.wt,p.ep,p.hX,p.gen,p.num,p.mm,p.rs,by have:=p.dl;omega,p.dg,p.xl,by have:=p.ol;omega⟩,D,⟨A,⟨k,E,S,T,U⟩,by rw[J];show(0:Int)≤_;omega⟩,by rw[F];exact z.dl,fun y o=>(by rw[F]at o;exact(z.ds y o).am),by rw[I];have:=z.el;omega⟩
 refine(FJ κ g t d r W h.at_ V p.hc p.ms p.ml (fun y o=>by rw[I]at o;rw[R];exact z.ev y o) (by rw[I];have:=z.el;omega) (by rw[p.us];have:=z.us;omega) (by rw[F];exact z.dl) (fun y o=>by rw[F]at o;rw[R];exact z.ds y o) (p.td z Z (by omega) (by omega)) (by rw[J];simp)).mono ?_;rintro e G ⟨K,ac,ar,au,av,aw,ax,ay,j,az,ad,ae,af,ag,ah,aA,d',o',s',ai,aj,O,ak,al,X,an,aB,aC,ao,Y⟩;simp only at X ao Y;rw[D.p]at af;refine⟨K,ac,_,_,_,h.step ah al ⟨p.hc,an,by show ai.length≤_;rw[X];exact ad,ae.trans p.us,p.wt,p.ep,p.hX,p.gen,⟨p.num.hX,p.num.gen,p.num.hO,p.num.h7,p.num.hN⟩,p.mm,p.rs,by show aj.length≤_;have:=p.dl;omega,fun y o=>(by have:=Y s.ep (by rw[p.ep];omega) (by rw[p.ep];exact p.dg) y o;rw[p.ep]at this;exact this),by show(jV d.xs O).length≤_;have:=qS d.xs O;have:=p.xl;omega,by show(r.os++O).length≤_;rw[List.length_append];have:=p.ol;omega⟩,
  ⟨D.p,D.em,D.mo,D.dn⟩,⟨⟨A.act,A.hO,A.jB,A.kept,A.h7,A.j5⟩,⟨k,E,S,T,fun y o=>List.mem_append_left _ (U y o)⟩,by show((r.ss++ak).length:Int)≤_;rw[J,List.nil_append];omega⟩,by show([]:List h').length≤_;simp,fun y o=>(by cases o),ag⟩
structure X7 (s:hA) (c:hl) (t:Tk) (d:hl) (r:Rc):Prop where
 x:X6 s c t r
 mg:∀m∈d.mo,l4 m
 kT:d.mo.length=c.mo.length
 par:t.s.p=s.p∨(r.dn≠[]∧t.r.q=true)
 qY:t.s.em=s.em∨r.dn≠[]
 dn:∀i∈r.dn,∃(j:Nat) (m m':hp),i=(j:Int)∧c.mo[j]?=some m∧d.mo[j]?=some m'∧m'.st=3∧m.st≤2
 ends:∀(j:Nat) (m m':hp),c.mo[j]?=some m→d.mo[j]?=some m'→m'.st=2→m.st=1→m'.en≤s.ep
 dl:d.ds.length≤256
 ds:∀y∈d.ds,y.am<18446744073709551616
 es:d.es.length≤600
theorem Gd{s:hA}{c:hl}{T:List hp}{κ:hr}{t:Tk}{d:hl}{r:Rc}(G:FG s c)(K:k0 c.mo T)(h:kc g L w s c s.ep 384 κ t d r W)(x:PU s T t d r)(A:X6 s c t r)(ai:d.ds.length≤256)(aj:∀y∈d.ds,y.am<18446744073709551616)(ak:d.es.length≤600):
 Calls prog 66 #[.pointer (some ⟨g,0,none⟩)] W fun e U=>e=oX∧∃al t d r,kc g L w s c s.ep 384 al t d r U∧X7 s c t d r:=by
 have p:=h.pi;have aF:=G.ep;have V:∀m∈d.mo,l4 m:=fun m X=>by
  rw[x.mo]at X;obtain⟨j,E,e⟩:=List.getElem_of_mem X;obtain⟨y,z,o,F,I⟩:=K.2 j _ (iB (by rw[←K.1];exact E));rw[List.getElem?_eq_getElem E,e]at o;injection o with o;rw[o];exact(jW.vs _ F I).lL (G.mo _ (List.getElem_mem _))
 have an:t.s.mo.n=d.mo.length:=(h.at_.row.n.mo.len hp.len (by omega)).symm;have O:d.mo.length=c.mo.length:=by rw[x.mo];exact K.1
 refine(FX κ g t d r W h.at_ p.hc p.ms (by have:=h.at_.kz;have:=p.ml;omega) V (by rw[an,O];have:=G.kT;omega) (by rw[p.ep];omega) (by rw[x.p];have:=(j6 G.hc).iK;omega) p.num.hN (by rw[p.us];have:=G.us;omega) (by rw[x.dn];simp)).mono ?_;rintro e U ⟨ao,ap,aG,aH,aI,aJ,J,Y,aq,Z,ar,au⟩;have av:=Z.law Y aq;obtain⟨aK,aw,ax,ay,aL,aM,aN,aO,rfl,rfl,az,aP,aA,aB⟩:=Z;obtain⟨aa,ab,ac,ad,ae⟩:=av;simp only at aa ab ac ad ae;have R:r.dn++J=J:=by rw[x.dn,List.nil_append]
 have af:∀(j:Nat) (m:hp),c.mo[j]?=some m→∃D,d.mo[j]?=some D∧D.st=m.st:=fun j m E=>by
  obtain⟨y,z,o,_,_⟩:=K.2 j m E;exact⟨m.ly y z,by rw[x.mo];exact o,rfl⟩
 have aC:∀(j:Nat) (D:hp),d.mo[j]?=some D→∃m,c.mo[j]?=some m∧D.st=m.st:=fun j D E=>by
  have ag:=(jh.1 E).1;obtain⟨aQ,o,F⟩:=af j _ (iB (by rw[←O];exact ag));rw[E]at o;cases o;exact⟨_,iB (by rw[←O];exact ag),F⟩
 refine⟨ao,ap,_,_,_,h.step au ar ⟨aA,p.ms,p.ml,az.trans p.us,p.wt,p.ep,p.hX,p.gen,⟨p.num.hX,p.num.gen,p.num.hO,p.num.h7,by show ay<_;have:=p.num.hN;omega⟩,p.mm,p.rs,p.dl,p.dg,p.xl,p.ol⟩,
  ⟨⟨⟨A.pm.act,A.pm.hO,A.pm.jB,A.pm.kept,A.pm.h7,A.pm.j5⟩,A.ls,A.ss⟩,aB.lL (Y.lL V),aa.trans O,?_,?_,?_,?_,ai,aj,ak⟩⟩
 ·show aw=s.p∨(r.dn++J≠[]∧t.r.q=true)
  rw[R,←x.p];exact ab
 ·show ax=s.em∨r.dn++J≠[]
  rw[R,←x.em];exact ac
 ·intro i Q
  have Q:i∈r.dn++J:=Q;rw[R]at Q;obtain⟨j,m,m',o,F,I,ah,aR⟩:=ad i Q;obtain⟨aD,S,aE⟩:=aC j m F;exact⟨j,aD,m',o,S,I,ah,by omega⟩
 intro j m m' o F I ah;obtain⟨D,S,aE⟩:=af j m o;have:=ae j D m' S F I (by omega);rw[p.ep]at this;exact this
theorem Ge{s:hA}{c:hl}{κ:hr}{t:Tk}{d:hl}{r:Rc}(z:FG s c)(Q:c.du.length≤60000)(h:kc g L w s c s.ep 384 κ t d r W)(x:X7 s c t d r):
 Calls prog 67 #[.pointer (some ⟨g,0,none⟩)] W fun e E=>e=oX∧∃R t d r,kc g L w s c s.ep 512 R t d r E∧X7 s c t d r:=by
 have p:=h.pi;have ar:=z.ep;refine(FR κ g t d r W h.at_ p.hc (j6 p.hc).lH.cap p.ms (by have:=h.at_.kz;have:=p.ml;omega) (by rw[p.us];have:=z.us;omega) (p.td z Q (by omega) (by omega))).mono ?_;rintro e E ⟨T,au,av,S,⟨pu,aw,ax,rfl,rfl,U,ay,V⟩,X,F,az,d',o',Y,Z,A,G,I,J,K,aa,aA,ab,O⟩;obtain⟨ac,aB,aC,aD⟩:=S;simp only at G I J K ab O F;subst G I J;obtain⟨⟨o,⟨k,ad,ae,af,ag⟩,ah⟩,ai,aj,ak,al,am,an,ao,ap,aq⟩:=x;exact⟨T,ac,_,_,_,h.step F X ⟨p.hc,aa,by show Y.length≤_;rw[K,U];exact p.ml,V.trans p.us,p.wt,p.ep,p.hX,p.gen,⟨p.num.hX,p.num.gen,p.num.hO,p.num.h7,p.num.hN⟩,p.mm,p.rs,by show Z.length≤_;have:=p.dl;omega,fun y D=>(by have:=O s.ep (by rw[p.ep];omega) (by rw[p.ep];exact p.dg) y D;rw[p.ep]at this;exact this),by show(jV d.xs A).length≤_;have:=qS d.xs A;have:=p.xl;omega,by show(r.os++A).length≤_;rw[List.length_append];have:=p.ol;omega⟩,
  ⟨⟨o.act,o.hO,o.jB,o.kept,o.h7,o.j5⟩,⟨k,ad,ae,af,fun y D=>List.mem_append_left _ (ag y D)⟩,ah⟩,ai,aj,ak,al,am,an,ao,ap,aq⟩
structure r7 (g L:Nat) (w:World) (s:hA) (c:hl) (κ:hr) (t:Tk) (d:hl) (r:Rc) (W:World):Prop where
 at_:hK κ g t d r W
 low:∀k,k<L→κ k=10
 le:L≤W.heap.size
 below:Below L w W
 iq:jE t.s d
 nj:nJ t.s d
 law:qZ s c t.s d t.r r
theorem y9{P:Nat→Prop}{xs:List Nat}{rs:List (List Nat)}(r:P xs.length)(h:∀i,i<rs.length→P (hq.ro rs i).length)(i:Nat)(o:i<(hq.nC xs rs).length):P (hq.ro (hq.nC xs rs) i).length:=by
 unfold hq.nC at o⊢;cases i with
 |zero=>exact r
 |succ i=>
  rw[List.length_cons,List.length_take]at o;rw[hq.Dd,hq.De (by omega)];exact h i (by omega)
theorem Gf{s:hA}{c:hl}{κ:hr}{t:Tk}{d:hl}{r:Rc}(o:FG s c)(Y:c.du.length≤60000)(h:kc g L w s c s.ep 512 κ t d r W)(x:X7 s c t d r):
 Calls prog 68 #[.pointer (some ⟨g,0,none⟩)] W fun e I=>e=oX∧∃O t d r,r7 g L w s c O t d r I:=by
 have p:=h.pi;have Z:=o.ep;have aa:=h.at_.row.n.ri.1;have ab:d.rs.length≤8:=by rw[p.rs];exact o.rl
 have J:∀i,i<d.rs.length→(hq.ro d.rs i).length≤1000000:=fun i z=>by rw[p.rs]at z⊢;rw[o.rs i z];omega
 refine(E3 κ g t d r W h.at_ p.hc p.ms (by have:=h.at_.kz;have:=p.ml;omega) (by rw[p.mm,o.mm];omega) (by rw[p.ep];omega) (by omega) (fun i z=>J i (by omega))).mono ?_;rintro e I ⟨Q,R,S,T,ad,E,ae,U,V,af,X⟩;have A:=p.num;have ag:t.s.du.n=d.du.length:=(h.at_.row.n.du.len Du.len (by omega)).symm;have ah:t.s.pu.n=d.us.length:=h.at_.row.n.pu.1.symm;have ai:=h.at_.kz;have aj:=p.ml;have ak:=p.us;have al:=o.us;have an:=p.dl;have ao:t.s.po.n=d.ds.length:=(h.at_.row.n.po.len h'.len (by omega)).symm;have ap:t.s.mo.n=d.mo.length:=(h.at_.row.n.mo.len hp.len (by omega)).symm;have aq:=x.kT;have ar:=o.kT;have au:=x.dl;have av:=x.es;have aw:=p.xl;have ax:d.es.length=t.s.en.n:=by have:=h.at_.row.en.own.1;rw[List.length_map]at this;omega
 have ay:d.xs.length=t.s.ex.n:=by have:=h.at_.row.ex.own.1;rw[List.length_map]at this;omega
 refine⟨Q,R,_,_,_,X,fun k F=>(E.jl k (by have:=h.le;omega)).trans (h.low k F),Nat.le_trans h.le E.size,h.below.trans (E.below h.le fun k F=> .inr (h.low k F)),⟨A.hX,A.gen,A.hO,A.h7,A.hN,fun m D=>(U m D).iq,x.ds,fun y G=>(p.dg y G).am,fun y G=>(by have k:=p.dg y G;exact⟨k.ac,by have:=k.lo;have:=k.hi;omega⟩),fun m D=>⟨(x.mg m D).yl,(x.mg m D).nl⟩,fun i z=>?_,by show t.s.pu.n≤_;omega,by show t.s.me.n≤_;omega,by show t.s.po.n≤_;omega,by show t.s.du.n≤_;omega,by show t.s.mo.n≤_;omega,by show T.n≤_;omega⟩,⟨by show t.s.en.n≤_;omega,by show t.s.ex.n≤_;omega,by show(hq.nC d.mm d.rs).length≤_;rw[hq.xT];omega,fun i z=>y9 (P:=fun n=>0<n) (by rw[p.mm,o.mm];omega) (fun j K=>by rw[p.rs]at K⊢;rw[o.rs j K];omega) i z⟩,
  ⟨o.hc,by show t.r.act<_;rw[x.x.pm.act];exact y8 o.ms o.ml,x.x.pm.act,x.x.pm.hO,x.x.pm.jB,x.x.pm.kept,x.x.pm.h7,x.x.pm.j5,o.room,p.hX,by show t.s.ep+1=_;rw[p.ep],x.x.ss,x.x.ls,p.dl,p.dg,x.kT,x.par,x.qY,x.dn,x.ends⟩⟩
 refine y9 (P:=fun n=>n≤1000000) (by rw[p.mm,o.mm];omega) J i ?_;have z:i<S.n:=z;rw[V]at z;rw[hq.xT];omega
theorem rh(s:hA)(c:hl)(w:World)(h:Lay s c w w.heap.size)(au:s.Ok)(aE:jE s c)(S:nJ s c):
 Calls prog 20 #[.agg s.cs] w (F7 s c w):=by
 have aF:=fun(W:World) (cj:Below w.heap.size w W)=>(h.below cj).more cj.size;have c4:=aE.pn;have c5:=aE.mn;have c6:=aE.uJ;have c7:=aE.s9;have ck:=aE.uK;have c8:=aE.yk;have c9:=S.en;have da:=S.ex;have av:=S.rn;obtain⟨db,dc,dd,de,df,dg,dh,di⟩:=mI (fun W (o:Below w.heap.size w W)=>wS s.pu.A s.pu.n s.pu.c (c.us.map wv) W (p2.1 (aF W o).pu).1 (fun u aG=>by obtain⟨b,_,rfl⟩:=List.mem_map.1 aG;rfl) (by omega) au.pu.none) (fun W (o:Below w.heap.size w W)=>A9 s.me.A s.me.n s.me.c (flat Mem.enc c.ms) W (aF W o).me (Mem.one c.ms) (by omega) au.me.none) (fun W (o:Below w.heap.size w W)=>wT s.en.A s.en.n s.en.c (c.es.map iw) W (kD.1 (aF W o).en) (fun u aG=>by obtain⟨b,_,rfl⟩:=List.mem_map.1 aG;rfl) (by omega) au.en.none) (fun W (o:Below w.heap.size w W)=>wT s.ex.A s.ex.n s.ex.c (c.xs.map iw) W (kD.1 (aF W o).ex) (fun u aG=>by obtain⟨b,_,rfl⟩:=List.mem_map.1 aG;rfl) (by omega) au.ex.none) (fun W (o:Below w.heap.size w W)=>hB.qA s.po.A s.po.n s.po.c (flat h'.enc c.ds) W (aF W o).po (h'.one c.ds) (by omega) au.po.none) (fun W (o:Below w.heap.size w W)=>hB.pV s.du.A s.du.n s.du.c (flat Du.enc c.du) W (aF W o).du (Du.one c.du) (by omega) au.du.none) (fun W (o:Below w.heap.size w W)=>wW s.mo.A s.mo.n s.mo.c (flat hp.enc c.mo) W (aF W o).mo (hp.one c.mo) (by omega) au.mo.none) (fun W (o:Below w.heap.size w W)=>wU s.ma.A s.ma.n s.ma.c (c.mm.map hq.jq) W (lK.1 (aF W o).ma).1 (fun u aG=>by obtain⟨b,_,rfl⟩:=List.mem_map.1 aG;rfl) (by omega) au.ma.none);obtain⟨bD,cl,cm,cn⟩:=F6 h.ri;have co:c.rs.length=s.ri.n:=h.ri.1;obtain⟨dj,dk,bE,cp,aU,a5⟩:=ku (fun W (o:Below w.heap.size w W)=>Bc s.ri.A s.ri.n s.ri.c (bD.map Sl.v) W ((cm.below o).more o.size) (fun u aG=>by obtain⟨b,_,rfl⟩:=List.mem_map.1 aG;rfl) (by omega) au.ri.none) (fun m (ap:m∈c.mo) W (o:Below w.heap.size w W)=>((h.mv m ap).below o).more o.size) (kY (show c.mo.length=s.mo.n from h.mo.len hp.len (by omega)) (And.intro aE.mo ck)) (And.intro h.pu.2.1 h.ma.2.1) (And.intro cl (And.intro cn (And.intro co (And.intro S.rp (And.intro av aE.rs))))) (OB.start s w);obtain⟨dl,bO⟩:=ho ((w.alloc (.cells s.cs 46)).alloc (.cells hC.h4 46));rw[bO]at a5;obtain⟨eb,cq⟩:=ho (iz (iz (iQ w.heap.size) w.heap.size 8) (w.heap.size+1) 8);rw[cq]at a5;have cr:Hid ((w.alloc (.cells s.cs 46)).alloc (.cells pL 46)=dl):=g' bO;clear bO cq h au aE S aF c4 c5 c6 c7 ck c8 c9 da av cm cl cn co;go_enter func20,ntmps20;go_upto_region 1 with(fail)
 rw[cr.out];clear cr;have bP:=a5.out.box.cell (j:=32) (v:= .slice s.pu.A s.pu.n s.pu.c) rfl;go_wp2_with fail;refine(db _ a5.out.hb).mono ?_;rintro e dm ⟨v,rfl,I,o⟩;obtain⟨T,rfl,ct,E⟩:=a5.out.pu o cp.out.1 I;clear bP;have bP:=E.box.cell (j:=32) (v:= .slice s.pu.A s.pu.n s.pu.c) rfl;have dn:=E.box.frozen 32;obtain⟨a',dp⟩:=hg (E.put (B':={s with pu:=T}) 32 (.slice T.A T.n T.c) rfl) ct;clear I o E ct;simp only[Sl.v];go_upto_region 2 with(fail)
 obtain⟨ec,bQ⟩:=ho (dm.setCell ⟨w.heap.size,32,none⟩ (.slice T.A T.n T.c));rw[bQ]at a';try rw[bQ]
 clear bQ bP dn a5;have bR:=a'.out.box.cell (j:=33) (v:= .slice s.me.A s.me.n s.me.c) rfl;go_wp2_with fail;refine(dc _ a'.out.hb).mono ?_;rintro e ag ⟨v,rfl,I,o⟩;obtain⟨U,rfl,cu,ed,E⟩:=a'.out.me o I;clear bR;have bR:=E.box.cell (j:=33) (v:= .slice s.me.A s.me.n s.me.c) rfl;have dq:=E.box.frozen 33;obtain⟨aH,dr⟩:=hg (E.put (B':={s with pu:=T,me:=U}) 33 (.slice U.A U.n U.c) rfl) cu;clear I o E cu;simp only[Sl.v];go_upto_region 3 with(fail)
 obtain⟨cv,bS⟩:=ho (ag.setCell ⟨w.heap.size,33,none⟩ (.slice U.A U.n U.c));rw[bS]at aH;try rw[bS]
 clear bS bR dq a';go_wp2;refine gZ.rg (fun w'=>True) (fun w'=>Below cv.heap.size cv w') 7 10 (by kernel_rfl) (by rintro _ _ (_|_) _ _ h<;>exact h) trivial hM fun ah D=>?_;refine gZ.tq ah 6 (gZ.sq 0 2 true (gZ.sq 3 2 true [])) (by kernel_rfl) D ?_;iterate 4(refine gZ.t1 rfl rfl (fun w' Q=>by try simp only[S3];first|(have⟨hS,G⟩:=Q;have aw:=(aH.out.box.to G).cell (j:=34) (v:= .slice s.en.A s.en.n s.en.c) rfl;have ax:=(aH.out.box.to G).cell (j:=35) (v:= .slice s.ex.A s.ex.n s.ex.c) rfl;go_simp;try rfl;done)|(go_simp;try rfl)) ?_;try simp only[S4,S3])
 refine gZ.hH (fun D=>?_);refine gZ.hY 2 (n:=5) rfl rfl (by kernel_rfl) (fun K J=>?_);(try simp only[S3])
 go_simp;have V:=D.2 rfl;have aV:=aH.out.below V;refine(dd _ aV.hb).mono ?_;rintro e dt ⟨v,rfl,I,o⟩;obtain⟨ab,rfl,cw,ee,E⟩:=aV.en o I;obtain⟨aW,dv,aI⟩:=hs E cw (V.trans (o.mono V.size));clear V aV I o E cw;simp only[Sl.v];refine J.out _ _ trivial aI (fun D=>?_);(try simp only[S4,S3])
 refine gZ.tq ah 4 [(6,true)] (by kernel_rfl) D ?_;iterate 1(refine gZ.t1 rfl rfl (fun w' Q=>by try simp only[S3];first|(have⟨hS,G⟩:=Q;have aw:=(aH.out.box.to G).cell (j:=34) (v:= .slice s.en.A s.en.n s.en.c) rfl;have ax:=(aH.out.box.to G).cell (j:=35) (v:= .slice s.ex.A s.ex.n s.ex.c) rfl;go_simp;try rfl;done)|(go_simp;try rfl)) ?_;try simp only[S4,S3])
 refine gZ.hH (fun D=>?_);refine gZ.hY 5 (n:=3) rfl rfl (by kernel_rfl) (fun K J=>?_);(try simp only[S3])
 go_simp;refine(de _ aW.out.hb).mono ?_;rintro e bT ⟨v,rfl,I,o⟩;obtain⟨ac,rfl,cx,cy,E⟩:=aW.out.ex o I;obtain⟨aJ,dw,ba⟩:=hs E cx (aI.out.trans (o.mono aI.out.size));clear I o E cx;simp only[Sl.v];refine J.out _ _ trivial ba (fun D=>?_);(try simp only[S4,S3])
 refine gZ.jc 7 (n:=2) rfl rfl (by kernel_rfl) (by kernel_rfl) (fun K J=>?_);(try simp only[S3])
 have dx:=aJ.out.box.cell (j:=34) (v:= .slice s.en.A s.en.n s.en.c) rfl;have dy:=aJ.out.box.frozen 34;have aK:=g' (aJ.out.put (B':={s with pu:=T,me:=U,en:=ab}) 34 (.slice ab.A ab.n ab.c) rfl);go_simp;refine J.out _ _ trivial (fun D=>?_);refine gZ.tq ah 1 [(8,false)] (by kernel_rfl) D ?_;iterate 1(refine gZ.t1 rfl rfl (fun w' Q=>by try simp only[S3];first|(have⟨hS,G⟩:=Q;have aw:=(aH.out.box.to G).cell (j:=34) (v:= .slice s.en.A s.en.n s.en.c) rfl;have ax:=(aH.out.box.to G).cell (j:=35) (v:= .slice s.ex.A s.ex.n s.ex.c) rfl;go_simp;try rfl;done)|(go_simp;try rfl)) ?_;try simp only[S4,S3])
 refine gZ.hH (fun D=>?_);refine gZ.jc 9 (n:=0) rfl rfl (by kernel_rfl) (by kernel_rfl) (fun K J=>?_);(try simp only[S3])
 have dz:=aK.out.box.cell (j:=35) (v:= .slice s.ex.A s.ex.n s.ex.c) rfl;have dA:=aK.out.box.frozen 35;have aL:=g' (aK.out.put (B':={s with pu:=T,me:=U,en:=ab,ex:=ac}) 35 (.slice ac.A ac.n ac.c) rfl);go_simp;refine J.out _ _ trivial (fun D=>?_);clear D;refine gZ.ia rfl ?_;obtain⟨cz,bU⟩:=ho ((bT.setCell ⟨w.heap.size,34,none⟩ (.slice ab.A ab.n ab.c)).setCell ⟨w.heap.size,35,none⟩ (.slice ac.A ac.n ac.c));rw[bU]at aL;try rw[bU]
 clear bU dx dy dz dA aH aW aJ aK aI ba;go_wp2;refine gZ.rg (fun w'=>True) (fun w'=>Below cz.heap.size cz w') 7 10 (by kernel_rfl) (by rintro _ _ (_|_) _ _ h<;>exact h) trivial hM fun ah D=>?_;refine gZ.tq ah 6 (gZ.sq 0 2 true (gZ.sq 3 2 true [])) (by kernel_rfl) D ?_;iterate 4(refine gZ.t1 rfl rfl (fun w' Q=>by try simp only[S3];first|(have⟨hS,G⟩:=Q;have aw:=(aL.out.box.to G).cell (j:=36) (v:= .slice s.po.A s.po.n s.po.c) rfl;have ax:=(aL.out.box.to G).cell (j:=37) (v:= .slice s.du.A s.du.n s.du.c) rfl;go_simp;try rfl;done)|(go_simp;try rfl)) ?_;try simp only[S4,S3])
 refine gZ.hH (fun D=>?_);refine gZ.hY 2 (n:=5) rfl rfl (by kernel_rfl) (fun K J=>?_);(try simp only[S3])
 go_simp;have V:=D.2 rfl;have aV:=aL.out.below V;refine(df _ aV.hb).mono ?_;rintro e dt ⟨v,rfl,I,o⟩;obtain⟨ad,rfl,cA,E⟩:=aV.po o I;obtain⟨aW,dB,aI⟩:=hs E cA (V.trans (o.mono V.size));clear V aV I o E cA;simp only[Sl.v];refine J.out _ _ trivial aI (fun D=>?_);(try simp only[S4,S3])
 refine gZ.tq ah 4 [(6,true)] (by kernel_rfl) D ?_;iterate 1(refine gZ.t1 rfl rfl (fun w' Q=>by try simp only[S3];first|(have⟨hS,G⟩:=Q;have aw:=(aL.out.box.to G).cell (j:=36) (v:= .slice s.po.A s.po.n s.po.c) rfl;have ax:=(aL.out.box.to G).cell (j:=37) (v:= .slice s.du.A s.du.n s.du.c) rfl;go_simp;try rfl;done)|(go_simp;try rfl)) ?_;try simp only[S4,S3])
 refine gZ.hH (fun D=>?_);refine gZ.hY 5 (n:=3) rfl rfl (by kernel_rfl) (fun K J=>?_);(try simp only[S3])
 go_simp;refine(dg _ aW.out.hb).mono ?_;rintro e bT ⟨v,rfl,I,o⟩;obtain⟨ae,rfl,cB,E⟩:=aW.out.du o I;obtain⟨aJ,dC,ba⟩:=hs E cB (aI.out.trans (o.mono aI.out.size));clear I o E cB;simp only[Sl.v];refine J.out _ _ trivial ba (fun D=>?_);(try simp only[S4,S3])
 refine gZ.jc 7 (n:=2) rfl rfl (by kernel_rfl) (by kernel_rfl) (fun K J=>?_);(try simp only[S3])
 have dD:=aJ.out.box.cell (j:=36) (v:= .slice s.po.A s.po.n s.po.c) rfl;have dE:=aJ.out.box.frozen 36;have aK:=g' (aJ.out.put (B':={s with pu:=T,me:=U,en:=ab,ex:=ac,po:=ad}) 36 (.slice ad.A ad.n ad.c) rfl);go_simp;refine J.out _ _ trivial (fun D=>?_);refine gZ.tq ah 1 [(8,false)] (by kernel_rfl) D ?_;iterate 1(refine gZ.t1 rfl rfl (fun w' Q=>by try simp only[S3];first|(have⟨hS,G⟩:=Q;have aw:=(aL.out.box.to G).cell (j:=36) (v:= .slice s.po.A s.po.n s.po.c) rfl;have ax:=(aL.out.box.to G).cell (j:=37) (v:= .slice s.du.A s.du.n s.du.c) rfl;go_simp;try rfl;done)|(go_simp;try rfl)) ?_;try simp only[S4,S3])
 refine gZ.hH (fun D=>?_);refine gZ.jc 9 (n:=0) rfl rfl (by kernel_rfl) (by kernel_rfl) (fun K J=>?_);(try simp only[S3])
 have dF:=aK.out.box.cell (j:=37) (v:= .slice s.du.A s.du.n s.du.c) rfl;have dG:=aK.out.box.frozen 37;have bb:=g' (aK.out.put (B':={s with pu:=T,me:=U,en:=ab,ex:=ac,po:=ad,du:=ae}) 37 (.slice ae.A ae.n ae.c) rfl);go_simp;refine J.out _ _ trivial (fun D=>?_);clear D;refine gZ.ia rfl ?_;obtain⟨ef,bV⟩:=ho ((bT.setCell ⟨w.heap.size,36,none⟩ (.slice ad.A ad.n ad.c)).setCell ⟨w.heap.size,37,none⟩ (.slice ae.A ae.n ae.c));rw[bV]at bb;try rw[bV]
 clear bV dD dE dF dG aL aW aJ aK aI ba;have bc:=bb.out.box.cell (j:=38) (v:= .slice s.mo.A s.mo.n s.mo.c) rfl;go_wp2_with fail;refine(dh _ bb.out.hb).mono ?_;rintro e cC ⟨v,rfl,I,o⟩;obtain⟨⟨ai,X,Y⟩,rfl,aX,-⟩:=jZ I;simp only at aX;subst aX;have aY:=r5 (κ:=cy) (x:=9) (s:=⟨ai,s.mo.n,Y⟩) I;have E:=bb.out.qm (x:=9) o I;obtain⟨ay,aT⟩:=ho (oW cy (⟨ai,s.mo.n,Y⟩:Sl) 9);rw[aT]at aY E;clear aT bc;have bc:=E.box.cell (j:=38) (v:= .slice s.mo.A s.mo.n s.mo.c) rfl;have dH:=E.box.frozen 38;obtain⟨bd,bF⟩:=hg (E.put (B':={s with pu:=T,me:=U,en:=ab,ex:=ac,po:=ad,du:=ae,mo:=⟨ai,s.mo.n,Y⟩}) 38 (.slice ai s.mo.n Y) rfl) (aY.hT ((hn.refl w.heap.size cC).setCell (p:=⟨w.heap.size,38,none⟩) (.inl rfl) (.slice ai s.mo.n Y)) (by rw[E.kb];decide));clear I o E aY bb;simp only[Sl.v];go_upto_region 6 with(fail)
 obtain⟨eg,bW⟩:=ho (cC.setCell ⟨w.heap.size,38,none⟩ (.slice ai s.mo.n Y));rw[bW]at bd bF;try rw[bW]
 clear bW bc dH;obtain⟨X,aX⟩:=hk s.mo.n;obtain⟨a6,dI⟩:=hg (show c.mo.length=X∧X≤1000000 by rw[aX];exact⟨bE.out.1,bE.out.2.2⟩) aX;rw[←aX]at bd bF⊢;clear aX;have bc:=bd.out.box.cell (j:=38) (v:= .slice ai X Y) rfl;go_wp2;go_loopw [36] (fun aZ wr=>∃(k:Nat) (an:List hp),aZ=int i64 k∧k≤X∧an.length=k∧OB w w.heap.size ay ({s with pu:=T,me:=U,en:=ab,ex:=ac,po:=ad,du:=ae,mo:=⟨ai,X,Y⟩}) ({s.bare with pu:=T,me:=U,en:=ab,ex:=ac,po:=ad,du:=ae}) ({hl.nil with us:=c.us,ms:=c.ms,es:=c.es,xs:=c.xs,ds:=c.ds,du:=c.du}) wr∧iY ay wr 59 33 9 ⟨ai,X,Y⟩ (flat hp.enc (an++c.mo.drop k))∧(∀m∈an,m.At (hL ay wr) wr.heap.size)∧
  ∀(j:Nat) (m:hp),j<k→c.mo[j]?=some m→∃y z,an[j]?=some (m.ly y z)∧y.n=m.yh.n∧z.n=m.nh.n) (fun aZ _=>X-(intOf aZ).toNat)
 case atStart=>exact⟨0,[],rfl,h6,rfl,bd,by rw[List.drop_zero];exact bF,(fun m ap=>by cases ap),fun j m cD=>absurd cD (by omega)⟩
 case round=>
  obtain⟨k,an,rfl,bX,aM,O,Z,aN,aO⟩:=hrel;clear bd bF bc;by_cases aj:k<X
  ·have bY:decide (k<X)=true:=by simpa using aj
   have bZ:i64.wrap ((k:Int)+1)=((k+1:Nat):Int):=by have:=a6.out.2;rw[IntKind.wrap_i64];omega
   rcases Z.ok with⟨_,b0,_⟩|⟨g,be,b1,b2⟩
   ·simp only at b0;omega
   simp only at be b1 b2;subst be;have a0:=Z.jl _ rfl;simp only at a0;obtain⟨m,ap⟩:∃m,c.mo[k]?=some m:=⟨_,iB (by rw[a6.out.1];exact aj)⟩;have b3:(an++c.mo.drop k)[k]?=some m:=by rw[List.getElem?_append_right (by omega),aM,Nat.sub_self,List.getElem?_drop,Nat.add_zero];exact ap
   have a7:wr.ownsRow 0 59 33 (.slice (some ⟨g,0,none⟩) X Y) X (flat hp.enc (an++c.mo.drop k)):=Z.own;have b4:=nH hp.len a7 b3;have bf:=oP a7 (k*33+31) 2 (by have:(k+1)*33≤X*33:=Nat.mul_le_mul_right _ aj;omega);have bG:wr.cell? ⟨g,k*33+31,none⟩=some (.slice m.yh.A m.yh.n m.yh.c):=b4 31 _ rfl;have bH:wr.cell? ⟨g,k*33+32,none⟩=some (.slice m.nh.A m.nh.n m.nh.c):=b4 32 _ rfl;have bI:=List.mem_of_getElem? ap;have bg:=dk.out m bI;obtain⟨b5,dJ,dK,dL,az,aP,bJ,aA⟩:=mI (fun W (o:Below wr.heap.size wr W)=>oR (c:=m.yh.c) (bg W (O.hb.trans (o.mono O.hb.size))).ys (bE.out.2.1 m bI).1 (bg W (O.hb.trans (o.mono O.hb.size))).yo.none) (fun W (o:Below wr.heap.size wr W)=>oR (c:=m.nh.c) (bg W (O.hb.trans (o.mono O.hb.size))).ns (bE.out.2.1 m bI).2 (bg W (O.hb.trans (o.mono O.hb.size))).no.none) b3 ap O (And.intro Z (And.intro aN aO)) bf aM;have bh:g<wr.heap.size:=Z.lt rfl;obtain⟨aQ,a8⟩:=hg bh a0;clear O Z aN aO ap b3 b4 bf bI bg aM bh a7 a0;go_wp2;have cE:=g' (show w.heap.size≠g from fun e=>by have R:=az.out.kb;rw[e]at R;have S:=a8.out;omega);have bK:=az.out.box.cell (j:=38) (v:= .slice (some ⟨g,0,none⟩) X Y) rfl;have cF:=g' az.out.box.lt;refine gZ.rg (fun w'=>w'.cell? ⟨w.heap.size,38,none⟩=some (.slice (some ⟨g,0,none⟩) X Y)) (fun w'=>Below wr.heap.size wr w'∧w'.cell? ⟨g,k*33+31,none⟩=some (.slice m.yh.A m.yh.n m.yh.c)∧w'.cell? ⟨g,k*33+32,none⟩=some (.slice m.nh.A m.nh.n m.nh.c)) 22 26 (by kernel_rfl) (by rintro _ _ (_|_) _ _ h<;>exact h) bK (⟨hM,bG,bH⟩) fun ah D=>?_;refine gZ.tq ah 8 (gZ.sq 0 3 true (gZ.sq 3 3 false (gZ.sq 6 6 true (gZ.sq 13 3 false (gZ.sq 16 3 true []))))) (by kernel_rfl) D ?_;iterate 18(refine gZ.t1 rfl rfl (fun w' Q=>by try simp only[S3];first|(have⟨hS,G⟩:=Q;have bi:=hS;have aw:=G.2.1;have ax:=G.2.2;go_simp;try rfl;done)|(have bi:=gZ.pF Q;go_simp;try rfl)) ?_;try simp only[S4,S3])
   refine gZ.hH (fun D=>?_);refine gZ.hY 12 (n:=7) rfl rfl (by kernel_rfl) (fun K J=>?_);(try simp only[S3])
   go_simp;have V:=D.2 rfl;refine(b5 _ V.1).mono ?_;rintro e ag ⟨y,rfl,bj,bk,bl,bm,bn⟩;have aR:=hJ V.1 bn;obtain⟨aS,aB⟩:=hg (And.intro bj (And.intro bk (kY (fun ak e=>Nat.le_trans V.1.size (bl ak e)) bm))) aR;have cG:=jt (p:=⟨g,k*33+31,none⟩) aR aQ bG;have cH:=jt (p:=⟨g,k*33+32,none⟩) aR aQ bH;have cI:=jt (p:=⟨w.heap.size,38,none⟩) aR cF bK;clear V bj bk bl bm bn aR;simp only[Sl.v];refine J.out _ _ cI (⟨aB,cG,cH⟩) (fun D=>?_);(try simp only[S4,S3])
   refine gZ.hY 19 (n:=6) rfl rfl (by kernel_rfl) (fun K J=>?_);(try simp only[S3])
   go_simp;refine(dJ _ aB).mono ?_;rintro e af ⟨z,rfl,cJ,cK,cL,cM,b6⟩;have bo:=hJ aB b6;obtain⟨bL,a9,dM⟩:=hs (And.intro cJ (And.intro cK (kY (fun ak e=>Nat.le_trans aB.out.size (cL ak e)) cM))) bo b6;have cN:=jt (p:=⟨g,k*33+31,none⟩) bo aQ bG;have b7:=jt (p:=⟨g,k*33+32,none⟩) bo aQ bH;have b8:=jt (p:=⟨w.heap.size,38,none⟩) bo cF bK;clear cJ cK cL cM b6 bo;simp only[Sl.v];refine J.out _ _ b8 (⟨a9,cN,b7⟩) (fun D=>?_);(try simp only[S4,S3])
   refine gZ.tq ah 4 (gZ.sq 20 2 true []) (by kernel_rfl) D ?_;iterate 2(refine gZ.t1 rfl rfl (fun w' Q=>by try simp only[S3];first|(have⟨hS,G⟩:=Q;have bi:=hS;have aw:=G.2.1;have ax:=G.2.2;go_simp;try rfl;done)|(have bi:=gZ.pF Q;go_simp;try rfl)) ?_;try simp only[S4,S3])
   refine gZ.hH (fun D=>?_);refine gZ.jc 22 (n:=3) rfl rfl (by kernel_rfl) (by kernel_rfl) (fun K J=>?_);(try simp only[S3])
   have dN:af.frozen? ⟨g,k*33+31,none⟩=false:=(a9.out.frozen (p:=⟨g,k*33+31,none⟩) aQ).trans (bJ 0 (by omega)).2;have b9:(af.setCell ⟨g,k*33+31,none⟩ (.slice y.A y.n y.c)).cell? ⟨w.heap.size,38,none⟩=some (.slice (some ⟨g,0,none⟩) X Y):=(World.cell?_setCell_other _ _ _ _ (by intro e;injection e with e _ _;exact cE e.symm)).trans b8;go_simp;refine J.out _ _ b9 (fun D=>?_);refine gZ.tq ah 1 (gZ.sq 23 2 false []) (by kernel_rfl) D ?_;iterate 2(refine gZ.t1 rfl rfl (fun w' Q=>by try simp only[S3];first|(have⟨hS,G⟩:=Q;have bi:=hS;have aw:=G.2.1;have ax:=G.2.2;go_simp;try rfl;done)|(have bi:=gZ.pF Q;go_simp;try rfl)) ?_;try simp only[S4,S3])
   refine gZ.hH (fun D=>?_);refine gZ.jc 25 (n:=0) rfl rfl (by kernel_rfl) (by kernel_rfl) (fun K J=>?_);(try simp only[S3])
   have dO:(af.setCell ⟨g,k*33+31,none⟩ (.slice y.A y.n y.c)).cell? ⟨g,k*33+32,none⟩=some (.slice m.nh.A m.nh.n m.nh.c):=(World.cell?_setCell_other _ _ _ _ (by intro e;injection e with _ e _;omega)).trans b7;have dP:(af.setCell ⟨g,k*33+31,none⟩ (.slice y.A y.n y.c)).frozen? ⟨g,k*33+32,none⟩=false:=by rw[World.frozen?_setCell];exact(a9.out.frozen (p:=⟨g,k*33+32,none⟩) aQ).trans (bJ 1 (by omega)).2
   have cO:((af.setCell ⟨g,k*33+31,none⟩ (.slice y.A y.n y.c)).setCell ⟨g,k*33+32,none⟩ (.slice z.A z.n z.c)).cell? ⟨w.heap.size,38,none⟩=some (.slice (some ⟨g,0,none⟩) X Y):=(World.cell?_setCell_other _ _ _ _ (by intro e;injection e with e _ _;exact cE e.symm)).trans b9;go_simp;refine J.out _ _ cO (fun D=>?_);clear D;refine gZ.ia rfl ?_;have bp:=aP.out.1.below a9;have a1:=mz [.slice y.A y.n y.c,.slice z.A z.n z.c] (k*33+31) af _ bp.own;rw[qd (d':=m.ly y z) hp.len dK.out (by show 31+2≤33;omega) rfl]at a1;have bq:hn g af (af.setCells g (k*33+31) [.slice y.A y.n y.c,.slice z.A z.n z.c]):=hn.setCells _ _ _ (hn.refl g af);obtain⟨br,a2⟩:=hg a1 bq;clear bp a1 bq bG bH cG cH cN b7 dO dN dP bK cI b8 b9 cO;have bt:(af.setCell ⟨g,k*33+31,none⟩ (.slice y.A y.n y.c)).setCell ⟨g,k*33+32,none⟩ (.slice z.A z.n z.c)=af.setCells g (k*33+31) [.slice y.A y.n y.c,.slice z.A z.n z.c]:=rfl;rw[bt];obtain⟨a3,bu⟩:=ho (af.setCells g (k*33+31) [.slice y.A y.n y.c,.slice z.A z.n z.c]);rw[bu]at br a2⊢;clear bt bu;go_wp2;have a4:ht ay af ay a3:= .hT a2 (by rw[a8.out];decide);have bv:ht ay wr ay a3:=(ht.of a9).trans a4;have bM:=fun q (b':wr.heap.size≤q)=>az.out.r.fresh q b';have dQ:(m.ly y z).At (hL ay a3) a3.heap.size:=by
    have R:=aS.out.2.2.2.to dM;have S:=bL.out.2.2.2;have F:(m.ly y z).At (hL ay af) af.heap.size:=⟨⟨R.1,R.2.1,Rd.hid R.2.2 fun ak e=>bM _ (aS.out.2.2.1 ak e)⟩,⟨S.1,S.2.1,Rd.hid S.2.2 fun ak e=>bM _ (bL.out.2.2.1 ak e)⟩,aS.out.2.1,bL.out.2.1⟩;exact(F.below a4.hL).more a4.size
   refine⟨⟨k+1,an++[m.ly y z],by first|rfl|rw[bZ],by omega,by rw[List.length_append,aA.out];rfl,(az.out.below a9).hT a2 a8,⟨?_,aP.out.1.jl⟩,fun x al=>?_,fun j x cD al=>?_⟩,by simp[intOf];omega⟩
   ·have R:=br.out
    rw[List.set_append_right _ _ (by rw[aA.out];exact hj),aA,Nat.sub_self]at R;rw[List.append_assoc];have S:(c.mo.drop k).set 0 (m.ly y z)=[m.ly y z]++c.mo.drop (k+1):=by
     rw[List.drop_eq_getElem_cons (by rw[a6.out.1];exact aj)];rfl
    rw[S]at R;exact R
   ·rcases List.mem_append.1 al with al|al
    ·exact((aP.out.2.1 x al).below bv.hL).more bv.size
    obtain rfl:=List.mem_singleton.1 al;exact dQ
   by_cases dR:j=k
   ·subst dR
    rw[dL.out]at al;cases al;exact⟨y,z,by rw[List.getElem?_append_right (by rw[aA.out];exact hj),aA,Nat.sub_self];rfl,aS.out.1,bL.out.1⟩
   obtain⟨dS,dT,R,S⟩:=aP.out.2.2 j x (by omega) al;exact⟨dS,dT,by rw[List.getElem?_append_left (by rw[aA.out];omega)];exact R,S⟩
  have bY:decide (k<X)=false:=by simpa using aj
  obtain rfl:k=X:=by omega
  rw[List.drop_of_length_le (by rw[a6.out.1];exact hj),List.append_nil]at Z;obtain⟨bw,dU⟩:=hg (O.mo Z aN) (show k0 c.mo an from⟨aM.trans a6.out.1.symm,fun j m ap=>aO j m (by have:=(jh.1 ap).1;rw[a6.out.1]at this;exact this) ap⟩);clear O Z aN aO aM aj bX;obtain⟨cP,aT⟩:=ho (jw ay);rw[aT]at bw;clear aT;have ca:=bw.out.box.cell (j:=39) (v:= .slice s.ma.A s.ma.n s.ma.c) rfl;go_wp2_with fail;refine(di _ bw.out.hb).mono ?_;rintro e dV ⟨v,rfl,I,o⟩;obtain⟨aq,rfl,cQ,E⟩:=bw.out.ma o cp.out.2 I;clear ca;have ca:=E.box.cell (j:=39) (v:= .slice s.ma.A s.ma.n s.ma.c) rfl;have dW:=E.box.frozen 39;obtain⟨bx,dX⟩:=hg (E.put (B':={s with pu:=T,me:=U,en:=ab,ex:=ac,po:=ad,du:=ae,mo:=⟨ai,k,Y⟩,ma:=aq}) 39 (.slice aq.A aq.n aq.c) rfl) cQ;clear I o E cQ;simp only[Sl.v];go_upto_region 12 with(fail)
  obtain⟨eh,cb⟩:=ho (dV.setCell ⟨w.heap.size,39,none⟩ (.slice aq.A aq.n aq.c));rw[cb]at bx;try rw[cb]
  clear cb ca dW bw;have bz:=bx.out.box.cell (j:=40) (v:= .slice s.ri.A s.ri.n s.ri.c) rfl;go_wp2_with fail;refine(dj _ bx.out.hb).mono ?_;rintro e cR ⟨v,rfl,I,o⟩;obtain⟨⟨aC,aa,am⟩,rfl,av,-⟩:=jZ I;simp only at av;subst av;have aY:=r5 (κ:=cP) (x:=9) (s:=⟨aC,s.ri.n,am⟩) I;have E:=bx.out.qm (x:=9) o I;obtain⟨aD,aT⟩:=ho (oW cP (⟨aC,s.ri.n,am⟩:Sl) 9);rw[aT]at aY E;clear aT bz;have bz:=E.box.cell (j:=40) (v:= .slice s.ri.A s.ri.n s.ri.c) rfl;have dY:=E.box.frozen 40;obtain⟨bA,bN⟩:=hg (E.put (B':={s with pu:=T,me:=U,en:=ab,ex:=ac,po:=ad,du:=ae,mo:=⟨ai,k,Y⟩,ma:=aq,ri:=⟨aC,s.ri.n,am⟩}) 40 (.slice aC s.ri.n am) rfl) (aY.hT ((hn.refl w.heap.size cR).setCell (p:=⟨w.heap.size,40,none⟩) (.inl rfl) (.slice aC s.ri.n am)) (by rw[E.kb];decide));clear I o E aY bx;simp only[Sl.v];go_upto_region 13 with(fail)
  obtain⟨ei,cc⟩:=ho (cR.setCell ⟨w.heap.size,40,none⟩ (.slice aC s.ri.n am));rw[cc]at bA bN;try rw[cc]
  clear cc bz dY;obtain⟨aa,av⟩:=hk s.ri.n;obtain⟨bB,cd⟩:=hg (show bD.length=aa∧c.rs.length=aa∧aa≤1000 by have R:=aU.out.2.2.1;have S:=aU.out.2.2.2.2.1;rw[av];exact⟨aU.out.1,R,by omega⟩) av;rw[←av]at bA bN⊢;clear av;have bz:=bA.out.box.cell (j:=40) (v:= .slice aC aa am) rfl;go_wp2;go_loopw [75] (fun aZ wr=>∃(F:Nat) (ar:List Sl),aZ=int i64 F∧F≤aa∧ar.length=aa∧OB w w.heap.size aD ({s with pu:=T,me:=U,en:=ab,ex:=ac,po:=ad,du:=ae,mo:=⟨ai,k,Y⟩,ma:=aq,ri:=⟨aC,aa,am⟩}) ({s.bare with pu:=T,me:=U,en:=ab,ex:=ac,po:=ad,du:=ae,mo:=⟨ai,k,Y⟩,ma:=aq}) ({hl.nil with us:=c.us,ms:=c.ms,es:=c.es,xs:=c.xs,ds:=c.ds,du:=c.du,mo:=an,mm:=c.mm}) wr∧iY aD wr 36 1 9 ⟨aC,aa,am⟩ (ar.map Sl.v)∧(∀i,i<F→∃x:Sl,ar[i]?=some x∧x.n=(hq.ro c.rs i).length∧x.Ok∧hq.ie (hL aD wr) wr.heap.size x.A x.n (hq.ro c.rs i))∧
   ∀i,F≤i→ar[i]?=bD[i]?) (fun aZ _=>aa-(intOf aZ).toNat)
  case atStart=>exact⟨0,bD,rfl,h6,bB.out.1,bA,bN,(fun i bC=>absurd bC (by omega)),fun i _=>rfl⟩
  case round=>
   obtain⟨F,ar,rfl,bX,aM,O,Z,aN,aO⟩:=hrel;clear bA bN bz;by_cases aj:F<aa
   ·have bY:decide (F<aa)=true:=by simpa using aj
    have bZ:i64.wrap ((F:Int)+1)=((F+1:Nat):Int):=by have:=bB.out.2.2;rw[IntKind.wrap_i64];omega
    rcases Z.ok with⟨_,b0,_⟩|⟨g,be,b1,b2⟩
    ·simp only at b0;omega
    simp only at be b1 b2;subst be;have a0:=Z.jl _ rfl;simp only at a0;obtain⟨x,cS,ce,cf⟩:=aU.out.2.1 F (by rw[←cd.out];exact aj);have al:ar[F]?=some x:=(aO F hj).trans cS;have a7:wr.ownsRow 0 36 1 (.slice (some ⟨g,0,none⟩) aa am) aa (ar.map Sl.v):=Z.own;have bf:=oP a7 F 1 (by omega);have cg:wr.cell? ⟨g,F,none⟩=some (.slice x.A x.n x.c):=by
     obtain⟨ak,e,_,cT⟩:=Z.row.2 F (by show F<aa*1;omega);injection e with e;subst e;rw[hG.k1,kN,List.getElem?_map,al]at cT;exact cT
    have cU:x.A=none→x.n=0∧x.c=0:=fun e=>by
     have R:=aU.out.2.2.2.1 F (by rw[bB.out.2.1];exact aj);obtain⟨ak,cV,_⟩:=cf.2.2 0 (by omega);rw[e]at cV;cases cV
    have cW:x.n≤1000000:=by rw[ce];exact aU.out.2.2.2.2.2 F (by rw[←cd.out];exact aj)
    obtain⟨b5,az,aP,bJ,aA⟩:=jg (fun W (o:Below wr.heap.size wr W)=>oR (c:=x.c) ((cf.below (O.hb.trans (o.mono O.hb.size))).more (O.hb.trans (o.mono O.hb.size)).size) cW cU) O (And.intro Z (And.intro aN aO)) bf (And.intro aM (And.intro al ce));have bh:g<wr.heap.size:=Z.lt rfl;obtain⟨aQ,a8⟩:=hg bh a0;clear O Z aN aO al cS ce cf a7 bf cU cW bh a0 aM;go_wp2;refine gZ.rg (fun w'=>True) (fun w'=>Below wr.heap.size wr w'∧w'.cell? ⟨g,F,none⟩=some (.slice x.A x.n x.c)) 10 11 (by kernel_rfl) (by rintro _ _ (_|_) _ _ h<;>exact h) trivial (⟨hM,cg⟩) fun ah D=>?_;refine gZ.tq ah 3 (gZ.sq 0 8 true []) (by kernel_rfl) D ?_;iterate 8(refine gZ.t1 rfl rfl (fun w' Q=>by try simp only[S3];first|(have⟨hS,G⟩:=Q;have aw:=G.2;have ax:=(az.out.box.to G.1).cell (j:=40) (v:= .slice (some ⟨g,0,none⟩) aa am) rfl;go_simp;try rfl;done)|(go_simp;try rfl)) ?_;try simp only[S4,S3])
    refine gZ.hH (fun D=>?_);refine gZ.hY 8 (n:=2) rfl rfl (by kernel_rfl) (fun K J=>?_);(try simp only[S3])
    go_simp;have V:=D.2 rfl;refine(b5 _ V.1).mono ?_;rintro e ag ⟨y,rfl,bj,bk,bl,bm,bn⟩;have aR:=hJ V.1 bn;obtain⟨aS,aB⟩:=hg (And.intro bj (And.intro bk (kY (fun ak e=>Nat.le_trans V.1.size (bl ak e)) bm))) aR;have cX:=jt (p:=⟨g,F,none⟩) aR aQ cg;clear V bj bk bl bm bn aR;simp only[Sl.v];refine J.out _ _ trivial (⟨aB,cX⟩) (fun D=>?_);(try simp only[S4,S3])
    refine gZ.tq ah 1 [(9,true)] (by kernel_rfl) D ?_;iterate 1(refine gZ.t1 rfl rfl (fun w' Q=>by try simp only[S3];first|(have⟨hS,G⟩:=Q;have aw:=G.2;have ax:=(az.out.box.to G.1).cell (j:=40) (v:= .slice (some ⟨g,0,none⟩) aa am) rfl;go_simp;try rfl;done)|(go_simp;try rfl)) ?_;try simp only[S4,S3])
    refine gZ.hH (fun D=>?_);refine gZ.jc 10 (n:=0) rfl rfl (by kernel_rfl) (by kernel_rfl) (fun K J=>?_);(try simp only[S3])
    have dZ:ag.frozen? ⟨g,F,none⟩=false:=(aB.out.frozen (p:=⟨g,F,none⟩) aQ).trans (bJ 0 (by omega)).2;go_simp;refine J.out _ _ trivial (fun D=>?_);clear D;refine gZ.ia rfl ?_;have bp:=aP.out.1.below aB;have a1:=mz [.slice y.A y.n y.c] F ag _ bp.own;have cY:kS (ar.map Sl.v) F [.slice y.A y.n y.c]=(ar.set F y).map Sl.v:=by rw[List.map_set];rfl
    rw[cY]at a1;have bq:hn g ag (ag.setCells g F [.slice y.A y.n y.c]):=hn.setCells _ _ _ (hn.refl g ag);obtain⟨br,a2⟩:=hg a1 bq;clear bp a1 cY bq cg cX dZ;have bt:ag.setCell ⟨g,F,none⟩ (.slice y.A y.n y.c)=ag.setCells g F [.slice y.A y.n y.c]:=rfl;rw[bt];obtain⟨a3,bu⟩:=ho (ag.setCells g F [.slice y.A y.n y.c]);rw[bu]at br a2⊢;clear bt bu;go_wp2;have a4:ht aD ag aD a3:= .hT a2 (by rw[a8.out];decide);have bv:ht aD wr aD a3:=(ht.of aB).trans a4;have bM:=fun q (b':wr.heap.size≤q)=>az.out.r.fresh q b';have d0:F<ar.length:=by rw[aA.out.1];exact aj
    refine⟨⟨F+1,ar.set F y,by first|rfl|rw[bZ],by omega,by rw[List.length_set];exact aA.out.1,(az.out.below aB).hT a2 a8,⟨br,aP.out.1.jl⟩,fun i bC=>?_,fun i bC=>?_⟩,by simp[intOf];omega⟩
    ·by_cases d1:i=F
     ·subst d1
      have R:=aS.out.2.2.2;have S:hq.ie (hL aD ag) ag.heap.size y.A y.n (hq.ro c.rs i):=⟨R.1,R.2.1,Rd.hid R.2.2 fun ak e=>bM _ (aS.out.2.2.1 ak e)⟩;exact⟨y,List.getElem?_set_self d0,aS.out.1.trans aA.out.2.2,aS.out.2.1,(S.below a4.hL).more a4.size⟩
     obtain⟨d2,R,S,d3,d4⟩:=aP.out.2.1 i (by omega);exact⟨d2,by rw[List.getElem?_set_ne (by omega)];exact R,S,d3,(d4.below bv.hL).more bv.size⟩
    rw[List.getElem?_set_ne (by omega)];exact aP.out.2.2 i (by omega)
   have bY:decide (F<aa)=false:=by simpa using aj
   obtain rfl:F=aa:=by omega
   have cZ:=O.ri (rs:=c.rs) Z bB.out.2.1.symm (fun i bC=>aN i (by rw[←bB.out.2.1];exact bC)) aU.out.2.2.2.1;have c0:=g' cZ;have ch:=O.box;have d5:=O.res;have c1:=O.hb;have ej:=O.lt;clear O Z aN aO aM aj bX cZ;obtain⟨ao,ci⟩:∃ao:hA,ao=({s.bare with pu:=T,me:=U,en:=ab,ex:=ac,po:=ad,du:=ae,mo:=⟨ai,k,Y⟩,ma:=aq,ri:=⟨aC,F,am⟩}):=⟨_,rfl⟩;have ch:ha wr w.heap.size 46 ao.cs:=by rw[ci];exact ch
   have c2:=g' ci;clear ci;go_wp2_with (first|refine hR ch iX (j4 ao) rfl rfl rfl rfl ?_|refine iL rfl 46 (.tmp 2) (.tmp 89) rfl (w.heap.size+1) ao.cs rfl rfl 46 _ d5 (j4 ao) rfl (ln ao) ?_);intro d6 d7 c3;go_wp2;have d8:=iC c1 c3 (by omega) c1.size;have d9:=g' (show jO w.heap.size (jw aD) ao {c with mo:=an} d6 by rw[c2.out];exact c0.out.r.hT c3 (.inl c0.out.kr));have ea:qn s ao:=by rw[c2.out];exact⟨rfl,by have R:=dI.out;have S:=cd.out;show(_,_,_,_,_,_,_,_,_)=_;rw[dp.out,dr.out,dv.out,dw.out,dB.out,dC.out,dX.out,R,S]⟩
   exact bodyPost_ret (v:= .agg ao.cs) (l9 results20 _ _ _ _ _ _ rfl d7 iX rfl (j4 ao)) rfl ⟨jw aD,ao,an,rfl,d9,d8,ea,dU⟩
end hB
end Go.Proofs.YtffbipddbnkdjaaGreat
