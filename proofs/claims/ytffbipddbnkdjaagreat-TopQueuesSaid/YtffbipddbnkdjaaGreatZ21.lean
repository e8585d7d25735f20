/- What functions compute at any arguments, and plain facts: A tick that is worked on, in memory: its box, the state's lists, the report's lists; what is good of members, dues, motions; whose line is right waits at places that there are and others. Conditions: those that each theorem names. -/
import Derived.Test.YtffbipddbnkdjaaGreatZ20
set_option maxRecDepth 100000
set_option maxHeartbeats 40000000
set_option linter.all false
open Go Go.Proofs.Tryz
open Go.Value(int)
open Go.IntKind(i64 u64)
variable{A T:Option Addr}{n g b L k B i x a m j q c p s r d h u N y:Nat}{E z:Int}{P:Program}{w W X Z:World}{e t:TypeId}{f:Nat→Value}{l:List Bool}{V U:Value}{Y:List Nat}{S:List Value}{R:List Int}{Q:Array Value}{O:List (List Nat)}{M:Bool}{K:Ending}{J:Addr}{I:Nat→Nat}{H:Option Nat}
namespace Go.Proofs.YtffbipddbnkdjaaGreat
namespace hB
open RowKit
open hG hf hC h0 hU
structure kJ where
 ep:Int
 mode:Int
 q:Bool
 lu:Nat
 act:Nat
 hO:Nat
 jB:Nat
 kept:Nat
 h7:Nat
 j5:Nat
 ou:Sl
 le:Sl
 st:Sl
 dn:Sl
structure Rc where
 os:List Int
 ls:List Int
 ss:List Int
 dn:List Int
structure Tk where
 s:hA
 r:kJ
 wt:Int
def Tk.cs(t:Tk):Array Value:= #[int u64 t.s.p.inc,int u64 t.s.p.ix,int u64 t.s.p.floor,int u64 t.s.p.cap,int u64 t.s.p.up,int u64 t.s.p.down,int u64 t.s.p.ih,int u64 t.s.p.quot,int u64 t.s.p.iR,int u64 t.s.p.iS,int u64 t.s.p.recover,int u64 t.s.p.ig,int u64 t.s.p.iT,int u64 t.s.p.iU,int i64 t.s.p.iV,int i64 t.s.p.ic,int i64 t.s.p.iE,int i64 t.s.p.iN,int i64 t.s.p.iI,int i64 t.s.p.iy,int i64 t.s.p.wait,int i64 t.s.p.iW,int i64 t.s.p.iK,int i64 t.s.p.iO,int u64 t.s.hX,int u64 t.s.gen,int u64 t.s.hO,int u64 t.s.h7,int u64 t.s.hN,int i64 t.s.ep,int i64 t.s.calm,.bool t.s.em,t.s.pu.v,t.s.me.v,t.s.en.v,t.s.ex.v,t.s.po.v,t.s.du.v,t.s.mo.v,t.s.ma.v,t.s.ri.v,
 int i64 t.r.ep,int i64 t.r.mode,.bool t.r.q,int u64 t.r.lu,int u64 t.r.act,int u64 t.r.hO,int u64 t.r.jB,int u64 t.r.kept,int u64 t.r.h7,int u64 t.r.j5,t.r.ou.v,t.r.le.v,t.r.st.v,t.r.dn.v,int i64 t.wt]
instance{t:Tk}:hf.jP t.cs fun o z=>(∀j,o.frozen? ⟨z,j,none⟩=false)∧hf.hh o z 0 (int u64 t.s.p.inc)∧hf.hh o z 1 (int u64 t.s.p.ix)∧hf.hh o z 2 (int u64 t.s.p.floor)∧hf.hh o z 3 (int u64 t.s.p.cap)∧hf.hh o z 4 (int u64 t.s.p.up)∧hf.hh o z 5 (int u64 t.s.p.down)∧hf.hh o z 6 (int u64 t.s.p.ih)∧hf.hh o z 7 (int u64 t.s.p.quot)∧hf.hh o z 8 (int u64 t.s.p.iR)∧hf.hh o z 9 (int u64 t.s.p.iS)∧hf.hh o z 10 (int u64 t.s.p.recover)∧hf.hh o z 11 (int u64 t.s.p.ig)∧hf.hh o z 12 (int u64 t.s.p.iT)∧hf.hh o z 13 (int u64 t.s.p.iU)∧hf.hh o z 14 (int i64 t.s.p.iV)∧hf.hh o z 15 (int i64 t.s.p.ic)∧hf.hh o z 16 (int i64 t.s.p.iE)∧hf.hh o z 17 (int i64 t.s.p.iN)∧hf.hh o z 18 (int i64 t.s.p.iI)∧hf.hh o z 19 (int i64 t.s.p.iy)∧hf.hh o z 20 (int i64 t.s.p.wait)∧hf.hh o z 21 (int i64 t.s.p.iW)∧hf.hh o z 22 (int i64 t.s.p.iK)∧hf.hh o z 23 (int i64 t.s.p.iO)∧hf.hh o z 24 (int u64 t.s.hX)∧hf.hh o z 25 (int u64 t.s.gen)∧hf.hh o z 26 (int u64 t.s.hO)∧hf.hh o z 27 (int u64 t.s.h7)∧hf.hh o z 28 (int u64 t.s.hN)∧hf.hh o z 29 (int i64 t.s.ep)∧hf.hh o z 30 (int i64 t.s.calm)∧hf.hh o z 31 (.bool t.s.em)∧hf.hh o z 32 (.slice t.s.pu.A t.s.pu.n t.s.pu.c)∧hf.hh o z 33 (.slice t.s.me.A t.s.me.n t.s.me.c)∧hf.hh o z 34 (.slice t.s.en.A t.s.en.n t.s.en.c)∧hf.hh o z 35 (.slice t.s.ex.A t.s.ex.n t.s.ex.c)∧hf.hh o z 36 (.slice t.s.po.A t.s.po.n t.s.po.c)∧hf.hh o z 37 (.slice t.s.du.A t.s.du.n t.s.du.c)∧hf.hh o z 38 (.slice t.s.mo.A t.s.mo.n t.s.mo.c)∧hf.hh o z 39 (.slice t.s.ma.A t.s.ma.n t.s.ma.c)∧hf.hh o z 40 (.slice t.s.ri.A t.s.ri.n t.s.ri.c)∧hf.hh o z 41 (int i64 t.r.ep)∧hf.hh o z 42 (int i64 t.r.mode)∧hf.hh o z 43 (.bool t.r.q)∧hf.hh o z 44 (int u64 t.r.lu)∧hf.hh o z 45 (int u64 t.r.act)∧hf.hh o z 46 (int u64 t.r.hO)∧hf.hh o z 47 (int u64 t.r.jB)∧hf.hh o z 48 (int u64 t.r.kept)∧hf.hh o z 49 (int u64 t.r.h7)∧hf.hh o z 50 (int u64 t.r.j5)∧hf.hh o z 51 (.slice t.r.ou.A t.r.ou.n t.r.ou.c)∧hf.hh o z 52 (.slice t.r.le.A t.r.le.n t.r.le.c)∧hf.hh o z 53 (.slice t.r.st.A t.r.st.n t.r.st.c)∧hf.hh o z 54 (.slice t.r.dn.A t.r.dn.n t.r.dn.c)∧hf.hh o z 55 (int i64 t.wt):=⟨fun h=>⟨h.frozen,hf.jX h⟩⟩
structure kt (s:hA) (c:hl) (w:World) (L:Nat):Prop where
 pu:jk w L s.pu.A s.pu.n c.us
 po:hV w L s.po.A s.po.n 4 (flat h'.enc c.ds)
 du:hV w L s.du.A s.du.n 3 (flat Du.enc c.du)
 mo:hV w L s.mo.A s.mo.n 33 (flat hp.enc c.mo)
 mv:∀m∈c.mo,m.At w L
 ma:hq.ie w L s.ma.A s.ma.n c.mm
 ri:hq.ki w L s.ri.A s.ri.n c.rs
theorem kt.below{s:hA}{c:hl}{w':World}(h:kt s c w L)(o:Below L w w'):kt s c w' L:=
 ⟨⟨h.pu.1,h.pu.2.1,h.pu.2.2.below o⟩,h.po.below o,h.du.below o,h.mo.below o,fun m r=>(h.mv m r).below o,h.ma.below o,h.ri.below o⟩
theorem kt.more{s:hA}{c:hl}(h:kt s c w L)(o:L≤n):kt s c w n:=
 ⟨⟨h.pu.1,h.pu.2.1,h.pu.2.2.more o⟩,h.po.more o,h.du.more o,h.mo.more o,fun m r=>(h.mv m r).more o,h.ma.more o,h.ri.more o⟩
theorem oO{κ:hr}{xs:List Value}(h:hV (hL κ w) B A n g xs):hV w B A n g xs:=⟨h.1,Rd.seen h.2⟩
theorem uL{κ:hr}{us:List Nat}(h:jk (hL κ w) B A n us):jk w B A n us:=⟨h.1,h.2.1,Rd.seen h.2.2⟩
theorem n4{κ:hr}{us:List Int}(h:jr (hL κ w) B A n us):jr w B A n us:=⟨h.1,Rd.seen h.2⟩
theorem tb{κ:hr}{us:List Nat}(h:hq.ie (hL κ w) B A n us):hq.ie w B A n us:=⟨h.1,h.2.1,Rd.seen h.2.2⟩
theorem yn{κ:hr}{m:hp}(h:m.At (hL κ w) B):m.At w B:=⟨tb h.ys,tb h.ns,h.yo,h.no⟩
theorem kt.seen{κ:hr}{s:hA}{c:hl}(h:kt s c (hL κ w) L):kt s c w L:=
 ⟨uL h.pu,oO h.po,oO h.du,oO h.mo,fun m o=>yn (h.mv m o),tb h.ma,yg h.ri⟩
theorem kt.step{κ o:hr}{s:hA}{c:hl}{w':World}(h:kt s c (hL κ w) w.heap.size)(r:ht κ w o w'):kt s c (hL o w') w'.heap.size:=(h.below r.hL).more r.size
theorem kE{κ o:hr}{w':World}(h:jr (hL κ w) w.heap.size A n R)(r:ht κ w o w'):jr (hL o w') w'.heap.size A n R:=(h.below r.hL).more r.size
theorem n5{κ:hr}{w':World}{v:Value}{xs:List Value}(h:w'.ownsRow w.heap.size e g v n xs)(r:∀k,w.heap.size≤k→κ k=0):
 ∃s:Sl,v=s.v∧s.n=n∧s.Ok∧hV (hL κ w') w'.heap.size s.A s.n g xs:=by
 obtain⟨s,rfl,rfl,z,D,o⟩:=jZ h;exact⟨s,rfl,rfl,z,o.1,Rd.hid o.2 fun E e=>r _ (D E e)⟩
structure ik (κ:hr) (t:Tk) (c:hl) (r:Rc) (w:World):Prop where
 n:kt t.s c (hL κ w) w.heap.size
 le:jr (hL κ w) w.heap.size t.r.le.A t.r.le.n r.ls
 jL:t.s.pu.Ok
 jG:t.s.po.Ok
 jH:t.s.du.Ok
 jv:t.s.mo.Ok
 jM:t.s.ma.Ok
 jN:t.s.ri.Ok
 hle:t.r.le.Ok
 me:iY κ w 98 6 2 t.s.me (flat Mem.enc c.ms)
 ex:iY κ w 3 1 3 t.s.ex (c.xs.map iw)
 en:iY κ w 3 1 4 t.s.en (c.es.map iw)
 ou:iY κ w 3 1 5 t.r.ou (r.os.map iw)
 st:iY κ w 3 1 6 t.r.st (r.ss.map iw)
 dn:iY κ w 3 1 7 t.r.dn (r.dn.map iw)
theorem ik.below{κ:hr}{t:Tk}{c:hl}{r:Rc}{w':World}(h:ik κ t c r w)(o:Below w.heap.size w w'):ik κ t c r w':=
 ⟨h.n.step (.of o),kE h.le (.of o),h.jL,h.jG,h.jH,h.jv,h.jM,h.jN,h.hle,h.me.below o,h.ex.below o,h.en.below o,h.ou.below o,h.st.below o,h.dn.below o⟩
theorem ik.box{κ:hr}{t:Tk}{c:hl}{r:Rc}{w':World}(h:ik κ t c r w)(o:hn g w w')(A:κ g=1):ik κ t c r w':=
 have z:ht κ w κ w':= .hT o (by omega)
 ⟨h.n.step z,kE h.le z,h.jL,h.jG,h.jH,h.jv,h.jM,h.jN,h.hle,h.me.hT o (by omega),h.ex.hT o (by omega),h.en.hT o (by omega),h.ou.hT o (by omega),h.st.hT o (by omega),h.dn.hT o (by omega)⟩
theorem ik.ok{κ:hr}{t:Tk}{c:hl}{r:Rc}(h:ik κ t c r w):t.s.Ok:=⟨h.jL,h.me.ok,h.en.ok,h.ex.ok,h.jG,h.jH,h.jv,h.jM,h.jN⟩
theorem ik.members{κ:hr}{t:Tk}{c:hl}{r:Rc}{w':World}(h:ik κ t c r w)(o:hn g w w')(D:κ g=2)(ms:List Mem)(A:w'.ownsRow 0 98 6 t.s.me.v t.s.me.n (flat Mem.enc ms)):ik κ t {c with ms:=ms} r w':=
 have z:ht κ w κ w':= .hT o (by omega);have n:=h.n.step z
 ⟨⟨n.pu,n.po,n.du,n.mo,n.mv,n.ma,n.ri⟩,kE h.le z,h.jL,h.jG,h.jH,h.jv,h.jM,h.jN,h.hle,⟨A,h.me.jl⟩,h.ex.hT o (by omega),h.en.hT o (by omega),h.ou.hT o (by omega),h.st.hT o (by omega),h.dn.hT o (by omega)⟩
structure hK (κ:hr) (g:Nat) (t:Tk) (c:hl) (r:Rc) (w:World):Prop where
 fresh:∀k,w.heap.size≤k→κ k=0
 kg:κ g=1
 box:ha w g 138 t.cs
 row:ik κ t c r w
theorem hK.below{κ:hr}{t:Tk}{c:hl}{r:Rc}{w':World}(h:hK κ g t c r w)(o:Below w.heap.size w w'):hK κ g t c r w':=
 ⟨fun k z=>h.fresh k (Nat.le_trans o.size z),h.kg,h.box.to o,h.row.below o⟩
theorem hK.members{κ:hr}{t:Tk}{c:hl}{r:Rc}{w':World}(h:hK κ g t c r w)(o:hn b w w')(z:κ b=2)(ms:List Mem)(A:w'.ownsRow 0 98 6 t.s.me.v t.s.me.n (flat Mem.enc ms)):hK κ g t {c with ms:=ms} r w':=
 ⟨fun k D=>h.fresh k (Nat.le_trans o.size D),h.kg,h.box.hT o (fun e=>by rw[←e,h.kg]at z;cases z),h.row.members o z ms A⟩
theorem qQ{κ:hr}{v:Value}(o:w.grownBy W v.ownBlock)(r:∀k,v.ownBlock=some k→κ k=x)(D:x≠0∧x≠10)(A:v.ownBlock=some g∨w.heap.size≤g):ht κ w (iz κ g x) W:=
 ⟨o.os,o.tape,o.output,o.size,fun k z=>by
  by_cases e:k=g
  ·subst e
   rw[py];rcases A with h|h
   ·exact(r k h).symm
   omega
  exact pz e,fun k z E=>o.block k z (fun e=>by have:=r k e.symm;omega)⟩
theorem iY.grow{κ o:hr}{s:Sl}{xs:List Value}{v:Value}(h:iY κ w e n y s xs)(r:ht κ w o W)(z:w.grownBy W v.ownBlock)(A:∀k,v.ownBlock=some k→κ k=x)(D:x≠y):iY o W e n y s xs:=
 h.keep r.jl fun k E F=>z.block k E (fun e=>D ((A k e.symm).symm.trans F))
theorem iY.h2{κ:hr}{s:Sl}{xs:List Value}(h:iY κ w e n x s xs):∀k,s.v.ownBlock=some k→κ k=x:=fun k o=>by
 rcases r:s.A with _|z
 ·rw[Sl.v,r]at o;cases o
 rw[Sl.v,r]at o;injection o with o;rw[←o];exact h.jl z r
theorem iY.mk'{κ:hr}{xs:List Value}(h:w.ownsRow 0 e b (.slice (some ⟨g,0,none⟩) n c) n xs):iY (iz κ g x) w e b x ⟨some ⟨g,0,none⟩,n,c⟩ xs:=
 ⟨h,fun r o=>by injection o with o;subst o;exact py _ _ _⟩
def idx(o:Int):List Mem→Int→List Int
 |[],_=>[]
 |m::ms,k=>if m.h3==o then k::idx o ms (k+1)else idx o ms (k+1)
theorem uM(r:Int):∀(o:List Mem) (k:Int),(idx r o k).length=(o.filter (fun m=>m.h3==r)).length
 |[],_=>rfl
 |m::o,k=>by
  unfold idx;rw[List.filter_cons];split
  ·rw[List.length_cons,List.length_cons,uM r o]
  exact uM r o _
theorem uN(r:Int):∀(o:List Mem) (k x:Int),x∈idx r o k→∃(j:Nat) (m:Mem),o[j]?=some m∧(m.h3==r)=true∧x=k+j
 |[],_,_,h=>by cases h
 |m::o,k,x,h=>by
  have z:x∈idx r o (k+1)→∃(j:Nat) (m':Mem),(m::o)[j]?=some m'∧(m'.h3==r)=true∧x=k+j:=fun h=>by
   obtain⟨j,m',A,D,F⟩:=uN r o _ _ h;exact⟨j+1,m',by simpa using A,D,by omega⟩
  unfold idx at h;split at h
  ·rename_i E
   rcases List.mem_cons.1 h with h|h
   ·exact⟨0,m,rfl,E,by omega⟩
   exact z h
  exact z h
theorem uO(r:Int):∀(o:List Mem) (k:Int),(idx r o k).Nodup
 |[],_=>List.nodup_nil
 |m::o,k=>by
  unfold idx;split
  ·refine List.nodup_cons.2 ⟨fun h=>?_,uO r o _⟩
   obtain⟨j,_,_,_,z⟩:=uN r o _ _ h;omega
  exact uO r o _
theorem uP:∀{l l':List Int},l.Nodup→(∀x∈l,x∈l')→l.length≤l'.length
 |[],_,_,_=>h6
 |a::l,l',o,r=>by
  obtain⟨D,o⟩:=List.nodup_cons.1 o;have z:a∈l':=r a (List.mem_cons_self ..);have E:=uP (l':=l'.erase a) o (fun x A=>(List.mem_erase_of_ne (fun e=>D (by rw[←e];exact A))).2 (r x (List.mem_cons_of_mem _ A)));rw[List.length_erase_of_mem z]at E;have:=List.length_pos_of_mem z;rw[List.length_cons];omega
theorem yp{r:List Mem}(h:mW r R E=true):∀z∈R,0≤z∧z<(r.length:Int):=fun z A=>by
 unfold mW at h;rw[Bool.and_eq_true,List.all_eq_true,decide_eq_true_eq]at h;obtain⟨F,G⟩:=h;rw[←uM E r 0]at G;refine Classical.byContradiction fun Q=>?_;have I:=uP (l':=R.erase z) (uO E r 0) (fun x J=>by
  obtain⟨j,m,D,K,rfl⟩:=uN E r 0 x J;have O:j<r.length:=(jh.1 D).1;have o:=F j (List.mem_range.2 O);rw[D]at o;simp only[Bool.or_eq_true,bne_iff_ne,decide_eq_true_eq]at o;refine(List.mem_erase_of_ne (by omega)).2 ?_;rw[Int.zero_add];rcases o with o|o
  ·exact absurd (by simpa using K) o
  exact o)
 rw[List.length_erase_of_mem A]at I;have:=List.length_pos_of_mem A;omega
structure MG (m:Mem):Prop where
 iq:my m
 hD:m.hD≤1099511627776
 hP:m.hP≤1099511627776
structure DG (lo hi:Int) (d:Du):Prop where
 am:d.am<18446744073709551616
 ac: -9223372036854775808≤d.ac∧d.ac≤9223372036854775807
 lo:lo≤d.ti
 hi:d.ti≤hi
def Tk.hd(t:Tk):=(t.s.pu,t.s.me,t.s.en,t.s.ex,t.s.po,t.s.du,t.s.mo,t.s.ma,t.s.ri,t.r.ou,t.r.le,t.r.st,t.r.dn)
theorem ik.num{κ:hr}{t t':Tk}{c:hl}{r:Rc}(h:ik κ t c r w)(e:t'.hd=t.hd):ik κ t' c r w:=by
 obtain⟨s,p,ao⟩:=t;obtain⟨s',ap,aq⟩:=t';unfold Tk.hd at e;simp only[Prod.mk.injEq]at e;obtain⟨aa,ab,ac,ad,ae,af,ag,ah,ai,aj,ak,al,am⟩:=e;obtain⟨an,o,z,A,D,E,F,G,I,J,K,O,Q,R,S⟩:=h;obtain⟨T,U,V,W,Z,X,Y⟩:=an;simp only at T U V W Z X Y o z A D E F G I J K O Q R S;rw[←aa]at T z;rw[←ae]at U A;rw[←af]at V D;rw[←ag]at W E;rw[←ah]at X F;rw[←ai]at Y G;rw[←ak]at o I;rw[←ab]at J;rw[←ad]at K;rw[←ac]at O;rw[←aj]at Q;rw[←al]at R;rw[←am]at S;exact⟨⟨T,U,V,W,Z,X,Y⟩,o,z,A,D,E,F,G,I,J,K,O,Q,R,S⟩
theorem hK.nG{κ:hr}{t':Tk}{c':hl}{z:Rc}(A:∀k,w.heap.size≤k→κ k=0)(o:κ g=1)(D:ha w g 138 Q)(E:ik κ t' c' z w)(j:Nat)(v:Value)(F:t'.cs=Q.setIfInBounds j v):
 hK κ g t' c' z (w.setCell ⟨g,j,none⟩ v)∧ht κ w κ (w.setCell ⟨g,j,none⟩ v):=by
 have r:hn g w (w.setCell ⟨g,j,none⟩ v):=(hn.refl g w).setCell (p:=⟨g,j,none⟩) (.inl rfl) v;exact⟨⟨fun k o=>A k (Nat.le_trans r.size o),o,by rw[F];exact D.set j v,E.box r o⟩,.hT r (by omega)⟩
theorem hK.kZ{κ:hr}{t t':Tk}{c c':hl}{r o:Rc}(h:hK κ g t c r w)(z:ik κ t' c' o w)(j:Nat)(v:Value)(A:t'.cs=t.cs.setIfInBounds j v):
 hK κ g t' c' o (w.setCell ⟨g,j,none⟩ v)∧ht κ w κ (w.setCell ⟨g,j,none⟩ v):=hK.nG h.fresh h.kg h.box z j v A
theorem hK.num{κ:hr}{t t':Tk}{c:hl}{r:Rc}(h:hK κ g t c r w)(e:t'.hd=t.hd)(j:Nat)(v:Value)(o:t'.cs=t.cs.setIfInBounds j v):
 hK κ g t' c r (w.setCell ⟨g,j,none⟩ v)∧ht κ w κ (w.setCell ⟨g,j,none⟩ v):=h.kZ (h.row.num e) j v o
theorem hK.uQ{κ:hr}{t t':Tk}{c:hl}{r:Rc}(h:hK κ g t c r w)(e:t'.hd=t.hd)(j:Nat)(o:List Value)(A:t'.cs=hf.splice t.cs j o):
 hK κ g t' c r (w.setCells g j o)∧ht κ w κ (w.setCells g j o):=by
 have z:hn g w (w.setCells g j o):=hn.setCells o j w (hn.refl g w);exact⟨⟨fun k D=>h.fresh k (Nat.le_trans z.size D),h.kg,by rw[A];exact ha.setCells o j w _ h.box,(h.row.num e).box z h.kg⟩,.hT z (by rw[h.kg];omega)⟩
def kS(xs:List Value):Nat→List Value→List Value
 |_,[]=>xs
 |o,v::r=>kS (xs.set o v) (o+1) r
theorem uR(A:List Value):∀(z:List Value) (B:List Value) (o:Nat),kS (A++B) (A.length+o) z=A++kS B o z
 |[],_,_=>rfl
 |v::r,B,o=>by
  rw[kS,kS,List.set_append_right _ _ (by omega),show A.length+o-A.length=o by omega,Nat.add_assoc];exact uR A r _ _
theorem yq(C:List Value):∀(z:List Value) (B:List Value) (o:Nat),o+z.length≤B.length→kS (B++C) o z=kS B o z++C
 |[],_,_,_=>rfl
 |v::r,B,o,h=>by
  rw[List.length_cons]at h;rw[kS,kS,List.set_append_left _ _ (by omega)];exact yq C r _ _ (by rw[List.length_set];omega)
theorem qd{α:Type}{enc:α→List Value}(r:∀d,(enc d).length=n){ds:List α}{d d':α}(z:ds[i]?=some d){o:Nat}(D:o+S.length≤n)(E:kS (enc d) o S=enc d'):
 kS (flat enc ds) (i*n+o) S=flat enc (ds.set i d'):=by
 have A:=(jh.1 z).1;have F:ds=ds.take i++d::ds.drop (i+1):=by
  have G:ds[i]=d:=(jh.1 z).2;rw[←G,←List.drop_eq_getElem_cons A,List.take_append_drop]
 have I:flat enc ds=flat enc (ds.take i)++(enc d++flat enc (ds.drop (i+1))):=by
  conv=>lhs;rw[F]
  simp[flat]
 rw[List.set_eq_take_append_cons_drop,if_pos A,I];have J:(flat enc (ds.take i)).length=i*n:=by rw[mh r,List.length_take,Nat.min_eq_left (by omega)]
 rw[←J,uR,yq _ _ _ _ (by rw[r];exact D),E];simp[flat]
theorem mz:∀(z:List Value) (o:Nat) (w:World) (xs:List Value),w.ownsRow 0 e b (.slice (some ⟨g,0,none⟩) n c) n xs→(w.setCells g o z).ownsRow 0 e b (.slice (some ⟨g,0,none⟩) n c) n (kS xs o z)
 |[],_,_,_,h=>h
 |v::r,o,_,_,h=>mz r (o+1) _ _ (h.stored o v).1
theorem oP{xs:List Value}(h:w.ownsRow 0 e b (.slice (some ⟨g,0,none⟩) n c) n xs)(o k:Nat)(r:o+k≤n*b):w.there g o k:=fun j z=>by
 refine⟨?_,h.frozenAt _⟩;rw[h.cellAt (o+j) (by omega),iB (by rw[h.1];omega)];rfl
theorem nH{α:Type}{enc:α→List Value}{ds:List α}(r:∀d,(enc d).length=b)(h:w.ownsRow 0 e b (.slice (some ⟨g,0,none⟩) n c) n (flat enc ds)){d:α}(A:ds[i]?=some d):w.rangeAt g (i*b) (enc d):=fun j v o=>by
 have D:j<b:=by have:=(jh.1 o).1;rwa[r]at this
 have z:=mJ r ds i j d A D;have E:i*b+j<n*b:=by rw[←h.1];exact(jh.1 (z.trans o)).1
 rw[h.cellAt _ E,z,o]
theorem hK.lx{κ:hr}{t:Tk}{c:hl}{r:Rc}(h:hK κ g t c r w){m:Mem}(F:c.ms[i]?=some m):∃b,t.s.me=⟨some ⟨b,0,none⟩,c.ms.length,t.s.me.c⟩∧κ b=2∧b≠g∧b<w.heap.size∧w.ownsRow 0 98 6 (.slice (some ⟨b,0,none⟩) c.ms.length t.s.me.c) c.ms.length (flat Mem.enc c.ms):=by
 have o:=h.row.me.own;have G:=o.1;rw[mh Mem.len]at G;have D:t.s.me.n=c.ms.length:=by omega
 have K:0<c.ms.length:=by have:=(jh.1 F).1;omega
 rcases o.2 with⟨_,O⟩|⟨b,cap,cur,hv,_,hb,_⟩
 ·omega
 have E:=h.row.me.jl;have I:=h.kg;have J:=(Array.getElem?_eq_some_iff.1 hb).1;generalize t.s.me=s at*;obtain⟨A,n,Q⟩:=s;unfold Sl.v at hv;simp only at hv D E o;cases hv;subst D;have z:κ b=2:=E _ rfl;exact⟨b,rfl,z,(fun e=>by rw[e,I]at z;cases z),J,o⟩
theorem hK.nb{κ:hr}{t:Tk}{c:hl}{r:Rc}(h:hK κ g t c r w)(A:t.s.me=⟨some ⟨b,0,none⟩,c.ms.length,t.s.me.c⟩){m:Mem}(F:c.ms[i]?=some m)(o:Nat)(z:List Value)(m':Mem)(G:o+z.length≤6)(I:kS m.enc o z=m'.enc):
 hK κ g t {c with ms:=c.ms.set i m'} r (w.setCells b (i*6+o) z)∧ht κ w κ (w.setCells b (i*6+o) z):=by
 have J:κ b=2:=h.row.me.jl ⟨b,0,none⟩ (by rw[A]);have D:hn b w (w.setCells b (i*6+o) z):=hn.setCells z _ w (hn.refl b w);refine⟨h.members D J _ ?_,.hT D (by omega)⟩;have E:=h.row.me.own;rw[A]at E⊢;rw[←qd Mem.len F G I];exact mz z _ w _ E
theorem tc{κ:hr}(o:Below w.heap.size w W)(h:w.heap.size≤b):ht κ w (iz κ b x) W:=⟨o.os,o.tape,o.output,o.size,fun k r=>pz (by omega),fun k r _=>o.block k r⟩
theorem ik.qe{κ:hr}{t:Tk}{c:hl}{r:Rc}(h:ik κ t c r w)(A:Below w.heap.size w W)(D:w.heap.size≤b):ik (iz κ b x) t c r W:=
 have z:ht κ w (iz κ b x) W:=tc A D
 ⟨h.n.step z,kE h.le z,h.jL,h.jG,h.jH,h.jv,h.jM,h.jN,h.hle,h.me.keep z.jl fun k o _=>A.block k o,h.ex.keep z.jl fun k o _=>A.block k o,h.en.keep z.jl fun k o _=>A.block k o,h.ou.keep z.jl fun k o _=>A.block k o,h.st.keep z.jl fun k o _=>A.block k o,h.dn.keep z.jl fun k o _=>A.block k o⟩
theorem oQ{κ:hr}(h:∀k,w.heap.size≤k→κ k=0)(o:w.heap.size≤W.heap.size)(r:b<W.heap.size):∀k,W.heap.size≤k→iz κ b x k=0:=fun k z=>by
 rw[pz (by omega)];exact h k (by omega)
theorem ik.uS{κ:hr}{t:Tk}{c:hl}{r:Rc}(h:ik κ t c r w)(ds:List Mem)(z:w.grownBy W t.s.me.v.ownBlock)(A:W.ownsRow 0 98 6 (.slice (some ⟨b,0,none⟩) n g) n (flat Mem.enc ds))(D:t.s.me.v.ownBlock=some b∨w.heap.size≤b):
 ik (iz κ b 2) ({t with s:={t.s with me:=⟨some ⟨b,0,none⟩,n,g⟩}}) ({c with ms:=ds}) r W∧ht κ w (iz κ b 2) W:=
 have o:ht κ w (iz κ b 2) W:=qQ z h.me.h2 (by decide) D;have n:=h.n.step o
 ⟨⟨⟨n.pu,n.po,n.du,n.mo,n.mv,n.ma,n.ri⟩,kE h.le o,h.jL,h.jG,h.jH,h.jv,h.jM,h.jN,h.hle,iY.mk' A,h.ex.grow o z h.me.h2 (by decide),h.en.grow o z h.me.h2 (by decide),h.ou.grow o z h.me.h2 (by decide),h.st.grow o z h.me.h2 (by decide),h.dn.grow o z h.me.h2 (by decide)⟩,o⟩
theorem ik.uT{κ:hr}{t:Tk}{c:hl}{r:Rc}(h:ik κ t c r w)(ds:List Int)(z:w.grownBy W t.s.en.v.ownBlock)(A:W.ownsRow 0 3 1 (.slice (some ⟨b,0,none⟩) n g) n (ds.map iw))(D:t.s.en.v.ownBlock=some b∨w.heap.size≤b):
 ik (iz κ b 4) ({t with s:={t.s with en:=⟨some ⟨b,0,none⟩,n,g⟩}}) ({c with es:=ds}) r W∧ht κ w (iz κ b 4) W:=
 have o:ht κ w (iz κ b 4) W:=qQ z h.en.h2 (by decide) D;have n:=h.n.step o
 ⟨⟨⟨n.pu,n.po,n.du,n.mo,n.mv,n.ma,n.ri⟩,kE h.le o,h.jL,h.jG,h.jH,h.jv,h.jM,h.jN,h.hle,h.me.grow o z h.en.h2 (by decide),h.ex.grow o z h.en.h2 (by decide),iY.mk' A,h.ou.grow o z h.en.h2 (by decide),h.st.grow o z h.en.h2 (by decide),h.dn.grow o z h.en.h2 (by decide)⟩,o⟩
theorem ik.uU{κ:hr}{t:Tk}{c:hl}{r:Rc}(h:ik κ t c r w)(ds:List Int)(z:w.grownBy W t.r.ou.v.ownBlock)(A:W.ownsRow 0 3 1 (.slice (some ⟨b,0,none⟩) n g) n (ds.map iw))(D:t.r.ou.v.ownBlock=some b∨w.heap.size≤b):
 ik (iz κ b 5) ({t with r:={t.r with ou:=⟨some ⟨b,0,none⟩,n,g⟩}}) c ({r with os:=ds}) W∧ht κ w (iz κ b 5) W:=
 have o:ht κ w (iz κ b 5) W:=qQ z h.ou.h2 (by decide) D;have n:=h.n.step o
 ⟨⟨⟨n.pu,n.po,n.du,n.mo,n.mv,n.ma,n.ri⟩,kE h.le o,h.jL,h.jG,h.jH,h.jv,h.jM,h.jN,h.hle,h.me.grow o z h.ou.h2 (by decide),h.ex.grow o z h.ou.h2 (by decide),h.en.grow o z h.ou.h2 (by decide),iY.mk' A,h.st.grow o z h.ou.h2 (by decide),h.dn.grow o z h.ou.h2 (by decide)⟩,o⟩
theorem ik.uV{κ:hr}{t:Tk}{c:hl}{r:Rc}(h:ik κ t c r w)(ds:List Int)(z:w.grownBy W t.r.st.v.ownBlock)(A:W.ownsRow 0 3 1 (.slice (some ⟨b,0,none⟩) n g) n (ds.map iw))(D:t.r.st.v.ownBlock=some b∨w.heap.size≤b):
 ik (iz κ b 6) ({t with r:={t.r with st:=⟨some ⟨b,0,none⟩,n,g⟩}}) c ({r with ss:=ds}) W∧ht κ w (iz κ b 6) W:=
 have o:ht κ w (iz κ b 6) W:=qQ z h.st.h2 (by decide) D;have n:=h.n.step o
 ⟨⟨⟨n.pu,n.po,n.du,n.mo,n.mv,n.ma,n.ri⟩,kE h.le o,h.jL,h.jG,h.jH,h.jv,h.jM,h.jN,h.hle,h.me.grow o z h.st.h2 (by decide),h.ex.grow o z h.st.h2 (by decide),h.en.grow o z h.st.h2 (by decide),h.ou.grow o z h.st.h2 (by decide),iY.mk' A,h.dn.grow o z h.st.h2 (by decide)⟩,o⟩
theorem ik.uW{κ:hr}{t:Tk}{c:hl}{r:Rc}(h:ik κ t c r w)(ds:List Int)(z:w.grownBy W t.r.dn.v.ownBlock)(A:W.ownsRow 0 3 1 (.slice (some ⟨b,0,none⟩) n g) n (ds.map iw))(D:t.r.dn.v.ownBlock=some b∨w.heap.size≤b):
 ik (iz κ b 7) ({t with r:={t.r with dn:=⟨some ⟨b,0,none⟩,n,g⟩}}) c ({r with dn:=ds}) W∧ht κ w (iz κ b 7) W:=
 have o:ht κ w (iz κ b 7) W:=qQ z h.dn.h2 (by decide) D;have n:=h.n.step o
 ⟨⟨⟨n.pu,n.po,n.du,n.mo,n.mv,n.ma,n.ri⟩,kE h.le o,h.jL,h.jG,h.jH,h.jv,h.jM,h.jN,h.hle,h.me.grow o z h.dn.h2 (by decide),h.ex.grow o z h.dn.h2 (by decide),h.en.grow o z h.dn.h2 (by decide),h.ou.grow o z h.dn.h2 (by decide),h.st.grow o z h.dn.h2 (by decide),iY.mk' A⟩,o⟩
theorem hK.uS{κ:hr}{t:Tk}{c:hl}{r:Rc}(h:hK κ g t c r w)(ds:List Mem)(o:w.grownBy W t.s.me.v.ownBlock)(A:W.ownsRow 0 98 6 (.slice (some ⟨b,0,none⟩) n L) n (flat Mem.enc ds))(D:t.s.me.v.ownBlock=some b∨w.heap.size≤b)(E:b<W.heap.size):
 (∀k,W.heap.size≤k→iz κ b 2 k=0)∧iz κ b 2 g=1∧ha W g 138 t.cs∧ik (iz κ b 2) ({t with s:={t.s with me:=⟨some ⟨b,0,none⟩,n,L⟩}}) ({c with ms:=ds}) r W∧ht κ w (iz κ b 2) W:=by
 obtain⟨F,z⟩:=h.row.uS ds o A D;have G:t.s.me.v.ownBlock≠some g:=fun e=>by have:=h.row.me.h2 g e;rw[h.kg]at this;cases this
 exact⟨oQ h.fresh o.size E,by rw[z.jl g h.box.lt];exact h.kg,(o.block g h.box.lt (fun e=>G e.symm)).trans h.box,F,z⟩
theorem hK.uT{κ:hr}{t:Tk}{c:hl}{r:Rc}(h:hK κ g t c r w)(ds:List Int)(o:w.grownBy W t.s.en.v.ownBlock)(A:W.ownsRow 0 3 1 (.slice (some ⟨b,0,none⟩) n L) n (ds.map iw))(D:t.s.en.v.ownBlock=some b∨w.heap.size≤b)(E:b<W.heap.size):
 (∀k,W.heap.size≤k→iz κ b 4 k=0)∧iz κ b 4 g=1∧ha W g 138 t.cs∧ik (iz κ b 4) ({t with s:={t.s with en:=⟨some ⟨b,0,none⟩,n,L⟩}}) ({c with es:=ds}) r W∧ht κ w (iz κ b 4) W:=by
 obtain⟨F,z⟩:=h.row.uT ds o A D;have G:t.s.en.v.ownBlock≠some g:=fun e=>by have:=h.row.en.h2 g e;rw[h.kg]at this;cases this
 exact⟨oQ h.fresh o.size E,by rw[z.jl g h.box.lt];exact h.kg,(o.block g h.box.lt (fun e=>G e.symm)).trans h.box,F,z⟩
theorem hK.uU{κ:hr}{t:Tk}{c:hl}{r:Rc}(h:hK κ g t c r w)(ds:List Int)(o:w.grownBy W t.r.ou.v.ownBlock)(A:W.ownsRow 0 3 1 (.slice (some ⟨b,0,none⟩) n L) n (ds.map iw))(D:t.r.ou.v.ownBlock=some b∨w.heap.size≤b)(E:b<W.heap.size):
 (∀k,W.heap.size≤k→iz κ b 5 k=0)∧iz κ b 5 g=1∧ha W g 138 t.cs∧ik (iz κ b 5) ({t with r:={t.r with ou:=⟨some ⟨b,0,none⟩,n,L⟩}}) c ({r with os:=ds}) W∧ht κ w (iz κ b 5) W:=by
 obtain⟨F,z⟩:=h.row.uU ds o A D;have G:t.r.ou.v.ownBlock≠some g:=fun e=>by have:=h.row.ou.h2 g e;rw[h.kg]at this;cases this
 exact⟨oQ h.fresh o.size E,by rw[z.jl g h.box.lt];exact h.kg,(o.block g h.box.lt (fun e=>G e.symm)).trans h.box,F,z⟩
theorem hK.uV{κ:hr}{t:Tk}{c:hl}{r:Rc}(h:hK κ g t c r w)(ds:List Int)(o:w.grownBy W t.r.st.v.ownBlock)(A:W.ownsRow 0 3 1 (.slice (some ⟨b,0,none⟩) n L) n (ds.map iw))(D:t.r.st.v.ownBlock=some b∨w.heap.size≤b)(E:b<W.heap.size):
 (∀k,W.heap.size≤k→iz κ b 6 k=0)∧iz κ b 6 g=1∧ha W g 138 t.cs∧ik (iz κ b 6) ({t with r:={t.r with st:=⟨some ⟨b,0,none⟩,n,L⟩}}) c ({r with ss:=ds}) W∧ht κ w (iz κ b 6) W:=by
 obtain⟨F,z⟩:=h.row.uV ds o A D;have G:t.r.st.v.ownBlock≠some g:=fun e=>by have:=h.row.st.h2 g e;rw[h.kg]at this;cases this
 exact⟨oQ h.fresh o.size E,by rw[z.jl g h.box.lt];exact h.kg,(o.block g h.box.lt (fun e=>G e.symm)).trans h.box,F,z⟩
theorem hK.uW{κ:hr}{t:Tk}{c:hl}{r:Rc}(h:hK κ g t c r w)(ds:List Int)(o:w.grownBy W t.r.dn.v.ownBlock)(A:W.ownsRow 0 3 1 (.slice (some ⟨b,0,none⟩) n L) n (ds.map iw))(D:t.r.dn.v.ownBlock=some b∨w.heap.size≤b)(E:b<W.heap.size):
 (∀k,W.heap.size≤k→iz κ b 7 k=0)∧iz κ b 7 g=1∧ha W g 138 t.cs∧ik (iz κ b 7) ({t with r:={t.r with dn:=⟨some ⟨b,0,none⟩,n,L⟩}}) c ({r with dn:=ds}) W∧ht κ w (iz κ b 7) W:=by
 obtain⟨F,z⟩:=h.row.uW ds o A D;have G:t.r.dn.v.ownBlock≠some g:=fun e=>by have:=h.row.dn.h2 g e;rw[h.kg]at this;cases this
 exact⟨oQ h.fresh o.size E,by rw[z.jl g h.box.lt];exact h.kg,(o.block g h.box.lt (fun e=>G e.symm)).trans h.box,F,z⟩
theorem ik.yr{κ:hr}{t:Tk}{c:hl}{r:Rc}(h:ik κ t c r w)(s:Sl)(us:List Nat)(o:s.Ok)(z:jk (hL κ w) w.heap.size s.A s.n us):ik κ {t with s:={t.s with pu:=s}} {c with us:=us} r w:=
 ⟨⟨z,h.n.po,h.n.du,h.n.mo,h.n.mv,h.n.ma,h.n.ri⟩,h.le,o,h.jG,h.jH,h.jv,h.jM,h.jN,h.hle,h.me,h.ex,h.en,h.ou,h.st,h.dn⟩
theorem ik.yt{κ:hr}{t:Tk}{c:hl}{r:Rc}(h:ik κ t c r w)(s:Sl)(us:List Du)(o:s.Ok)(z:hV (hL κ w) w.heap.size s.A s.n 3 (flat Du.enc us)):ik κ {t with s:={t.s with du:=s}} {c with du:=us} r w:=
 ⟨⟨h.n.pu,h.n.po,z,h.n.mo,h.n.mv,h.n.ma,h.n.ri⟩,h.le,h.jL,h.jG,o,h.jv,h.jM,h.jN,h.hle,h.me,h.ex,h.en,h.ou,h.st,h.dn⟩
theorem ik.uX{κ:hr}{t:Tk}{c:hl}{r:Rc}(h:ik κ t c r w)(s:Sl)(us:List h')(o:s.Ok)(z:hV (hL κ w) w.heap.size s.A s.n 4 (flat h'.enc us)):ik κ {t with s:={t.s with po:=s}} {c with ds:=us} r w:=
 ⟨⟨h.n.pu,z,h.n.du,h.n.mo,h.n.mv,h.n.ma,h.n.ri⟩,h.le,h.jL,o,h.jH,h.jv,h.jM,h.jN,h.hle,h.me,h.ex,h.en,h.ou,h.st,h.dn⟩
theorem ik.te{κ:hr}{t:Tk}{c:hl}{r:Rc}(h:ik κ t c r w)(s:Sl)(us:List hp)(o:s.Ok)(z:hV (hL κ w) w.heap.size s.A s.n 33 (flat hp.enc us))(D:∀m∈us,m.At (hL κ w) w.heap.size):ik κ {t with s:={t.s with mo:=s}} {c with mo:=us} r w:=
 ⟨⟨h.n.pu,h.n.po,h.n.du,z,D,h.n.ma,h.n.ri⟩,h.le,h.jL,h.jG,h.jH,o,h.jM,h.jN,h.hle,h.me,h.ex,h.en,h.ou,h.st,h.dn⟩
theorem ik.yu{κ:hr}{t:Tk}{c:hl}{r:Rc}(h:ik κ t c r w)(s:Sl)(us:List Nat)(o:s.Ok)(z:hq.ie (hL κ w) w.heap.size s.A s.n us):ik κ {t with s:={t.s with ma:=s}} {c with mm:=us} r w:=
 ⟨⟨h.n.pu,h.n.po,h.n.du,h.n.mo,h.n.mv,z,h.n.ri⟩,h.le,h.jL,h.jG,h.jH,h.jv,o,h.jN,h.hle,h.me,h.ex,h.en,h.ou,h.st,h.dn⟩
theorem ik.EE{κ:hr}{t:Tk}{c:hl}{r:Rc}(h:ik κ t c r w)(s:Sl)(us:List (List Nat))(o:s.Ok)(z:hq.ki (hL κ w) w.heap.size s.A s.n us):ik κ {t with s:={t.s with ri:=s}} {c with rs:=us} r w:=
 ⟨⟨h.n.pu,h.n.po,h.n.du,h.n.mo,h.n.mv,h.n.ma,z⟩,h.le,h.jL,h.jG,h.jH,h.jv,h.jM,o,h.hle,h.me,h.ex,h.en,h.ou,h.st,h.dn⟩
theorem ik.EF{κ:hr}{t:Tk}{c:hl}{r:Rc}(h:ik κ t c r w)(s:Sl)(us:List Int)(o:s.Ok)(z:jr (hL κ w) w.heap.size s.A s.n us):ik κ {t with r:={t.r with le:=s}} c {r with ls:=us} w:=
 ⟨h.n,z,h.jL,h.jG,h.jH,h.jv,h.jM,h.jN,o,h.me,h.ex,h.en,h.ou,h.st,h.dn⟩
theorem ik.yv{κ:hr}{t:Tk}{c:hl}{r:Rc}(h:ik κ t c r w)(s:Sl)(us:List Int)(o:iY κ w 3 1 3 s (us.map iw)):ik κ {t with s:={t.s with ex:=s}} {c with xs:=us} r w:=
 ⟨⟨h.n.pu,h.n.po,h.n.du,h.n.mo,h.n.mv,h.n.ma,h.n.ri⟩,h.le,h.jL,h.jG,h.jH,h.jv,h.jM,h.jN,h.hle,h.me,o,h.en,h.ou,h.st,h.dn⟩
theorem ik.yw{κ:hr}{t:Tk}{c:hl}{r:Rc}(h:ik κ t c r w)(s:Sl)(us:List Int)(o:iY κ w 3 1 4 s (us.map iw)):ik κ {t with s:={t.s with en:=s}} {c with es:=us} r w:=
 ⟨⟨h.n.pu,h.n.po,h.n.du,h.n.mo,h.n.mv,h.n.ma,h.n.ri⟩,h.le,h.jL,h.jG,h.jH,h.jv,h.jM,h.jN,h.hle,h.me,h.ex,o,h.ou,h.st,h.dn⟩
theorem ik.exit{κ:hr}{t:Tk}{c:hl}{r:Rc}(h:ik κ t c r w)(o:w.grownBy W t.s.ex.v.ownBlock)(s:Sl)(us:List Int)(A:W.ownsRow 0 3 1 s.v s.n (us.map iw))(D:∀k,s.v.ownBlock=some k→t.s.ex.v.ownBlock=some k):
 ik κ {t with s:={t.s with ex:=s}} {c with xs:=us} r W∧ht κ w κ W:=
 have z:ht κ w κ W:=⟨o.os,o.tape,o.output,o.size,fun _ _=>rfl,fun k E G=>o.block k E (fun e=>by have:=h.ex.h2 k e.symm;omega)⟩;have n:=h.n.step z
 ⟨⟨⟨n.pu,n.po,n.du,n.mo,n.mv,n.ma,n.ri⟩,kE h.le z,h.jL,h.jG,h.jH,h.jv,h.jM,h.jN,h.hle,h.me.grow z o h.ex.h2 (by decide),⟨A,fun I F=>h.ex.h2 _ (D _ (by rw[Sl.v,F];rfl))⟩,h.en.grow z o h.ex.h2 (by decide),h.ou.grow z o h.ex.h2 (by decide),h.st.grow z o h.ex.h2 (by decide),h.dn.grow z o h.ex.h2 (by decide)⟩,z⟩
def hp.ly(m:hp)(y z:Sl):hp:={m with yh:=y,nh:=z}
structure l0 (L g:Nat) (W:World) (m:hp):Prop where
 at_:m.At W W.heap.size
 y:∀ad,m.yh.A=some ad→L≤ad.block∧ad.block≠g
 z:∀ad,m.nh.A=some ad→L≤ad.block∧ad.block≠g
theorem l0.below{m:hp}(h:l0 L g W m)(o:Below W.heap.size W w):l0 L g w m:=⟨(h.at_.below o).more o.size,h.y,h.z⟩
theorem l0.hT{m:hp}(h:l0 L g W m)(r:hn g W w):l0 L g w m:=
 ⟨⟨⟨h.at_.ys.1,h.at_.ys.2.1,l8 h.at_.ys.2.2 r fun o e=>(h.y o e).2⟩,⟨h.at_.ns.1,h.at_.ns.2.1,l8 h.at_.ns.2.2 r fun o e=>(h.z o e).2⟩,h.at_.yo,h.at_.no⟩,h.y,h.z⟩
def k0(o r:List hp):Prop:=r.length=o.length∧∀(j:Nat) (m:hp),o[j]?=some m→∃y z,r[j]?=some (m.ly y z)∧y.n=m.yh.n∧z.n=m.nh.n
def js(L:Nat)(W:World)(s:Sl)(o:List hp):Prop:=s.Ok∧s.n=o.length∧W.ownsRow L 59 33 s.v s.n (flat hp.enc o)∧∀m∈o,∃g,(∀r,s.A=some r→r.block=g)∧l0 L g W m
theorem oR{bs:List Nat}(h:hq.ie w w.heap.size A n bs)(z:n≤1000000)(D:A=none→n=0∧c=0):
 Calls prog 37 #[.slice A n c] w fun e w'=>∃s:Sl,e= .returned s.v∧s.n=n∧s.Ok∧(∀o,s.A=some o→w.heap.size≤o.block)∧hq.ie w' w'.heap.size s.A s.n bs∧Below w.heap.size w w':=by
 have r:=lK.1 h;refine(wU A n c _ w r.1 (fun u E=>by obtain⟨b,_,rfl⟩:=List.mem_map.1 E;rfl) z D).mono ?_;rintro e w' ⟨v,rfl,F,G⟩;obtain⟨s,rfl,rfl,I,J,K⟩:=jZ F;exact⟨s,rfl,rfl,I,J,lK.2 ⟨K,r.2⟩,G⟩
theorem uY(A:Option Addr)(n c:Nat)(r:List hp)(w:World)(h:hV w w.heap.size A n 33 (flat hp.enc r))(V:∀m∈r,m.At w w.heap.size)(aH:∀m∈r,m.yh.n≤1000000∧m.nh.n≤1000000)(a9:n≤1000000)(aI:A=none→n=0∧c=0):
 Calls prog 193 #[.slice A n c] w fun e w'=>∃s aJ,e= .returned (.slice s.A s.n s.c)∧js w.heap.size w' s aJ∧k0 r aJ∧Below w.heap.size w w':=by
 have aK:=h.len hp.len (by omega);obtain⟨a',ax,X⟩:=hs (wW A n c _ w h (hp.one r) a9 aI) (And.intro V aH) aK;clear h V aH aK aI;go_enter func193,ntmps193;go_wp2_with fail;refine a'.mono ?_;rintro e aL ⟨v,rfl,ai,aj⟩;rcases ai.2 with⟨rfl,rfl⟩|⟨g,cap,cur,rfl,ba,aM,bb,bc,_⟩
 ·have bd:r=[]:=List.eq_nil_of_length_eq_zero X
  subst bd;have ay:=g' aj;clear ai aj;go_wp2;go_loopw [9] (fun Y wr=>Y=int i64 0∧wr=aL) (fun Y _=>0)
  case atStart=>exact⟨rfl,rfl⟩
  case round=>
   obtain⟨rfl,rfl⟩:=hrel;go_wp2;go_ret;exact⟨Sl.nil,[],rfl,⟨Sl.Ok.nil,rfl,World.ownsRow_nil _ _ _ _,fun m o=>by cases o⟩,⟨rfl,fun j m o=>by simp at o⟩,ay⟩
 have be:=g' (ai.mono (h6));obtain⟨ay,ac⟩:=hg aj (And.intro ba (And.intro bb (And.intro bc (Array.getElem?_eq_some_iff.1 aM).1)));clear ai aj aM;go_wp2;go_loopw [9] (fun Y wr=>∃(k:Nat) (J:List hp),Y=int i64 k∧k≤n∧J.length=k∧wr.ownsRow 0 59 33 (.slice (some ⟨g,0,none⟩) n cap) n (flat hp.enc (J++r.drop k))∧Below w.heap.size w wr∧aL.heap.size≤wr.heap.size∧(∀m∈J,l0 w.heap.size g wr m)∧
  ∀(j:Nat) (m:hp),j<k→r[j]?=some m→∃y z,J[j]?=some (m.ly y z)∧y.n=m.yh.n∧z.n=m.nh.n) (fun Y _=>n-(intOf Y).toNat)
 case atStart=>exact⟨0,[],rfl,h6,rfl,by rw[List.drop_zero];exact be,ay,hj,(fun m o=>by cases o),fun j m aN=>absurd aN (by omega)⟩
 case round=>
  obtain⟨k,J,rfl,bA,ad,R,S,az,ak,al⟩:=hrel;by_cases ae:k<n
  ·have bf:=hZ ae
   have bg:i64.wrap ((k:Int)+1)=((k+1:Nat):Int):=by rw[IntKind.wrap_i64];omega
   obtain⟨m,o⟩:∃m,r[k]?=some m:=⟨_,iB (by rw[X.out];exact ae)⟩;have aA:(J++r.drop k)[k]?=some m:=by rw[List.getElem?_append_right (by omega),ad,Nat.sub_self,List.getElem?_drop,Nat.add_zero];exact o
   have aB:=nH hp.len R aA;have aO:=oP R (k*33+31) 2 (by have:(k+1)*33≤n*33:=Nat.mul_le_mul_right _ ae;omega);have am:wr.cell? ⟨g,k*33+31,none⟩=some (.slice m.yh.A m.yh.n m.yh.c):=aB 31 _ rfl;have an:wr.cell? ⟨g,k*33+32,none⟩=some (.slice m.nh.A m.nh.n m.nh.c):=aB 32 _ rfl;have ao:=List.mem_of_getElem? o;have af:=(ax.1 m ao).below S;obtain⟨bh,bi,bj,bk,Z,aP,aa⟩:=k2 (fun W (hb:Below wr.heap.size wr W)=>oR (c:=m.yh.c) (((af.more S.size).below hb).more hb.size).ys (ax.2 m ao).1 af.yo.none) (fun W (hb:Below wr.heap.size wr W)=>oR (c:=m.nh.c) (((af.more S.size).below hb).more hb.size).ns (ax.2 m ao).2 af.no.none) aA o (And.intro R (And.intro S (And.intro az (And.intro ak al)))) aO ad;have aQ:g<wr.heap.size:=by have:=ac.2.2.2;omega
   have F:=g' aQ;clear R S az ak al o aA aB aO ao af ad aQ;go_wp2;refine gZ.rg (fun w'=>True) (fun w'=>Below wr.heap.size wr w'∧w'.cell? ⟨g,k*33+31,none⟩=some (.slice m.yh.A m.yh.n m.yh.c)∧w'.cell? ⟨g,k*33+32,none⟩=some (.slice m.nh.A m.nh.n m.nh.c)) 18 22 (by kernel_rfl) (by rintro _ _ (_|_) _ _ h<;>exact h) trivial (⟨hM,am,an⟩) fun aC D=>?_;refine gZ.tq aC 8 (gZ.sq 0 2 true (gZ.sq 2 2 false (gZ.sq 4 5 true (gZ.sq 10 2 false (gZ.sq 12 3 true []))))) (by kernel_rfl) D ?_;iterate 14(refine gZ.t1 rfl rfl (fun w' ag=>by try simp only[S3];first|(have⟨hS,aR⟩:=ag;go_simp;try rfl)|(go_simp;try rfl)) ?_;try simp only[S4,S3])
   refine gZ.hH (fun D=>?_);refine gZ.hY 9 (n:=7) rfl rfl (by kernel_rfl) (fun K T=>?_);(try simp only[S3])
   go_simp;have ap:=D.2 rfl;refine(bh _ ap.1).mono ?_;rintro e bB ⟨y,rfl,aS,aT,aU,aV,aW⟩;have aq:=hJ ap.1 aW;obtain⟨ar,au⟩:=hg (And.intro aS (And.intro aT (kY (fun O e=>Nat.le_trans ap.1.size (aU O e)) aV))) aq;have aX:=jt (p:=⟨g,k*33+31,none⟩) aq F am;have aY:=jt (p:=⟨g,k*33+32,none⟩) aq F an;clear ap aS aT aU aV aW aq;simp only[Sl.v];refine T.out _ _ trivial (⟨au,aX,aY⟩) (fun D=>?_);(try simp only[S4,S3])
   refine gZ.hY 15 (n:=6) rfl rfl (by kernel_rfl) (fun K T=>?_);(try simp only[S3])
   go_simp;refine(bi _ au).mono ?_;rintro e E ⟨z,rfl,aZ,a0,a1,a2,aD⟩;have av:=hJ au aD;obtain⟨aw,Q,bl⟩:=hs (And.intro aZ (And.intro a0 (kY (fun O e=>Nat.le_trans au.size (a1 O e)) a2))) av aD;have a3:=jt (p:=⟨g,k*33+31,none⟩) av F am;have aE:=jt (p:=⟨g,k*33+32,none⟩) av F an;clear aZ a0 a1 a2 aD av;simp only[Sl.v];refine T.out _ _ trivial (⟨Q,a3,aE⟩) (fun D=>?_);(try simp only[S4,S3])
   refine gZ.tq aC 4 (gZ.sq 16 2 true []) (by kernel_rfl) D ?_;iterate 2(refine gZ.t1 rfl rfl (fun w' ag=>by try simp only[S3];first|(have⟨hS,aR⟩:=ag;go_simp;try rfl)|(go_simp;try rfl)) ?_;try simp only[S4,S3])
   refine gZ.hH (fun D=>?_);refine gZ.jc 18 (n:=3) rfl rfl (by kernel_rfl) (by kernel_rfl) (fun K T=>?_);(try simp only[S3])
   have bm:E.frozen? ⟨g,k*33+31,none⟩=false:=(Q.frozen (p:=⟨g,k*33+31,none⟩) F).trans (aP 0 (by omega)).2;go_simp;refine T.out _ _ trivial (fun D=>?_);refine gZ.tq aC 1 (gZ.sq 19 2 false []) (by kernel_rfl) D ?_;iterate 2(refine gZ.t1 rfl rfl (fun w' ag=>by try simp only[S3];first|(have⟨hS,aR⟩:=ag;go_simp;try rfl)|(go_simp;try rfl)) ?_;try simp only[S4,S3])
   refine gZ.hH (fun D=>?_);refine gZ.jc 21 (n:=0) rfl rfl (by kernel_rfl) (by kernel_rfl) (fun K T=>?_);(try simp only[S3])
   have bn:(E.setCell ⟨g,k*33+31,none⟩ (.slice y.A y.n y.c)).cell? ⟨g,k*33+32,none⟩=some (.slice m.nh.A m.nh.n m.nh.c):=(World.cell?_setCell_other _ _ _ _ (by intro e;injection e with _ e _;omega)).trans aE;have bo:(E.setCell ⟨g,k*33+31,none⟩ (.slice y.A y.n y.c)).frozen? ⟨g,k*33+32,none⟩=false:=by rw[World.frozen?_setCell];exact(Q.frozen (p:=⟨g,k*33+32,none⟩) F).trans (aP 1 (by omega)).2
   go_simp;refine T.out _ _ trivial (fun D=>?_);clear D;refine gZ.ia rfl ?_;have a4:=j0 Z.1 (w':=E) fun q aF=>by injection aF with aF;subst aF;exact Q.block _ F
   have aG:=mz [.slice y.A y.n y.c,.slice z.A z.n z.c] (k*33+31) E _ a4;rw[qd (d':=m.ly y z) hp.len bj.out (by show 31+2≤33;omega) rfl]at aG;have a5:hn g E (E.setCells g (k*33+31) [.slice y.A y.n y.c,.slice z.A z.n z.c]):=hn.setCells _ _ _ (hn.refl g E);obtain⟨a6,ah⟩:=hg aG a5;clear a4 aG a5 am an aX aY a3 aE bn bm bo;have a7:(E.setCell ⟨g,k*33+31,none⟩ (.slice y.A y.n y.c)).setCell ⟨g,k*33+32,none⟩ (.slice z.A z.n z.c)=E.setCells g (k*33+31) [.slice y.A y.n y.c,.slice z.A z.n z.c]:=rfl;rw[a7];obtain⟨bp,a8⟩:=ho (E.setCells g (k*33+31) [.slice y.A y.n y.c,.slice z.A z.n z.c]);rw[a8]at a6 ah⊢;clear a7 a8;go_wp2;have bq:=Z.2.1.size;have br:=ac.1;have bt:l0 w.heap.size g bp (m.ly y z):=by
    refine l0.hT ⟨⟨(ar.2.2.2.to bl),aw.2.2.2,ar.2.1,aw.2.1⟩,fun O e=>?_,fun O e=>?_⟩ ah
    ·have G:=ar.2.2.1 O e;have U:=F.out;exact⟨by omega,by omega⟩
    have G:=aw.2.2.1 O e;have U:=F.out;exact⟨by omega,by omega⟩
   refine⟨⟨k+1,J++[m.ly y z],by first|rfl|rw[bg],by omega,by rw[List.length_append,aa.out];rfl,?_,iC (Z.2.1.trans (Q.mono bq)) ah br (by have:=Q.size;omega),Nat.le_trans Z.2.2.1 (Nat.le_trans Q.size ah.size),fun x I=>?_,fun j x aN I=>?_⟩,by simp[intOf];omega⟩
   ·have G:=a6.out
    rw[List.set_append_right _ _ (by rw[aa.out];exact hj),aa,Nat.sub_self]at G;rw[List.append_assoc];have U:(r.drop k).set 0 (m.ly y z)=[m.ly y z]++r.drop (k+1):=by
     rw[List.drop_eq_getElem_cons (by rw[X.out];exact ae)];rfl
    rw[U]at G;exact G
   ·rcases List.mem_append.1 I with I|I
    ·exact((Z.2.2.2.1 x I).below Q).hT ah
    obtain rfl:=List.mem_singleton.1 I;exact bt
   by_cases bu:j=k
   ·subst bu
    rw[bk.out]at I;cases I;exact⟨y,z,by rw[List.getElem?_append_right (by rw[aa.out];exact hj),aa,Nat.sub_self];rfl,ar.1,aw.1⟩
   obtain⟨bv,bw,G,U⟩:=Z.2.2.2.2 j x (by omega) I;exact⟨bv,bw,by rw[List.getElem?_append_left (by rw[aa.out];omega)];exact G,U⟩
  have bf:=h1 ae;obtain rfl:k=n:=by omega
  rw[List.drop_of_length_le (by rw[X.out];exact hj),List.append_nil]at R;have ab:=g' (And.intro R (And.intro S (And.intro ak (And.intro al ad))));clear R S ak al az ad;go_wp2;go_ret;refine⟨⟨some ⟨g,0,none⟩,k,cap⟩,J,rfl,⟨.inr ⟨g,rfl,ac.2.1,ac.2.2.1⟩,ab.2.2.2.2.symm,?_,fun m o=>⟨g,(fun O e=>by injection e with e;subst e;rfl),ab.2.2.1 m o⟩⟩,⟨ab.2.2.2.2.trans X.symm,fun j m o=>ab.2.2.2.1 j m (by have:=(jh.1 o).1;rw[X.out]at this;exact this) o⟩,ab.2.1⟩;obtain⟨G,U⟩:=ab.1;rcases U with⟨V,_⟩|⟨bC,c',bx,V,_,bz⟩
  ·cases V
  cases V;exact⟨G,.inr ⟨g,cap,bx,rfl,ac.1,bz⟩⟩
theorem js.below{s:Sl}{o:List hp}(h:js L W s o)(r:Below W.heap.size W w):js L w s o:=
 ⟨h.1,h.2.1,j0 h.2.2.1 fun k z=>r.block k (h.2.2.1.lt k z).2,fun m A=>by obtain⟨g,D,E⟩:=h.2.2.2 m A;exact⟨g,D,E.below r⟩⟩
theorem js.at{s:Sl}{o:List hp}{m:hp}(h:js L W s o)(D:o[i]?=some m):∃g,s=⟨some ⟨g,0,none⟩,o.length,s.c⟩∧L≤g∧g<W.heap.size∧i<o.length∧W.ownsRow L 59 33 (.slice (some ⟨g,0,none⟩) o.length s.c) o.length (flat hp.enc o)∧l0 L g W m:=by
 obtain⟨r,E,F,J⟩:=h;obtain⟨g,K,O⟩:=J m (List.mem_of_getElem? D);have Q:=(jh.1 D).1;have z:s=⟨some ⟨g,0,none⟩,o.length,s.c⟩:=by
  rcases r with r|⟨R,r,_⟩
  ·exfalso;have:=r.2.1;omega
  have:=K _ r;obtain⟨A,n,c⟩:=s;simp only at r E this⊢;rw[r,E,←this]
 have G:=F;rw[z]at G;have I:=F.lt g (by rw[z];rfl);exact⟨g,z,I.1,I.2,Q,G,O⟩
theorem uZ{xs:List Value}(h:W.ownsRow b e k (.slice (some ⟨g,0,none⟩) n c) n xs)(o:L≤g):W.ownsRow L e k (.slice (some ⟨g,0,none⟩) n c) n xs:=by
 obtain⟨r,z⟩:=h;rcases z with⟨hv,_⟩|⟨E,c',A,hv,_,D⟩
 ·cases hv
 cases hv;exact⟨r,.inr ⟨g,c,A,rfl,o,D⟩⟩
theorem js.mono{s:Sl}{D:List hp}(h:js L W s D)(A:n≤L):js n W s D:=
 ⟨h.1,h.2.1,h.2.2.1.mono A,fun m E=>by obtain⟨g,F,o⟩:=h.2.2.2 m E;exact⟨g,F,o.at_,fun r e=>⟨Nat.le_trans A (o.y r e).1,(o.y r e).2⟩,fun r e=>⟨Nat.le_trans A (o.z r e).1,(o.z r e).2⟩⟩⟩
def hp.lz(m:hp)(x:Int):hp:={m with st:=x}
theorem js.rX{s:Sl}{r:List hp}{m m':hp}{x y:Value}(h:js L W s r)(D:r[i]?=some m)(E:s=⟨some ⟨g,0,none⟩,r.length,s.c⟩)(S:m.enc[k]?=some y)(T:kS m.enc k [x]=m'.enc)(U:k+1≤33)(F:m'.yh=m.yh)(G:m'.nh=m.nh)(V:m'.ys=m.ys)(X:m'.ns=m.ns):
 js L (W.setCell ⟨g,i*33+k,none⟩ x) s (r.set i m')∧Below L W (W.setCell ⟨g,i*33+k,none⟩ x)∧W.cell? ⟨g,i*33+k,none⟩=some y∧W.frozen? ⟨g,i*33+k,none⟩=false:=by
 obtain⟨o,K,O,ad,Y,I,ae⟩:=h.at D;obtain rfl:o=g:=by rw[E]at K;injection K with e _;injection e with e;injection e with e;exact e.symm
 have J:hn o W (W.setCell ⟨o,i*33+k,none⟩ x):=hn.setCells [x] (i*33+k) W (hn.refl o W);have Q:=mz [x] (i*33+k) W _ (I.mono (h6));rw[qd (d':=m') hp.len D U T]at Q;have Z:=oP (I.mono (h6)) (i*33+k) 1 (by have:(i+1)*33≤r.length*33:=Nat.mul_le_mul_right _ Y;omega);refine⟨⟨h.1,by rw[List.length_set];exact h.2.1,?_,fun u A=>?_⟩,iC hz J O (by omega),nH hp.len (I.mono (h6)) D k _ S,(Z 0 (by omega)).2⟩
 ·rw[E];show World.ownsRow _ _ _ _ (.slice (some ⟨o,0,none⟩) r.length s.c) r.length _;exact uZ Q O
 refine⟨o,fun af e=>by rw[E]at e;injection e with e;subst e;rfl,?_⟩;have R:∀u∈r,l0 L o W u:=fun u A=>by
  obtain⟨j,ag,e⟩:=List.getElem_of_mem A;obtain⟨aa,ab,ac⟩:=h.2.2.2 u A;have:o=aa:=by have:=ab ⟨o,0,none⟩ (by rw[E]);exact this
  rw[this];exact ac
 rcases List.mem_or_eq_of_mem_set A with A|rfl
 ·exact(R u A).hT J
 have:=(R m (List.mem_of_getElem? D)).hT J;exact⟨⟨by rw[F,V];exact this.at_.ys,by rw[G,X];exact this.at_.ns,by rw[F];exact this.at_.yo,by rw[G];exact this.at_.no⟩,by rw[F];exact this.y,by rw[G];exact this.z⟩
def va(L:Nat)(Q:Int→hp→hp→Prop)(o:List hp)(i:Int)(w:World)(v:Value)(r:Int)(w':World):Prop:=
 Below L w w'∧((¬(0≤i∧i<(o.length:Int))∧r=230)∨(0≤i∧i<(o.length:Int)∧∃s z D m',k0 o z∧z[i.toNat]?=some D∧Q r D m'∧(r=0→v= .slice s.A s.n s.c∧js L w' s (z.set i.toNat m'))))
theorem yx(f:FuncId)(aL:∀ab w,(callFunc f ab).run prog w= .ok (.enter f ab) w)(ac:Array Value)(Q:Int→hp→hp→Prop)(A:Option Addr)(n c:Nat)(E:List hp)(i:Int)(w:World)(h:hV w w.heap.size A n 33 (flat hp.enc E))(ad:∀m∈E,m.At w w.heap.size)(S:∀m∈E,m.yh.n≤1000000∧m.nh.n≤1000000)(au:n≤1000000)(ae:A=none→n=0∧c=0)
 (af:∀(g:Nat) (s:Sl) (o:List hp) (j:Nat) (r:hp) (W:World),js w.heap.size W s o→Below w.heap.size w W→o[j]?=some r→s=⟨some ⟨g,0,none⟩,o.length,s.c⟩→(r.yh.n≤1000000∧r.nh.n≤1000000)→Calls prog f (#[.pointer (some ⟨g,j*33,none⟩)]++ac) W fun e ag=>∃D m',e= .returned (.int .i64 D)∧Below w.heap.size W ag∧Q D r m'∧(D=0→js w.heap.size ag s (o.set j m'))):
 Calls prog 195 #[.slice A n c,.int .i64 i,.func (.func f) #[] ac] w fun e w'=>∃v D,e= .returned (.tuple #[v,.int .i64 D])∧va w.heap.size Q E i w v D w':=by
 have ah:=h.len hp.len (by omega);obtain⟨b,T⟩:=hk (decide (0≤i∧i≤((n:Int) -1)));have av:IntKind.i64.wrap ((n:Int) -1)=(n:Int) -1:=by rw[IntKind.wrap_i64];omega
 obtain⟨U,aw,ax,ay,ai,V⟩:=ku (fun W=>oG i 0 ((n:Int) -1) b T W) (uY A n c E w h ad S au ae) af S T ah;clear h ad S af T ah ae;go_enter func195,ntmps195;go_wp2_with fail;try rw[av]
 refine hE (U _) ?_;cases b
 ·go_wp2
  go_ret2;refine⟨_,_,rfl,hz,.inl ⟨?_,rfl⟩⟩;have:=of_decide_eq_false ai.symm;have:=V.out;omega
 have az:=of_decide_eq_true ai.symm;obtain⟨j,rfl⟩:∃j:Nat,i=(j:Int):=⟨i.toNat,by omega⟩;have aj:j<E.length:=by have:=V.out;omega
 have O:=g' aj;have aA:j<n:=by omega
 clear az aj;go_wp2_with fail;refine aw.mono ?_;rintro e aB ⟨s,o,rfl,X,G,Y⟩;obtain⟨r,I⟩:∃r,o[j]?=some r:=⟨_,iB (by rw[G.1];exact O)⟩;obtain⟨g,ak,aC,aD,aE,aF,aG⟩:=X.at I;have al:=g' (ax g s o j r aB X Y I ak (by
  obtain⟨m,am⟩:∃m,E[j]?=some m:=⟨_,List.getElem?_eq_getElem O⟩;obtain⟨y,z,an,aM,aN⟩:=G.2 j m am;rw[I]at an;cases an;have:=ay.out m (List.mem_of_getElem? am);exact⟨by show y.n≤_;omega,by show z.n≤_;omega⟩))
 have J:=g' (And.intro G (And.intro I Y));have ao:o.length=n:=by rw[G.1,V.out]
 obtain⟨aO,K,Z⟩:=s;injection ak with aH aI _;subst aH aI;simp only;obtain⟨K,aa⟩:=hk o.length;rw[←aa]at al⊢;have aP:j<K:=by rw[aa,ao];exact aA
 clear X G I aC aD aE aF aG Y ao aa;go_wp2_with fail;go_at_fn f
 refine al.mono ?_;rintro e aQ ⟨D,m',rfl,ap,aq,ar⟩;have F:=g' (kY (J.2.2.trans ap) (And.intro aq ar));clear ap aq ar;by_cases R:D=0
 ·subst R
  obtain⟨aJ,aK,U⟩:=hs (F.2.2 rfl) F.2.1 F.1;clear F;go_wp2;go_ret2;exact⟨.slice (some ⟨g,0,none⟩) K Z,0,rfl,U,.inr ⟨by omega,by have:=O.out;omega,⟨some ⟨g,0,none⟩,K,Z⟩,o,r,m',J.1,J.2.1,aK,fun _=>⟨rfl,aJ⟩⟩⟩
 have aR:=iM R;have aS:=pM R;go_wp2;go_ret2;exact⟨.slice none 0 0,D,rfl,F.1,.inr ⟨by omega,by have:=O.out;omega,⟨some ⟨g,0,none⟩,K,Z⟩,o,r,m',J.1,J.2.1,F.2.1,fun h=>absurd h R⟩⟩
def EG(L:Nat)(s:Sl)(z:List hp)(j:Nat)(m:hp)(d:Bool)(W:World)(e:Ending)(r:World):Prop:=∃o m',e= .returned (.int .i64 o)∧Below L W r∧((o=0↔m.st=2)∧m'=m.lz (if d then 3 else 4))∧(o=0→js L r s (z.set j m'))
theorem EH(L g B j:Nat)(s:Sl)(r:List hp)(m:hp)(d:Bool)(W:World)(F:js L W s r)(z:r[j]?=some m)(A:s=⟨some ⟨g,0,none⟩,r.length,s.c⟩)(S:ha W B 4 #[.bool d])(ab:B<L):
 Calls prog 196 #[.pointer (some ⟨g,j*33,none⟩),.pointer (some ⟨B,0,none⟩)] W (EG L s r j m d W):=by
 obtain⟨G,o,T,U⟩:=F.rX (k:=30) (m':=m.lz 4) (x:= .int .i64 4) (y:= .int .i64 m.st) z A rfl rfl (by omega) rfl rfl rfl rfl;have V:(r.set j (m.lz 4))[j]?=some (m.lz 4):=by rw[List.getElem?_set_self (jh.1 z).1]
 obtain⟨I,X,J,K⟩:=G.rX (g:=g) (k:=30) (m':=m.lz 3) (x:= .int .i64 3) (y:= .int .i64 4) V (by rw[List.length_set];exact A) rfl rfl (by omega) rfl rfl rfl rfl;rw[List.set_set]at I;have Y:B≠g:=by obtain⟨ac,Z,ad,_⟩:=F.at z;rw[A]at Z;injection Z with e _;injection e with e;injection e with e;omega
 have D:(W.setCell ⟨g,j*33+30,none⟩ (.int .i64 4)).cell? ⟨B,0,none⟩=some (.bool d):=(S.other (by exact Y) _).cell (j:=0) rfl;obtain⟨E,O⟩:=hg (And.intro G (And.intro o (And.intro I (o.trans X)))) (And.intro D (And.intro J K));clear D G o I X J K V F S z Y A;go_enter func196,ntmps196;obtain⟨aa,Q⟩:=hk m.st;rw[←Q]at T;have R:=g' Q;clear Q;by_cases o:aa=2
 ·subst o
  go_upto_region 4 with(fail)
  clear T U;have D:=O.1;cases d
  ·go_wp2
   go_ret;exact⟨0,_,rfl,E.2.1,⟨⟨fun _=>R.symm,fun _=>rfl⟩,rfl⟩,fun _=>E.1⟩
  go_upto_region 5 with(fail)
  clear D;have J:=O.2.1;have K:=O.2.2;go_wp2;go_ret;exact⟨0,_,rfl,E.2.2.2,⟨⟨fun _=>R.symm,fun _=>rfl⟩,rfl⟩,fun _=>E.2.2.1⟩
 clear U;have ae:=pM o;go_wp2;go_ret;exact⟨291,_,rfl,hz,⟨⟨fun h=>(by cases h),fun h=>absurd (R.trans h) o⟩,rfl⟩,fun h=>(by cases h)⟩
def yy(d:Bool)(o:Int)(m m':hp):Prop:=(o=0↔m.st=2)∧m'=m.lz (if d then 3 else 4)
theorem EI(A:Option Addr)(n c:Nat)(o:List hp)(i:Int)(d:Bool)(w:World)(h:hV w w.heap.size A n 33 (flat hp.enc o))(S:∀m∈o,m.At w w.heap.size)(T:∀m∈o,m.yh.n≤1000000∧m.nh.n≤1000000)(U:n≤1000000)(V:A=none→n=0∧c=0):
 Calls prog 126 #[.slice A n c,.int .i64 i,.bool d] w fun e w'=>∃v z,e= .returned (.tuple #[v,.int .i64 z])∧va w.heap.size (yy d) o i w v z w':=by
 obtain⟨J,ah,r,K⟩:=iF w #[.bool d] 4;obtain⟨B,D⟩:=ho w.heap.size;have O:B<J.heap.size:=by rw[←D];exact K.lt
 have X:=g' (yx 196 (enters_of func196 (by kernel_rfl) rfl) #[.pointer (some ⟨B,0,none⟩)] (yy d) A n c o i J ((h.below r).more r.size) (fun m E=>((S m E).below r).more r.size) T U V
  (fun g s F j G W Y Z E aa _=>EH _ g B j s F G d W Y E aa (by rw[←D]at O⊢;exact K.to (Below.mono Z (by omega))) O))
 have I:=g' r;go_enter func126,ntmps126;go_wp2_with fail;try rw[D]
 refine X.mono ?_;rintro e ai ⟨v,z,rfl,ab⟩;have Q:=g' ab;go_wp2;go_ret2;refine⟨v,z,rfl,I.trans (Below.mono Q.1 I.size),?_⟩;rcases Q.2 with h|⟨ac,ad,s,F,G,m',ae,af,ag,R⟩
 ·exact .inl h
 exact .inr ⟨ac,ad,s,F,G,m',ae,af,ag,fun h=>⟨(R h).1,(R h).2.mono I.size⟩⟩
end hB
end Go.Proofs.YtffbipddbnkdjaaGreat
