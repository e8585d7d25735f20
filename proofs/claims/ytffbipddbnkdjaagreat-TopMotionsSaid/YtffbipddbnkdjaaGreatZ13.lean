/- What functions compute at any arguments, and plain facts: Ballot: stakes, Weigh, Count, Passes; OnesCount8, Index and Delete over ints; The walks of the line, first part: what a line holds; find, Place, Len, Push and others. Conditions: those that each theorem names. -/
import Derived.Test.YtffbipddbnkdjaaGreatZ12
import Derived.Deep.Upon
import Derived.Ground.Names2Prog
import Derived.Maps.OwnOps
import Derived.Maps.OwnSet
import Derived.Maps.Views
import Derived.Shelf.Slices.Cells
import Derived.Shelf.Slices.Delete
import Derived.Shelf.Slices.Empties
import Derived.Shelf.Slices.Turned
import Derived.Test.YtffbipddbnkdjaaGreatProg
set_option maxRecDepth 100000
set_option maxHeartbeats 40000000
set_option linter.all false
open Go Go.Proofs.Tryz
open Go.Value(int)
open Go.IntKind(i64 u64)
variable{A T:Option Addr}{n g b L k B i x a m j q c p s r d h u N y:Nat}{E z:Int}{P:Program}{w W X Z:World}{e t:TypeId}{f:Nat→Value}{l:List Bool}{V U:Value}{Y:List Nat}{S:List Value}{R:List Int}{Q:Array Value}{O:List (List Nat)}{M:Bool}{K:Ending}{J:Addr}{I:Nat→Nat}{H:Option Nat}
namespace Go.Proofs.YtffbipddbnkdjaaGreat
namespace hB
open RowKit
open hG hf hC h0 hU
theorem CM(k:Int)(w:World):Calls prog 90 #[int i64 k] w fun e w'=>∃b,e= .returned (.bool b)∧Below w.heap.size w w':=by
 go_enter func90,ntmps90;go_wp2;go_ret;exact⟨true,rfl,hz⟩
theorem CN(g:Nat)(B:Option Addr)(o r L:Nat)(bs:List Nat)(k:Int)(A:k≤9223372036854775807)(w:World)(D:o≤1000000)(F:w.cell? ⟨g,0,none⟩=some (.slice B o r))(E:hq.ie w L B o bs):
 Calls prog 159 #[int i64 k,.pointer (some ⟨g,0,none⟩)] w fun e w'=>∃b,e= .returned (.bool b)∧Below w.heap.size w w':=by
 have z:=g' (hq.qE B o r L k bs w E D A);generalize hq.kH bs k=y at z;go_enter func159,ntmps159;go_wp2_with fail;refine z.mono ?_;rintro e G ⟨rfl,q,rfl⟩;go_wp2;go_ret;exact⟨y,rfl,below_drewN hz q⟩
theorem CO(A:Option Addr)(n c:Nat)(ds:List Mem)(w:World)(h:hV w w.heap.size A n 6 (flat Mem.enc ds))(aD:n≤128)(X:∀m∈ds,m.hP≤1099511627776):
 Calls prog 89 #[.slice A n c,.func (.func 90) #[] #[]] w fun e w'=>∃v,e= .returned v∧(∃us:List Nat,(∀u∈us,u≤1099511627776)∧us.length≤n∧w'.ownsRow w.heap.size 22 1 v us.length (us.map wv))∧Below w.heap.size w w':=by
 obtain⟨ad,ae,af,ag,ah⟩:=info_parts hU.nu;obtain⟨ai,aj,ak⟩:=hs (h.len Mem.len (by omega)) (fun(W:World) (al:Below w.heap.size w W)=>h.below al) X;clear h X;go_enter func89,ntmps89;go_wp2;go_loopw [5,10] (fun am O wr=>∃k:Nat,O=int i64 k∧k≤n∧(∃us:List Nat,(∀u∈us,u≤1099511627776)∧us.length≤k∧wr.ownsRow w.heap.size 22 1 am us.length (us.map wv))∧Below w.heap.size w wr) (fun _ O _=>n-(intOf O).toNat)
 case atStart=>exact⟨0,rfl,h6,⟨[],by simp,by simp,World.ownsRow_nil _ _ _ _⟩,hz⟩
 case round=>
  obtain⟨k,rfl,aE,⟨us,E,an,Q⟩,D⟩:=hrel;by_cases F:k<n
  ·have ao:=hZ F
   obtain⟨d,R⟩:∃d,ds[k]?=some d:=⟨_,iB (by rw[ai.out];exact F)⟩;obtain⟨o,rfl,_,z⟩:=(aj wr D).cell Mem.len F R (by omega);have aF:wr.cell? (o.add (k*6))=some (int u64 d.hD):=by have:=z 0 _ rfl;rwa[hG.add_zero]at this
   have aG:wr.cell? ⟨(o.add (k*6)).block,(o.add (k*6)).off+1,none⟩=some (int u64 d.hP):=z 1 _ rfl;have aH:wr.cell? ⟨(o.add (k*6)).block,(o.add (k*6)).off+2,none⟩=some (int u64 d.h9):=z 2 _ rfl;have aI:wr.cell? ⟨(o.add (k*6)).block,(o.add (k*6)).off+3,none⟩=some (int i64 d.str):=z 3 _ rfl;have aJ:wr.cell? ⟨(o.add (k*6)).block,(o.add (k*6)).off+4,none⟩=some (int i64 d.own):=z 4 _ rfl;have aK:wr.cell? ⟨(o.add (k*6)).block,(o.add (k*6)).off+5,none⟩=some (int i64 d.h3):=z 5 _ rfl;have ap:=D.size;have S:=D.alloc ap (.cells (hW d) 98);have Y:=Q.alloc (.cells (hW d) 98);have T:=g' (ha.new wr wr.heap.size 98 (hW d) rfl);have aL:d.hP≤1099511627776:=ak.out d (List.mem_of_getElem? R);obtain⟨x,Z⟩:=hk (nW d);have aq:=g' (fun W=>rF d W x Z);clear z R Q D Z;go_wp2_with (refine hR T jY (j3 _) rfl rfl rfl rfl ?_);refine hI (aq _) fun aM G=>?_;have U:=kl Y G;have I:=S.trans (G.mono S.size);have ar:=I.size;have aa:=T.to G;clear Y S G T;cases x
   ·go_wp2
    exact⟨⟨k+1,by go_num,by omega,⟨us,E,by omega,U⟩,I⟩,by simp[intOf];omega⟩
   go_wp2_with fail;refine(CM k _).mono ?_;rintro e au ⟨y,rfl,J⟩;have K:=kl U J;have V:=I.trans (J.mono ar);have aN:=V.size;have av:=aa.to J;have aO:=av.all;clear U I J aa;cases y
   ·go_wp2
    exact⟨⟨k+1,by go_num,by omega,⟨us,E,by omega,K⟩,V⟩,by simp[intOf];omega⟩
   go_wp2_with (at_builtin;refine wpList_append_own_at _ rfl _ _ 25 rfl w.heap.size 22 ad (int u64 0) 1 8 kO ae af ag ah rfl (by decide) _ _ _ rfl (K.alloc _) ⟨au.heap.size,0,none⟩ 1 1 [int u64 d.hP] rfl rfl (cell_one_new _ _ _) ?_ ?_ ?_ ?_ ?_)
   ·intro u r;simp at r;subst r;rfl
   ·unfold maxLen;omega
   ·omega
   ·simp;omega
   intro aw ax ab ac _ ay;have az:=nt V K ac;have aA:ax.ownsRow w.heap.size 22 1 aw (us++[d.hP]).length ((us++[d.hP]).map wv):=by rw[List.length_append,List.map_append];exact ab
   have aB:∀u∈us++[d.hP],u≤1099511627776:=fun u r=>by rw[List.mem_append]at r;rcases r with r|r;exact E u r;simp at r;omega
   have aC:(us++[d.hP]).length≤k+1:=by rw[List.length_append];simp;omega
   clear ac ab K ay;go_wp2;exact⟨⟨k+1,by go_num,by omega,⟨_,aB,aC,aA⟩,az⟩,by simp[intOf];omega⟩
  have ao:=h1 F;obtain rfl:k=n:=by omega
  go_wp2;go_ret;exact⟨_,rfl,⟨us,E,an,Q⟩,D⟩
theorem CP(A:Option Addr)(n c:Nat)(ds:List Mem)(g:Nat)(B:Option Addr)(F Z:Nat)(bs:List Nat)(w:World)(h:hV w w.heap.size A n 6 (flat Mem.enc ds))(aa:hq.ie w w.heap.size B F bs)(aj:F≤1000000)(ab:w.cell? ⟨g,0,none⟩=some (.slice B F Z))(ak:g<w.heap.size)(aM:n≤128)(ac:∀m∈ds,m.hP≤1099511627776):
 Calls prog 89 #[.slice A n c,.func (.func 159) #[] #[.pointer (some ⟨g,0,none⟩)]] w fun e w'=>∃v,e= .returned v∧(∃us:List Nat,(∀u∈us,u≤1099511627776)∧us.length≤n∧w'.ownsRow w.heap.size 22 1 v us.length (us.map wv))∧Below w.heap.size w w':=by
 obtain⟨al,am,an,ao,ap⟩:=info_parts hU.nu;obtain⟨aq,ar,au,av⟩:=h5 (h.len Mem.len (by omega)) (fun(W:World) (G:Below w.heap.size w W)=>h.below G) ac (fun(k:Int) (ad:k≤9223372036854775807) (W:World) (G:Below w.heap.size w W)=>CN g B F Z w.heap.size bs k ad W aj ((G.cell (p:=⟨g,0,none⟩) ak).trans ab) (aa.below G));clear aa ab;clear h ac;go_enter func89,ntmps89;go_wp2;go_loopw [5,10] (fun aw R wr=>∃k:Nat,R=int i64 k∧k≤n∧(∃us:List Nat,(∀u∈us,u≤1099511627776)∧us.length≤k∧wr.ownsRow w.heap.size 22 1 aw us.length (us.map wv))∧Below w.heap.size w wr) (fun _ R _=>n-(intOf R).toNat)
 case atStart=>exact⟨0,rfl,h6,⟨[],by simp,by simp,World.ownsRow_nil _ _ _ _⟩,hz⟩
 case round=>
  obtain⟨k,rfl,ad,⟨us,I,ax,S⟩,D⟩:=hrel;by_cases J:k<n
  ·have ay:=hZ J
   obtain⟨d,T⟩:∃d,ds[k]?=some d:=⟨_,iB (by rw[aq.out];exact J)⟩;obtain⟨o,rfl,_,z⟩:=(ar wr D).cell Mem.len J T (by omega);have aN:wr.cell? (o.add (k*6))=some (int u64 d.hD):=by have:=z 0 _ rfl;rwa[hG.add_zero]at this
   have aO:wr.cell? ⟨(o.add (k*6)).block,(o.add (k*6)).off+1,none⟩=some (int u64 d.hP):=z 1 _ rfl;have aP:wr.cell? ⟨(o.add (k*6)).block,(o.add (k*6)).off+2,none⟩=some (int u64 d.h9):=z 2 _ rfl;have aQ:wr.cell? ⟨(o.add (k*6)).block,(o.add (k*6)).off+3,none⟩=some (int i64 d.str):=z 3 _ rfl;have aR:wr.cell? ⟨(o.add (k*6)).block,(o.add (k*6)).off+4,none⟩=some (int i64 d.own):=z 4 _ rfl;have aS:wr.cell? ⟨(o.add (k*6)).block,(o.add (k*6)).off+5,none⟩=some (int i64 d.h3):=z 5 _ rfl;have az:=D.size;have U:=D.alloc az (.cells (hW d) 98);have ae:=S.alloc (.cells (hW d) 98);have V:=g' (ha.new wr wr.heap.size 98 (hW d) rfl);have aT:d.hP≤1099511627776:=au.out d (List.mem_of_getElem? T);obtain⟨x,af⟩:=hk (nW d);have aA:=g' (fun W=>rF d W x af);clear z T S D af;go_wp2_with (refine hR V jY (j3 _) rfl rfl rfl rfl ?_);refine hI (aA _) fun aB K=>?_;have X:=kl ae K;have E:=U.trans (K.mono U.size);have aC:=E.size;have ag:=V.to K;clear ae U K V;cases x
   ·go_wp2
    exact⟨⟨k+1,by go_num,by omega,⟨us,I,by omega,X⟩,E⟩,by simp[intOf];omega⟩
   go_wp2_with fail;refine(av k (by omega) aB E).mono ?_;rintro e aD ⟨y,rfl,O⟩;have Q:=kl X O;have Y:=E.trans (O.mono aC);have aU:=Y.size;have aE:=ag.to O;have aV:=aE.all;clear X E O ag;cases y
   ·go_wp2
    exact⟨⟨k+1,by go_num,by omega,⟨us,I,by omega,Q⟩,Y⟩,by simp[intOf];omega⟩
   go_wp2_with (at_builtin;refine wpList_append_own_at _ rfl _ _ 25 rfl w.heap.size 22 al (int u64 0) 1 8 kO am an ao ap rfl (by decide) _ _ _ rfl (Q.alloc _) ⟨aD.heap.size,0,none⟩ 1 1 [int u64 d.hP] rfl rfl (cell_one_new _ _ _) ?_ ?_ ?_ ?_ ?_)
   ·intro u r;simp at r;subst r;rfl
   ·unfold maxLen;omega
   ·omega
   ·simp;omega
   intro aF aG ah ai _ aH;have aI:=nt Y Q ai;have aJ:aG.ownsRow w.heap.size 22 1 aF (us++[d.hP]).length ((us++[d.hP]).map wv):=by rw[List.length_append,List.map_append];exact ah
   have aK:∀u∈us++[d.hP],u≤1099511627776:=fun u r=>by rw[List.mem_append]at r;rcases r with r|r;exact I u r;simp at r;omega
   have aL:(us++[d.hP]).length≤k+1:=by rw[List.length_append];simp;omega
   clear ai ah Q aH;go_wp2;exact⟨⟨k+1,by go_num,by omega,⟨_,aK,aL,aJ⟩,aI⟩,by simp[intOf];omega⟩
  have ay:=h1 J;obtain rfl:k=n:=by omega
  go_wp2;go_ret;exact⟨_,rfl,⟨us,I,ax,S⟩,D⟩
theorem xI{v:Value}{us:List Nat}(o:∀u∈us,u≤1099511627776)(I:us.length≤128)(D:w.ownsRow b 22 1 v us.length (us.map wv)):
 ∃A n c x,v= .slice A n c∧x<18446744073709551616∧Calls prog 50 #[.slice A n c] w fun e w'=>e= .returned (.tuple #[int u64 (x:Nat),int i64 0])∧w=w':=by
 have E:Wd us:=fun u F=>by have:=o u F;omega
 have J:=rI o us.length;obtain⟨r,z,rfl,_,G⟩:=hU.pT rfl E D;exact⟨r,us.length,z,sm us us.length,rfl,by omega,qw r us.length z _ us w G (by omega) (by omega)⟩
theorem xJ(A:Option Addr)(n c:Nat)(ds:List Mem)(B:Option Addr)(o z:Nat)(bs:List Nat)(w:World)(h:hV w w.heap.size A n 6 (flat Mem.enc ds))(D:hq.ie w w.heap.size B o bs)(T:o≤1000000)(U:n≤128)(E:∀m∈ds,m.hP≤1099511627776):
 Calls prog 91 #[.slice A n c,.slice B o z] w fun e w'=>∃x:Nat,x<18446744073709551616∧e= .returned (.tuple #[int u64 x,int i64 0])∧Below w.heap.size w w':=by
 obtain⟨V,F,r,G⟩:=iF w #[.slice B o z] 36;obtain⟨I,W⟩:=hg G F;clear F G;have J:=I.cell (j:=0) (v:= .slice B o z) rfl;have K:=I.lt;have X:=g' (CP A n c ds w.heap.size B o z bs V ((h.below r).more r.size) ((D.below r).more r.size) T J K U E);clear h D E J K;go_enter func91,ntmps91;go_upto_region 1 with(fail)
 rw[W.out];go_wp2_with fail;refine X.mono ?_;rintro e ac ⟨v,rfl,⟨us,O,Y,Q⟩,R⟩;obtain⟨ad,ae,af,x,rfl,Z,S⟩:=xI O (by omega) Q;have aa:=g' S;have ab:=r.trans (R.mono r.size);clear S Q O Y R;go_wp2_with fail;refine aa.mono ?_;rintro e w' ⟨rfl,rfl⟩;go_wp2;go_ret2;exact⟨x,Z,rfl,ab⟩
def k6(y n a:Nat):Array Value:= #[int u64 y,int u64 n,int u64 a]
instance{y n a:Nat}:hf.jP (k6 y n a) fun o r=>(∀j,o.frozen? ⟨r,j,none⟩=false)∧hf.hh o r 0 (int u64 y)∧hf.hh o r 1 (int u64 n)∧hf.hh o r 2 (int u64 a):=⟨fun h=>⟨h.frozen,hf.jX h⟩⟩
theorem ur(y n a:Nat):(prog.info? 130).map (·.size)=some (k6 y n a).size:=by kernel_rfl
theorem CQ(y n a:Nat):(k6 y n a).all (·.oneCell')=true:=by kernel_rfl
theorem CR(A:Option Addr)(n c:Nat)(ds:List Mem)(B:Option Addr)(r O:Nat)(bs:List Nat)(D:Option Addr)(E Q:Nat)(es:List Nat)(w:World)(h:hV w w.heap.size A n 6 (flat Mem.enc ds))(R:hq.ie w w.heap.size B r bs)(ad:r≤1000000)(S:hq.ie w w.heap.size D E es)(ae:E≤1000000)(G:n≤128)(F:∀m∈ds,m.hP≤1099511627776):
 Calls prog 56 #[.slice A n c,.slice B r O,.slice D E Q] w fun e w'=>∃x y z:Nat,(x<18446744073709551616∧y<18446744073709551616∧z<18446744073709551616)∧e= .returned (.tuple #[.agg (k6 x y z),int i64 0])∧Below w.heap.size w w':=by
 obtain⟨af,ag,ah⟩:=hs (fun(W:World) (o:Below w.heap.size w W)=>CO A n c ds W ((h.below o).more o.size) G F) (fun(W:World) (o:Below w.heap.size w W)=>xJ A n c ds B r O bs W ((h.below o).more o.size) ((R.below o).more o.size) ad G F) (fun(W:World) (o:Below w.heap.size w W)=>xJ A n c ds D E Q es W ((h.below o).more o.size) ((S.below o).more o.size) ae G F);clear h R S F;obtain⟨ay,T,U,V⟩:=iF w #[int u64 0,int u64 0,int u64 0] 130;obtain⟨ai,aj⟩:=hg V T;clear T V;go_enter func56,ntmps56;go_upto_region 1 with(fail)
 rw[aj.out];go_wp2_with fail;refine(af _ U).mono ?_;rintro e az ⟨v,rfl,⟨us,X,ak,Y⟩,I⟩;have Z:=hJ U I;have al:=g' (ai.to I);obtain⟨aA,aB,aC,z,rfl,am,aa⟩:=xI X (by omega) Y;have an:=g' aa;clear aa Y X ak;clear I;go_wp2_with fail;refine an.mono ?_;rintro e w' ⟨rfl,rfl⟩;go_wp2_with fail;refine(ag _ Z).mono ?_;rintro e aD ⟨x,ao,rfl,J⟩;have ab:=hJ Z J;have ap:=g' (al.to J);clear J;go_wp2_with fail;refine(ah _ ab).mono ?_;rintro e aE ⟨y,aq,rfl,K⟩;have ac:=hJ ab K;have ar:=g' (ap.to K);clear K;go_wp2_with (first|(refine wpList_build rfl 130 #[(0,.tmp 36),(1,.tmp 37),(2,.tmp 38)] rfl (.agg (k6 x y z)) (fun w'=>by kernel_rfl) ?_)|(refine iL rfl 130 (.tmp 6) (.tmp 39) rfl w.heap.size ((k6 x y z)) rfl rfl 130 _ ar (ur _ _ _) rfl (CQ _ _ _) ?_;intro aF au av;have aw:=iC ac av (by first|omega|(simp;omega)) (ac).size;have ax:=g' au));exact bodyPost_ret (v:= .tuple #[.agg (k6 x y z),int i64 0]) (jy results56 _ _ _ _ _ _ _ rfl rfl (ax) underlying130 rfl (ur _ _ _)) rfl ⟨x,y,z,⟨ao,aq,am⟩,rfl,aw⟩
theorem CS(p:hx)(ab:p.jd)(x y z:Nat)(o:x<18446744073709551616)(A:y<18446744073709551616)(D:z<18446744073709551616)(w:World):
 Calls prog 194 #[.agg p.cs,.agg (k6 x y z)] w fun e w'=>∃b,e= .returned (.bool b)∧Below w.heap.size w w':=by
 obtain⟨r,R⟩:=hk (lJ x y);have S:r.1<18446744073709551616:=by rw[R];exact AP x y
 have I:=g' (fun W=>sw x y o A r R W);obtain⟨ac,T⟩:=r;simp only at S;have ae:=ab.iO;obtain⟨n,af⟩:=hk p.iO.toNat;have ak:u64.wrap p.iO=(n:Int):=(IntWalk.u64_in _ (by omega)).trans (by omega);have al:decide (p.iO<0)=false:=by simp;omega
 obtain⟨q,ad⟩:=hk (decide (ac*10000<n*z));have ag:=g' (fun W=>tT ac 10000 n z S (by omega) (by omega) D W q ad);clear R S ae af ad ab;have E:Below w.heap.size w ((w.alloc (.cells p.cs 24)).alloc (.cells (k6 x y z) 130)):=((hz.alloc hj _).alloc (by simp) _);have U:ha ((w.alloc (.cells p.cs 24)).alloc (.cells (k6 x y z) 130)) w.heap.size 24 p.cs:=((ha.new w _ _ _ rfl).alloc _);have V:ha ((w.alloc (.cells p.cs 24)).alloc (.cells (k6 x y z) 130)) (w.heap.size+1) 130 (k6 x y z):=(ha.new _ _ _ _ (by simp));obtain⟨am,X⟩:=ho ((w.alloc (.cells p.cs 24)).alloc (.cells (k6 x y z) 130));rw[X]at E U V;obtain⟨F,G,J⟩:=hs U V X;clear X U V;by_cases K:T=0
 ·subst K
  by_cases Y:z=0
  ·have ah:((z:Int)==0)=true:=by rw[beq_iff_eq];omega
   clear o A D Y;go_enter func194,ntmps194;go_upto_region 1 with(fail)
   rw[J.out];have Z:=G.all;have aa:=F.all;go_wp2_with fail;refine hE (I _) ?_;go_wp2;go_ret;exact⟨_,rfl,E⟩
  have ah:((z:Int)==0)=false:=by rw[beq_eq_false_iff_ne];omega
  by_cases O:x≤y
  ·have ai:=hZ O
   clear o A D Y O;go_enter func194,ntmps194;go_upto_region 1 with(fail)
   rw[J.out];have Z:=G.all;have aa:=F.all;go_wp2_with fail;refine hE (I _) ?_;go_wp2;go_ret;exact⟨_,rfl,E⟩
  have ai:=h1 O;clear o A D Y O;go_enter func194,ntmps194;go_upto_region 1 with(fail)
  rw[J.out];have Z:=G.all;have aa:=F.all;go_wp2_with fail;refine hE (I _) ?_;go_wp2_with fail;refine hI (ag _) fun an Q=>?_;have aj:=hJ E Q;obtain⟨ao,ap⟩:=hg (F.to Q) (G.to Q);clear Q;go_wp2;go_ret;exact⟨_,rfl,aj⟩
 have aq:(T==0)=false:=by rw[beq_eq_false_iff_ne];exact K
 have ar:(T !=0)=true:=by rw[bne_iff_ne];exact K
 clear o A D K;go_enter func194,ntmps194;go_upto_region 1 with(fail)
 rw[J.out];have Z:=G.all;have aa:=F.all;go_wp2_with fail;refine hE (I _) ?_;go_wp2;go_ret;exact⟨_,rfl,E⟩
end hB
end Go.Proofs.YtffbipddbnkdjaaGreat
namespace Go.Proofs
open Shelf
def Tryz.CT:Go.Shelf.Ren:=⟨fun|108=>255|n=>n,fun|28=>40|3=>3|0=>0|4=>4|n=>n,fun|n=>n⟩
theorem Tryz.xK:Go.Proofs.Lays.n108 Tryz.prog Tryz.CT:={
 mixed:=by kernel_rfl
 f108:=Tryz.func255.trans (congrArg some (by kernel_rfl))
 t0:=Tryz.underlying0
 a0:=Tryz.isAgg0
 z0:=Tryz.sizeOf0
 v0:=Tryz.zeroValue0
 t3:=Tryz.underlying3
 a3:=Tryz.isAgg3
 z3:=Tryz.sizeOf3
 v3:=Tryz.zeroValue3
 t4:=Tryz.underlying4
 a4:=Tryz.isAgg4
 z4:=Tryz.sizeOf4
 v4:=Tryz.zeroValue4
 t28:=Tryz.underlying40
 a28:=Tryz.isAgg40
 z28:=Tryz.sizeOf40
 v28:=Tryz.zeroValue40}
open Go.Lib in
theorem Tryz.slices_Index_int(b r n c:Nat)(o:List Int)(x:Int)(w:World)(z:n≤o.length)(A:n≤9223372036854775807)(D:∀j,j<o.length→w.cell? ⟨b,r+j,none⟩=some (.int .i64 (o.getD j 0))):
 Calls Tryz.prog 255 #[.slice (some ⟨b,r,none⟩) n c,.int .i64 x] w fun e w'=>e= .returned (.int .i64 (Lib.idxOf (o.take n) x))∧w'=w:=Any.slices_Index_int Tryz.xK b r n c o x w z A D
open Go.Lib in
theorem Tryz.slices_Index_int_empty(a:Option Addr)(c:Nat)(x:Int)(w:World):
 Calls Tryz.prog 255 #[.slice a 0 c,.int .i64 x] w fun e w'=>e= .returned (.int .i64 (Lib.idxOf [] x))∧w'=w:=Any.slices_Index_int_empty Tryz.xK a c x w
def Tryz.CU:Go.Shelf.Ren:=⟨fun|23=>262|n=>n,fun|22=>40|3=>3|4=>4|0=>0|n=>n,fun|n=>n⟩
theorem Tryz.xL:Go.Proofs.Lays2.n23 Tryz.prog Tryz.CU:={
 mixed:=by kernel_rfl
 f23:=Tryz.func262.trans (congrArg some (by kernel_rfl))
 t0:=Tryz.underlying0
 a0:=Tryz.isAgg0
 z0:=Tryz.sizeOf0
 v0:=Tryz.zeroValue0
 t3:=Tryz.underlying3
 a3:=Tryz.isAgg3
 z3:=Tryz.sizeOf3
 v3:=Tryz.zeroValue3
 t4:=Tryz.underlying4
 a4:=Tryz.isAgg4
 z4:=Tryz.sizeOf4
 v4:=Tryz.zeroValue4
 t22:=Tryz.underlying40
 a22:=Tryz.isAgg40
 z22:=Tryz.sizeOf40
 v22:=Tryz.zeroValue40
 i3:=by kernel_rfl}
open Go.RowKit Go.Lib Go.Sort in
theorem Tryz.slices_Delete_int_cells(b o n c i j:Nat)(r:List Int)(w:World)(z:n≤r.length)(A:n≤c)(D:c≤9223372036854775807)(E:i≤j)(F:j≤n)(G:∀j,j<r.length→w.cell? ⟨b,o+j,none⟩=some (.int .i64 (r.getD j 0)))(I:∀j,j<n→w.frozen? ⟨b,o+j,none⟩=false):
 Calls Tryz.prog 262 #[.slice (some ⟨b,o,none⟩) n c,.int .i64 i,.int .i64 j] w fun e w'=>e= .returned (.slice (some ⟨b,o,none⟩) (n-(j-i)) c)∧∃q,w'=(w.drewN q).setCells b o (((r.take n).take i++(r.take n).drop j++List.replicate (j-i) 0).map (Value.int .i64)):=Any.slices_Delete_int_cells Tryz.xL b o n c i j r w z A D E F G I
open Go.RowKit Go.Lib in
theorem Tryz.slices_Delete_int_empty(a:Option Addr)(c:Nat)(w:World):
 Calls Tryz.prog 262 #[.slice a 0 c,.int .i64 0,.int .i64 0] w fun e w'=>e= .returned (.slice a 0 c)∧w'=w:=Any.slices_Delete_int_empty Tryz.xL a c w
end Go.Proofs
namespace Go.Proofs.YtffbipddbnkdjaaGreat
namespace kQ
open RowKit
open hG
def iw(z:Int):Value:= .int .i64 z
theorem uu(h:j<R.length):(R.map iw)[j]?=some (.int .i64 (R.getD j 0)):=by
 rw[List.getElem?_map,iJ,List.getElem?_eq_getElem h];rfl
theorem pS:(prog.info? 3).map (fun i=>(i.zero,i.size,i.bytes))=some (some (.int .i64 0),1,8):=by kernel_rfl
structure kR (w:World) (p:Nat) (v:Value) (zs:List Int):Prop where
 lt:p<w.heap.size
 cell:w.cell? ⟨p,0,none⟩=some v
 fz:w.frozen? ⟨p,0,none⟩=false
 own:w.ownsRow (p+1) 3 1 v zs.length (zs.map iw)
structure ph (w w':World) (p:Nat) (r:Option Nat):Prop where
 os:w'.os=w.os
 tape:w'.tape=w.tape
 output:w'.output=w.output
 size:w.heap.size≤w'.heap.size
 block:∀k,k<w.heap.size→k≠p→some k≠r→w'.heap[k]?=w.heap[k]?
theorem ph.below{w':World}{r:Option Nat}(h:ph w w' p r)(z:B≤w.heap.size)(A:B≤p)(o:∀k,r=some k→B≤k):Below B w w':=
 ⟨h.1,h.2,h.3,h.4,fun k D=>h.block k (by omega) (by omega) (fun e=>by have:=o k e.symm;omega)⟩
theorem kR.form{v:Value}(h:kR w p v R):∃A c,v= .slice A R.length c∧R.length≤c∧c≤maxLen∧Rd w w.heap.size A R.length (fun j=> .int .i64 (R.getD j 0)):=by
 obtain⟨A,c,o,r,z,_,D⟩:=Rd.own h.own (fun j E=>uu E);exact⟨A,c,o,r,z,D⟩
theorem rK{v:Value}{xs:List Value}(h:w.ownsRow b e 1 v n xs):∃A c,v= .slice A n c:=by
 rcases h.2 with⟨rfl,rfl⟩|⟨g,cap,cur,rfl,_⟩
 ·exact⟨none,0,rfl⟩
 exact⟨_,cap,rfl⟩
theorem CV{v:Value}(x:Int)(h:kR w p v R)(A:R.length≤100000):
 Calls prog 255 #[v,.int .i64 x] w fun e w'=>e= .returned (.int .i64 (Lib.idxOf R x))∧w'=w:=by
 have o:=h.own;rcases o.2 with⟨rfl,r⟩|⟨g,c,cur,rfl,_⟩
 ·obtain rfl:R=[]:=List.eq_nil_of_length_eq_zero r
  exact Tryz.slices_Index_int_empty none 0 x w
 have:=Tryz.slices_Index_int g 0 R.length c R x w hj (by omega) (fun j z=>by rw[Nat.zero_add,o.cellAt j (by omega)];exact uu z);rwa[List.take_of_length_le hj]at this
theorem CW{v:Value}(x:Int)(h:kR w p v R)(o:R.length≤100000):
 Calls prog 261 #[.pointer (some ⟨p,0,none⟩),.int .i64 x] w fun e w'=>e= .returned (.int .i64 (Lib.idxOf R x))∧w=w':=by
 have r:=g' (CV x h o);have z:=h.cell;clear h;go_enter func261,ntmps261;go_wp2_with fail;refine r.mono ?_;rintro e w' ⟨rfl,rfl⟩;go_wp2;go_ret;exact⟨rfl,rfl⟩
theorem CX{v:Value}(x:Int)(h:kR w p v R)(ao:0≤x)(X:Lib.idxOf R x<0)(ap:R.length<256):
 Calls prog 236 #[.pointer (some ⟨p,0,none⟩),.int .i64 x] w fun e w'=>e= .returned (.int .i64 0)∧∃J,kR w' p J (R++[x])∧ph w w' p v.ownBlock:=by
 obtain⟨Y,Z,aa,ab,ac⟩:=info_parts pS;have K:=g' (CW x h (by omega));have aq:decide (x<0)=false:=by simp;omega
 have ad:decide (0≤Lib.idxOf R x)=false:=by simp;omega
 have ar:decide ((256:Int)≤R.length)=false:=by simp;omega
 obtain⟨A,c,ae,_⟩:=h.form;have O:=h.cell;have Q:=h.fz;have D:=h.lt;have E:=h.own;clear h X;generalize Lib.idxOf R x=i at K ad;have af:(R.map iw).length=R.length:=by simp
 generalize S:R.length=n at*;subst ae;go_enter func236,ntmps236;go_wp2_with fail;refine K.mono ?_;rintro e w' ⟨rfl,rfl⟩;go_wp2_with (at_builtin;refine wpList_append_own _ rfl _ _ 40 rfl (p+1) 3 Y (.int .i64 0) 1 8 kB Z aa ab ac rfl (by decide) _ _ _ rfl (E.alloc _) ⟨w.heap.size,0,none⟩ 1 1 [.int .i64 x] rfl rfl (cell_one_new _ _ _) ?_ ?_ ?_ ?_ ?_)
 ·intro u T;simp at T;subst T;rfl
 ·unfold maxLen;omega
 ·omega
 ·simp;omega
 intro J o F r _;obtain⟨z,c',rfl⟩:=rK F;have U:some p≠(Value.slice A n c).ownBlock:=fun e=>by have:=(E.lt p e.symm).1;omega
 have G:o.heap[p]?=w.heap[p]? :=(r.block p (by simp;omega) U).trans (Below.heap_alloc w _ p D);have ag:o.cell? ⟨p,0,none⟩=some (.slice A n c):=(World.cell?_of_block (a:=⟨p,0,none⟩) G).trans O;have ah:o.frozen? ⟨p,0,none⟩=false:=(World.frozen?_of_block (a:=⟨p,0,none⟩) G).trans Q;have I:w.heap.size≤o.heap.size:=Nat.le_trans (by simp) r.size;have V:ph w (o.setCell ⟨p,0,none⟩ (.slice z (n+1) c')) p (Value.slice A n c).ownBlock:=
  ⟨r.os,r.tape,r.output,by simpa[World.setCell]using I,fun k ai aj ak=>(Below.heap_setCell o ⟨p,0,none⟩ (.slice z (n+1) c') k aj).trans ((r.block k (by simp;omega) ak).trans (Below.heap_alloc w _ k ai))⟩
 have al:=g' V;have W:(o.setCell ⟨p,0,none⟩ (.slice z (n+1) c')).ownsRow (p+1) 3 1 (.slice z (n+1) c') (R++[x]).length ((R++[x]).map iw):=by
  rw[List.length_append,List.map_append,S];exact ownsRow_setCell_below F (by show p<p+1;omega) _
 obtain⟨am,an⟩:=hg W (Nat.lt_of_lt_of_le D I);clear r F E V W G I D O Q U af S;go_wp2;go_ret;exact⟨rfl,_,⟨by simpa[World.setCell]using an.out,World.cell?_setCell_same _ _ _ ag,(World.frozen?_setCell _ _ _ _).trans ah,am⟩,al⟩
theorem mz:∀(z:List Value) (o:Nat) (w:World) (xs:List Value),w.ownsRow b e 1 (.slice (some ⟨g,0,none⟩) n L) n xs→o+z.length≤n→
 (w.setCells g o z).ownsRow b e 1 (.slice (some ⟨g,0,none⟩) n L) n (xs.take o++z++xs.drop (o+z.length))
 |[],o,w,xs,h,_=>by simpa[World.setCells]using h
 |v::r,o,w,xs,h,A=>by
  have E:xs.length=n:=by have:=h.1;omega
  have D:o+1+r.length≤n:=by simp at A;omega
  have:=mz r (o+1) (w.setCell ⟨g,o,none⟩ v) (xs.set o v) (h.stored o v).1 D;rw[World.setCells];have e:(xs.set o v).take (o+1)++r++(xs.set o v).drop (o+1+r.length)=xs.take o++v::r++xs.drop (o+(v::r).length):=by
   rw[List.drop_set_of_lt (by omega),List.take_add_one,List.take_set_of_le hj,List.getElem?_set_self (by omega)];simp[Nat.add_assoc,Nat.add_comm 1]
  rwa[e]at this
theorem uv(g:Nat):∀(z:List Value) (o:Nat) (w:World),(w.setCells g o z).os=w.os∧(w.setCells g o z).tape=w.tape∧(w.setCells g o z).output=w.output∧(w.setCells g o z).heap.size=w.heap.size
 |[],o,w=>⟨rfl,rfl,rfl,rfl⟩
 |v::r,o,w=>by
  have:=uv g r (o+1) (w.setCell ⟨g,o,none⟩ v);rw[World.setCells];exact⟨this.1,this.2.1,this.2.2.1,this.2.2.2.trans (by simp[World.setCell])⟩
theorem xM{xs:List Value}(h:w.ownsRow b e 1 (.slice (some ⟨g,0,none⟩) n L) n xs)(D:m≤n):
 w.ownsRow b e 1 (.slice (some ⟨g,0,none⟩) m L) m (xs.take m):=by
 have E:=h.1;rcases h.2 with⟨hv,_⟩|⟨F,G,cur,hv,hb,o,I,r,z,A⟩
 ·cases hv
 cases hv;refine⟨by simp;omega,.inr ⟨_,_,cur,rfl,hb,o,by omega,r,z,?_⟩⟩;rw[←A,List.take_take];congr 1;omega
theorem CY(A:i≤j)(D:j≤R.length):
 (((R.map iw).take 0++((R.take R.length).take i++(R.take R.length).drop j++List.replicate (j-i) 0).map (Value.int .i64)++(R.map iw).drop (0+(((R.take R.length).take i++(R.take R.length).drop j++List.replicate (j-i) 0).map (Value.int .i64)).length)).take (R.length-(j-i)))=(R.take i++R.drop j).map iw:=by
 have o:R.take R.length=R:=List.take_of_length_le hj;rw[o];have r:((R.take i++R.drop j++List.replicate (j-i) 0).map (Value.int .i64)).length=R.length:=by simp;omega
 have z:(R.map iw).drop (0+((R.take i++R.drop j++List.replicate (j-i) 0).map (Value.int .i64)).length)=[]:=List.drop_of_length_le (by rw[r,List.length_map];omega);rw[z,List.append_nil,List.take_zero,List.nil_append,List.map_append];rw[List.take_left' (by simp;omega)];rfl
theorem CZ{v:Value}(o:w.ownsRow n 3 1 v R.length (R.map iw))(i j:Nat)(F:i≤j)(D:j≤R.length)(V:R.length≤100000):
 Calls prog 262 #[v,.int .i64 i,.int .i64 j] w fun e w'=>∃E,e= .returned E∧w'.ownsRow n 3 1 E (R.take i++R.drop j).length ((R.take i++R.drop j).map iw)∧w.grownBy w' v.ownBlock∧E.ownBlock=v.ownBlock:=by
 rcases o.2 with⟨rfl,G⟩|⟨g,c,cur,rfl,hb,W,I,J,X,Y⟩
 ·obtain rfl:R=[]:=List.eq_nil_of_length_eq_zero G
  obtain rfl:j=0:=by simpa using D
  obtain rfl:i=0:=by omega
  refine(Tryz.slices_Delete_int_empty none 0 w).mono ?_;rintro e w' ⟨rfl,rfl⟩;exact⟨_,rfl,World.ownsRow_nil _ _ _ _,World.grownBy.refl w' _,rfl⟩
 refine(Tryz.slices_Delete_int_cells g 0 R.length c i j R w hj I (by unfold maxLen at J;omega) F D (fun k r=>by rw[Nat.zero_add,o.cellAt k (by omega)];exact uu r) (fun k _=>by rw[Nat.zero_add];exact o.frozenAt k)).mono ?_;rintro e w' ⟨rfl,q,rfl⟩;have z:=below_drewN (Below.refl w.heap.size w) q;have A:=uv g (((R.take R.length).take i++(R.take R.length).drop j++List.replicate (j-i) 0).map (Value.int .i64)) 0 (w.drewN q);have K:(((R.take R.length).take i++(R.take R.length).drop j++List.replicate (j-i) 0).map (Value.int .i64)).length=R.length:=by simp;omega
 have O:=mz (((R.take R.length).take i++(R.take R.length).drop j++List.replicate (j-i) 0).map (Value.int .i64)) 0 (w.drewN q) (R.map iw) o (by rw[K];omega);have Q:=xM (m:=R.length-(j-i)) O (by omega);refine⟨_,rfl,?_,⟨A.1.trans z.1,A.2.1.trans z.2,A.2.2.1.trans z.3,Nat.le_of_eq A.2.2.2.symm,fun k r S=>?_⟩,rfl⟩
 ·have T:(R.take i++R.drop j).length=R.length-(j-i):=by simp;omega
  have U:(((R.map iw).take 0++((R.take R.length).take i++(R.take R.length).drop j++List.replicate (j-i) 0).map (Value.int .i64)++(R.map iw).drop (0+(((R.take R.length).take i++(R.take R.length).drop j++List.replicate (j-i) 0).map (Value.int .i64)).length)).take (R.length-(j-i)))=(R.take i++R.drop j).map iw:=by
   exact CY F D
  rw[T,←U];exact Q
 exact(World.heap_setCells_other (w.drewN q) _ _ _ (i:=k) r (fun e=>S (by rw[e];rfl))).trans (z.block k r)
theorem C0(m:Nat)(h:kR w p (.slice (some ⟨g,0,none⟩) R.length c) R)(X:m≤R.length)(al:R.length≤100000):
 Calls prog 237 #[.pointer (some ⟨p,0,none⟩),.int .i64 0,.int .i64 m] w fun e w'=>∃o O,e= .returned o∧w'.ownsRow w.heap.size 3 1 o m ((R.take m).map iw)∧kR w' p O (R.drop m)∧ph w w' p (some g)∧O.ownBlock=some g:=by
 obtain⟨am,an,ao,ap,aq⟩:=info_parts pS;obtain⟨A,c',ar,aG,aH,Y⟩:=h.form;cases ar;have Z:=h.cell;have aa:=h.fz;have G:=h.lt;have Q:=h.own;have ab:=Y.take X;have ac:(List.range m).map (fun j=>Value.int .i64 (R[j]?.getD 0))=(R.take m).map iw:=by
  apply List.ext_getElem (by simp;omega);intro j S ad;simp at S;have au:j<R.length:=by omega
  simp[iw,List.getElem?_eq_getElem au]
 have av:=g' ac;clear ac Y h;go_enter func237,ntmps237;go_wp2_with (at_builtin;refine pI _ rfl _ _ 40 rfl w.heap.size 3 am (.int .i64 0) 8 kB an ao ap aq rfl _ _ _ rfl (World.ownsRow_nil _ _ _ _) (some ⟨g,0,none⟩) m _ _ rfl ab (fun _=>rfl) ?_ ?_ hj ?_)
 ·unfold maxLen;omega
 ·omega
 intro o E D r;have ae:=D;clear D;have D:E.ownsRow w.heap.size 3 1 o m ((R.take m).map iw):=by
  rw[←av.out];simpa using ae
 clear ae;obtain⟨B,d,rfl⟩:=rK D;have af:some p≠(Value.slice none 0 0).ownBlock:=fun e=>by cases e
 have T:E.heap[p]?=w.heap[p]? :=r.block p G af;have ag:E.cell? ⟨p,0,none⟩=some (.slice (some ⟨g,0,none⟩) R.length c):=(World.cell?_of_block (a:=⟨p,0,none⟩) T).trans Z;have ah:E.frozen? ⟨p,0,none⟩=false:=(World.frozen?_of_block (a:=⟨p,0,none⟩) T).trans aa;have ai:=Q.kept r (Or.inr (fun e=>by cases e));have aw:p+1≤g∧g<w.heap.size:=Q.lt g rfl;have ax:=g' (CZ ai 0 m (h6) X al);have U:=r.size;clear Q Z aa T ab;go_wp2_with fail;refine ax.mono ?_;rintro e F ⟨O,rfl,I,z,aj⟩;rw[List.take_zero,List.nil_append]at I;obtain⟨J,K,rfl⟩:=rK I;have V:=z.size;have W:F.heap[p]?=E.heap[p]? :=z.block p (by omega) (fun e=>by have aI:p=g:=Option.some.inj e;omega);have ay:F.cell? ⟨p,0,none⟩=some (.slice (some ⟨g,0,none⟩) R.length c):=(World.cell?_of_block (a:=⟨p,0,none⟩) W).trans ag;have az:F.frozen? ⟨p,0,none⟩=false:=(World.frozen?_of_block (a:=⟨p,0,none⟩) W).trans ah;have ak:=D.kept z (Or.inr (fun e=>by have:=(D.lt g e).1;omega));obtain⟨aA,aB⟩:=hg (ownsRow_setCell_below ak (a:=⟨p,0,none⟩) G (.slice J (R.drop m).length K)) (ownsRow_setCell_below I (a:=⟨p,0,none⟩) (by show p<p+1;omega) (.slice J (R.drop m).length K));have aC:=g' (show ph w (F.setCell ⟨p,0,none⟩ (.slice J (R.drop m).length K)) p (some g)from
  ⟨z.os.trans r.os,z.tape.trans r.tape,z.output.trans r.output,by simpa[World.setCell]using Nat.le_trans U V,
   fun k aD S ad=>(Below.heap_setCell F ⟨p,0,none⟩ _ k S).trans ((z.block k (by omega) ad).trans (r.block k aD (fun e=>by cases e)))⟩)
 obtain⟨aE,aF⟩:=hg (Nat.lt_of_lt_of_le G (Nat.le_trans U V)) aj;clear r z D ai I ak W ag ah G U V aw af aj;generalize hlen:(R.drop m).length=n2 at*;go_wp2;go_ret;exact⟨_,.slice J n2 K,rfl,aA.out,⟨by simpa[World.setCell]using aE.out,World.cell?_setCell_same _ _ _ ay,(World.frozen?_setCell _ _ _ _).trans az,by rw[hlen];exact aB.out⟩,aC.out,aF⟩
def gZ(w:World)(p:Nat)(r:Option Nat)(m:Nat)(L A:List Int)(o:Value)(w':World):Prop:=
 ∃z,w'.ownsRow w.heap.size 3 1 o m (L.map iw)∧kR w' p z A∧ph w w' p r∧z.ownBlock=r
theorem C1(h:kR w p (.slice none 0 0) []):
 Calls prog 237 #[.pointer (some ⟨p,0,none⟩),.int .i64 0,.int .i64 0] w fun e w'=>∃o,e= .returned o∧gZ w p none 0 [] [] o w':=by
 obtain⟨O,Q,R,S,T⟩:=info_parts pS;have I:=h.cell;have J:=h.fz;have A:=g' h.lt;clear h;go_enter func237,ntmps237;go_wp2_with (at_builtin;refine pI _ rfl _ _ 40 rfl w.heap.size 3 O (.int .i64 0) 8 kB Q R S T rfl _ _ _ rfl (World.ownsRow_nil _ _ _ _) none 0 0 (fun _=> .int .i64 0) rfl Rd.nil (fun _=>rfl) ?_ ?_ hj ?_)
 ·unfold maxLen;omega
 ·omega
 intro o r D E;obtain⟨B,d,rfl⟩:=rK D;have F:r.heap[p]?=w.heap[p]? :=E.block p A.out (fun e=>by cases e);have U:r.cell? ⟨p,0,none⟩=some (.slice none 0 0):=(World.cell?_of_block (a:=⟨p,0,none⟩) F).trans I;have V:r.frozen? ⟨p,0,none⟩=false:=(World.frozen?_of_block (a:=⟨p,0,none⟩) F).trans J;obtain⟨W,z⟩:=hg (show r.ownsRow w.heap.size 3 1 (.slice B 0 d) 0 (([]:List Int).map iw) by simpa using D) E;clear D E I J F;go_wp2_with fail;refine(Tryz.slices_Delete_int_empty none 0 r).mono ?_;rintro e G ⟨rfl,rfl⟩;have K:=z.out.size;obtain⟨X,Y⟩:=hg (show p<G.heap.size by have:=A.out;omega) (ownsRow_setCell_below W (a:=⟨p,0,none⟩) A.out (.slice none 0 0));have Z:=g' (show ph w (G.setCell ⟨p,0,none⟩ (.slice none 0 0)) p none from
  ⟨z.out.os,z.out.tape,z.out.output,by simpa[World.setCell]using K,
   fun k aa ab ac=>(Below.heap_setCell G ⟨p,0,none⟩ _ k ab).trans (z.out.block k aa ac)⟩)
 clear K;go_wp2;go_ret;exact⟨_,rfl,.slice none 0 0,Y.out,⟨by simpa[World.setCell]using X.out,World.cell?_setCell_same _ _ _ U,(World.frozen?_setCell _ _ _ _).trans V,World.ownsRow_nil _ _ _ _⟩,Z.out,rfl⟩
theorem C2{v:Value}(m:Nat)(h:kR w p v R)(r:m≤R.length)(z:R.length≤100000):
 Calls prog 237 #[.pointer (some ⟨p,0,none⟩),.int .i64 0,.int .i64 m] w fun e w'=>∃o,e= .returned o∧gZ w p v.ownBlock m (R.take m) (R.drop m) o w':=by
 rcases h.own.2 with⟨rfl,A⟩|⟨g,c,cur,rfl,_⟩
 ·obtain rfl:R=[]:=List.eq_nil_of_length_eq_zero A
  obtain rfl:m=0:=by simpa using r
  exact C1 h
 refine(C0 m h r z).mono ?_;rintro e w' ⟨o,D,rfl,E,F,G,I⟩;exact⟨o,rfl,D,E,F,G,I⟩
theorem gZ.of{w':World}{r:Option Nat}{L:List Int}{o:Value}(h:gZ W p r m L R o w')(z:W.heap=w.heap)(A:W.os=w.os)(D:W.tape=w.tape)(E:W.output=w.output):gZ w p r m L R o w':=by
 obtain⟨F,a,b,k,e⟩:=h;exact⟨F,z▸a,b,⟨k.os.trans A,k.tape.trans D,k.output.trans E,z▸k.size,fun i G x y=>(k.block i (z▸G) x y).trans (by rw[z])⟩,e⟩
theorem C3{v:Value}(z:Int)(m:Nat)(D:max 0 (min z R.length)=(m:Int))(h:kR w p v R)(F:R.length≤100000):
 Calls prog 188 #[.pointer (some ⟨p,0,none⟩),.int .i64 z] w fun e w'=>∃o,e= .returned o∧gZ w p v.ownBlock m (R.take m) (R.drop m) o w':=by
 have G:m≤R.length:=by omega
 obtain⟨I,r⟩:=hg (fun(W:World) (J:kR W p v R)=>C2 m J G F) h;have Q:=h.cell;obtain⟨A,c,K,_⟩:=h.form;have O:=g' D;clear h D;generalize S:R.length=n at*;subst K;go_enter func188,ntmps188;go_wp2;go_region_with (go_at_call 237;rw[O.out];refine Calls.mono (I w.drew ⟨r.1,r.2,r.3,r.4⟩) ?_;rintro e w' ⟨o,rfl,hcut⟩)
 all_goals
  have E:=g' (hcut.of (w:=w) rfl rfl rfl rfl);obtain⟨B,d,rfl⟩:=rK (Exists.choose_spec E.out).1;go_wp2;go_ret;exact⟨_,rfl,E.out⟩
open Maps
theorem ux{H:Type}(w:World){A:Array Oper}{E:List Oper}{o:Oper}{a:Act}{Q:Exit→Act→World→Prop}
 (J:o.guard=none) (m x:Operand) (t:TypeId) (O:o.op=Op.lookup t m x false) (k e:TypeId) (K:Keyed P k) (R:P.underlying t=some (.map k e)) (F:P.underlying e=some .bool)
 (S:(zeroValue e).run P w= .ok (.bool false) w) (b n:Nat) (D:DataW H) (T:a.eval m= .map (some b)) (U:w.ownsMap P k (plainElem P e) b n D) (G:Value) (I:Lit) (V:a.eval x=G) (W:keyOf P k G=some I)
 (r:Bool) (X:D.atKey I (.lit (.bool false))= .lit (.bool r)) (Y:wpList P A Q E (a.put o.dst (.bool r)) w):wpList P A Q (o::E) a w:=by
 refine wpList_plain J fun ab Z=>?_;obtain⟨v,ac,aa,z⟩:=U.lookup K R S (zd:= .lit (.bool false)) (zp:=[]) (by simp[plainElem,F]) W;rw[X]at z;obtain rfl:v= .bool r:=by
  cases v<;>simp[plainElem,F]at z
  rw[z.1]
 unfold Oper.wp;simp[execOp,O,T,V,aa,Result.andThen];exact Z _ _ Y
theorem xN{y:Int}(h:0≤y∧y≤9223372036854775807):(Lit.int .i64 y).wf=true:=by
 simp[Lit.wf,IntKind.min,IntKind.max,IntKind.signed,IntKind.bits];omega
def mp(o:List Int):Nat→DataW Unit
 |0=> .map []
 |k+1=>(mp o k).put (.int .i64 (o.getD k 0)) (.lit (.bool true))
theorem uy(o:List Int)(x:Int):∀k,(∀j,j<k→o.getD j 0≠x)→(mp o k).atKey (.int .i64 x) (.lit (.bool false))= .lit (.bool false)
 |0,_=>rfl
 |k+1,h=>by
  rw[mp,atKey_put_other (fun e=>h k (by omega) (by injection e with _ e;exact e.symm))];exact uy o x k fun j r=>h j (by omega)
theorem rL:Keyed prog 3:=int_keyed j9
theorem uz(w:World):(zeroValue 4).run prog w= .ok (.bool false) w:=by kernel_rfl
theorem xO(x:Int):∀(o:List Int) (i:Nat),(∀z∈o,z≠x)→Lib.idxFrom o x i= -1
 |[],_,_=>rfl
 |z::o,i,h=>by
  have r:=h z (by simp);simp only[Lib.idxFrom];rw[if_neg (by simpa using r)];exact xO x o (i+1) fun y A=>h y (by simp[A])
theorem C4(A:Option Addr)(n c:Nat)(o:List Int)(w:World)(ab:o.length=n)(ac:Rd w w.heap.size A n (fun j=> .int .i64 (o.getD j 0)))(aJ:n≤256)
 (ad:∀j,j<n→0≤o.getD j 0∧o.getD j 0≤9223372036854775807) (ae:∀k,k<n→∀j,j<k→o.getD j 0≠o.getD k 0):
 Calls prog 187 #[.slice A n c] w fun e w'=>e= .returned (.tuple #[.pointer (some ⟨w.heap.size,0,none⟩),.int .i64 0])∧∃v,kR w' w.heap.size v o∧Below w.heap.size w w':=by
 have aK:= @run_makeMap prog;obtain⟨E,O⟩:=ho (w.alloc (.cells #[.slice none 0 0] 306));have V:Below w.heap.size w E:=by rw[←O];exact hz.alloc hj _
 have au:E.heap.size=w.heap.size+1:=by rw[←O];simp
 have av:E.cell? ⟨w.heap.size,0,none⟩=some (.slice none 0 0):=by rw[←O,World.cell?_alloc_at _ _ _ _ rfl];rfl
 have aw:E.frozen? ⟨w.heap.size,0,none⟩=false:=by rw[←O,World.frozen?_alloc_at _ _ _ _ rfl]
 obtain⟨W,af,ag,X⟩:=h5 ad ae ab ac;clear ad ae ab ac;go_enter func187,ntmps187;go_wp2;clear O;go_loop [17] (fun D=>∃k:Nat,D= .int .i64 k∧k≤n) (fun D=>n-(intOf D).toNat)
 case atStart=>exact⟨0,rfl,h6⟩
 case round=>
  obtain⟨k,rfl,T⟩:=hrel;by_cases r:k<n
  ·have J:=hZ r
   obtain⟨ah,rfl,_,F⟩:=(X.below V) k r;have G:=F;simp only at G;have K:=(W k r).1;clear F;generalize o.getD k 0=x at G K;have aL:decide (x<0)=false:=by simp;omega
   go_wp2;exact⟨⟨k+1,by go_num,by omega⟩,by simp[intOf];omega⟩
  have J:=h1 r;clear r T;go_wp2;go_loopw [27] (fun D wr=>∃k:Nat,D= .int .i64 k∧k≤n∧wr.ownsMap prog 3 (plainElem prog 4) (w.heap.size+1) k (mp o k)∧Below E.heap.size E wr) (fun D _=>n-(intOf D).toNat)
  case atStart=>exact⟨0,rfl,h6,by rw[←au];exact World.ownsMap_made _ _ _ _,hz.alloc hj _⟩
  case round=>
   clear J;obtain⟨k,rfl,T,Y,I⟩:=hrel;by_cases r:k<n
   ·have J:=hZ r
    have Q:Below w.heap.size w wr:=V.trans (I.mono (by omega));obtain⟨ah,rfl,_,F⟩:=(X.below Q) k r;have G:=F;simp only at G;have K:=W.out k r;obtain⟨ai,aj⟩:=hg (uy o (o.getD k 0) k (fun j R=>af k r j R)) (show mp o (k+1)=(mp o k).put (.int .i64 (o.getD k 0)) (.lit (.bool true))from rfl);have ak:(Lit.int .i64 (o.getD k 0)).wf=true:=xN K;have Z:=g' (keyOf_int_mk j9 ak);clear F ak K Q;generalize o.getD k 0=x at G ai aj Z;go_wp2_with (first
     |(at_lookup;refine ux _ rfl _ _ 307 rfl 3 4 rL rM kv (uz _) (w.heap.size+1) k _ rfl Y _ _ rfl Z.out false ai.out ?_)
     |(at_mapUpdate;refine wpList_mapUpdate_own _ rfl _ _ _ 307 rfl 3 4 rL rM _ (w.heap.size+1) k _ rfl Y (by unfold maxLen;omega) _ _ _ rfl rfl Z.out (.lit (.bool true)) [] (plainElem_bool kv true) ?_;intro aM ax ay))
    exact⟨⟨k+1,by go_num,by omega,by rw[aj.out];exact ax,I.grown ay I.size (fun j R=>by cases R;omega)⟩,by simp[intOf];omega⟩
   have J:=h1 r;have Q:Below w.heap.size w wr:=V.trans (I.mono (by omega));have al:wr.cell? ⟨w.heap.size,0,none⟩=some (.slice none 0 0):=(I.cell (p:=⟨w.heap.size,0,none⟩) (by show w.heap.size<E.heap.size;omega)).trans av;have am:wr.frozen? ⟨w.heap.size,0,none⟩=false:=(I.frozen (p:=⟨w.heap.size,0,none⟩) (by show w.heap.size<E.heap.size;omega)).trans aw;have az:=I.size;have an:kR wr w.heap.size (.slice none 0 0) (o.take 0):=⟨by omega,al,am,World.ownsRow_nil _ _ _ _⟩;clear r T Y al am;go_wp2;go_loopw [39] (fun D ao=>∃(k:Nat) (v:Value),D= .int .i64 k∧k≤n∧kR ao w.heap.size v (o.take k)∧Below w.heap.size w ao) (fun D _=>n-(intOf D).toNat)
   case atStart=>exact⟨0,_,rfl,h6,an,Q⟩
   case round=>
    clear an J Q I az;obtain⟨k,v,rfl,T,S,U⟩:=hrel;by_cases r:k<n
    ·have J:=hZ r
     obtain⟨ah,rfl,_,F⟩:=(X.below U) k r;have G:=F;simp only at G;have K:=(W k r).1;have aA:k<o.length:=by rw[ag.out];exact r
     have ap:Lib.idxOf (o.take k) (o.getD k 0)<0:=by
      unfold Lib.idxOf;rw[xO _ _ _ (fun z aB=>?_)]
      ·omega
      obtain⟨j,R,rfl⟩:=List.mem_iff_getElem.1 aB;have aC:j<k:=by simp at R;omega
      have:=af.out k r j aC;rw[List.getElem_take];rwa[iJ,iB (by omega)]at this
     obtain⟨aq,ar⟩:=hg (CX (o.getD k 0) S K ap (by simp;omega)) (show o.take (k+1)=o.take k++[o.getD k 0] by rw[List.take_add_one,iJ,List.getElem?_eq_getElem aA];rfl);have aD:=fun g (aa:v.ownBlock=some g)=>(S.own.lt g aa).1;clear F ap S K;generalize o.getD k 0=x at G aq ar;go_wp2_with fail;refine aq.mono ?_;rintro e aE ⟨rfl,aF,aG,aH⟩;have aI:Below w.heap.size w aE:=U.trans (aH.below U.size hj (fun g aa=>by have:=aD g aa;omega));go_wp2;exact⟨⟨k+1,aF,by go_num,by omega,by rw[ar.out];exact aG,aI⟩,by simp[intOf];omega⟩
    have J:=h1 r;obtain rfl:k=n:=by omega
    rw[List.take_of_length_le (by rw[ag.out];exact hj)]at S;go_wp2;go_ret2;exact⟨rfl,v,S,U⟩
theorem uA{v:Value}(h:kR w p v R)(V:R.length≤100000):
 Calls prog 189 #[.pointer (some ⟨p,0,none⟩)] w fun e w'=>∃o,e= .returned o∧w'.ownsRow w.heap.size 3 1 o R.length (R.map iw)∧Below w.heap.size w w':=by
 obtain⟨I,J,K,O,Q⟩:=info_parts pS;obtain⟨A,c,rfl,_,_,S⟩:=h.form;have W:=h.cell;have z:(List.range R.length).map (fun j=>Value.int .i64 (R[j]?.getD 0))=R.map iw:=by
  apply List.ext_getElem (by simp);intro j D X;simp at D;simp[iw,List.getElem?_eq_getElem D]
 have T:=g' z;clear z h;generalize Y:R.length=n at*;go_enter func189,ntmps189;go_wp2_with (at_builtin;refine pI _ rfl _ _ 40 rfl w.heap.size 3 I (.int .i64 0) 8 kB J K O Q rfl _ _ _ rfl (World.ownsRow_nil _ _ _ _) A n c _ rfl S (fun _=>rfl) ?_ ?_ hj ?_)
 ·unfold maxLen;omega
 ·omega
 intro o E r F;have G:=r;clear r;have r:E.ownsRow w.heap.size 3 1 o n (R.map iw):=by rw[←T.out];simpa using G
 have U:Below w.heap.size w E:=hz.grown F hj (fun _ h=>by cases h);clear G F;go_wp2;go_ret;exact⟨_,rfl,r,U⟩
theorem xP(o:List Int):∀k,IsMap (mp o k)
 |0=>⟨_,rfl⟩
 |k+1=>by rw[mp];exact(xP o k).put _ _
theorem xQ(o:List Int)(x:Int):∀k,(∃j,j<k∧o.getD j 0=x)→(mp o k).atKey (.int .i64 x) (.lit (.bool false))= .lit (.bool true)
 |0,h=>by obtain⟨j,A,_⟩:=h;omega
 |k+1,h=>by
  rw[mp];by_cases e:o.getD k 0=x
  ·rw[e];exact atKey_put_same (xP o k) (by trivial) _ _
  rw[atKey_put_other (fun r=>e (by injection r with _ r;exact r.symm))];obtain⟨j,A,z⟩:=h
  exact xQ o x k ⟨j,by by_cases D:j=k
                       ·subst D;exact absurd z e
                       omega,z⟩
theorem C5(A:Option Addr)(n c m:Nat)(o:List Int)(w:World)(ac:o.length=n)(T:Rd w w.heap.size A n (fun j=> .int .i64 (o.getD j 0)))(al:n≤1000)(am:m<n)(U:∀j,j<n→0≤o.getD j 0∧o.getD j 0≤9223372036854775807)
 (V:∀k,k<m→∀j,j<k→o.getD j 0≠o.getD k 0) (W:∃j,j<m∧o.getD j 0=o.getD m 0):
 Calls prog 187 #[.slice A n c] w fun e w'=>e= .returned (.tuple #[.pointer none,.int .i64 231])∧Below w.heap.size w w':=by
 have an:= @run_makeMap prog;obtain⟨I,J⟩:=ho (w.alloc (.cells #[.slice none 0 0] 306));have X:Below w.heap.size w I:=by rw[←J];exact hz.alloc hj _
 have ad:I.heap.size=w.heap.size+1:=by rw[←J];simp
 have Y:=g' T;clear ac T;obtain⟨Z,ae,af⟩:=hs U V W;clear U V W;go_enter func187,ntmps187;go_wp2;clear J;go_loop [17] (fun z=>∃k:Nat,z= .int .i64 k∧k≤n) (fun z=>n-(intOf z).toNat)
 case atStart=>exact⟨0,rfl,h6⟩
 case round=>
  obtain⟨k,rfl,aa⟩:=hrel;by_cases r:k<n
  ·have K:=hZ r
   obtain⟨ag,rfl,_,D⟩:=(Y.below X) k r;have E:=D;simp only at E;have ah:=(Z k r).1;clear D;generalize o.getD k 0=x at E ah;have ao:decide (x<0)=false:=by simp;omega
   go_wp2;exact⟨⟨k+1,by go_num,by omega⟩,by simp[intOf];omega⟩
  have K:=h1 r;clear r aa;go_wp2;go_loopw [27] (fun z wr=>∃k:Nat,z= .int .i64 k∧k≤m∧wr.ownsMap prog 3 (plainElem prog 4) (w.heap.size+1) k (mp o k)∧Below I.heap.size I wr) (fun z _=>n-(intOf z).toNat)
  case atStart=>exact⟨0,rfl,h6,by rw[←ad];exact World.ownsMap_made _ _ _ _,hz.alloc hj _⟩
  case round=>
   clear K;obtain⟨k,rfl,aa,O,Q⟩:=hrel;have r:k<n:=by omega
   have K:=hZ r;have R:Below w.heap.size w wr:=X.trans (Q.mono (by omega));obtain⟨ag,rfl,_,D⟩:=(Y.below R) k r;have E:=D;simp only at E;have F:=g' (keyOf_int_mk j9 (xN (Z k r)));by_cases ai:k=m
   ·subst ai
    have G:=g' (xQ o (o.getD k 0) k af);clear D;generalize o.getD k 0=x at E G F;go_wp2_with (at_lookup;refine ux _ rfl _ _ 307 rfl 3 4 rL rM kv (uz _) (w.heap.size+1) k _ rfl O _ _ rfl F.out true G.out ?_);go_ret2;exact⟨rfl,R⟩
   have G:=g' (uy o (o.getD k 0) k (fun j S=>ae k (by omega) j S));have ab:=g' (show mp o (k+1)=(mp o k).put (.int .i64 (o.getD k 0)) (.lit (.bool true))from rfl);clear D R;generalize o.getD k 0=x at E G ab F;go_wp2_with (first
    |(at_lookup;refine ux _ rfl _ _ 307 rfl 3 4 rL rM kv (uz _) (w.heap.size+1) k _ rfl O _ _ rfl F.out false G.out ?_)
    |(at_mapUpdate;refine wpList_mapUpdate_own _ rfl _ _ _ 307 rfl 3 4 rL rM _ (w.heap.size+1) k _ rfl O (by unfold maxLen;omega) _ _ _ rfl rfl F.out (.lit (.bool true)) [] (plainElem_bool kv true) ?_;intro ap aj ak))
   exact⟨⟨k+1,by go_num,by omega,by rw[ab.out];exact aj,Q.grown ak Q.size (fun j S=>by cases S;omega)⟩,by simp[intOf];omega⟩
end kQ
end Go.Proofs.YtffbipddbnkdjaaGreat
