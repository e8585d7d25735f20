/- What functions compute at any arguments, and plain facts: The walks of bullionref01, third part: Mul, Uint, Most, Told, Sum; The walks of bullionref01, fourth part: the contracts at values; Most, Uint, Told, Sum and others. Conditions: those that each theorem names. -/
import Derived.Test.YtffbipddbnkdjaaGreatZ02
import Derived.Deep.RegionWith
import Derived.Lib.ItoaNum
import Derived.Lib.SliceRun
import Derived.Shelf.Bits.Mul64
set_option maxRecDepth 100000
set_option maxHeartbeats 40000000
set_option linter.all false
open Go Go.Proofs.Tryz
open Go.Value(int)
open Go.IntKind(i64 u64)
variable{A T:Option Addr}{n g b L k B i x a m j q c p s r d h u N y:Nat}{E z:Int}{P:Program}{w W X Z:World}{e t:TypeId}{f:Nat→Value}{l:List Bool}{V U:Value}{Y:List Nat}{S:List Value}{R:List Int}{Q:Array Value}{O:List (List Nat)}{M:Bool}{K:Ending}{J:Addr}{I:Nat→Nat}{H:Option Nat}
namespace Go.Proofs.YtffbipddbnkdjaaGreat
namespace kd
open RowKit
open hG rk
theorem An(A K:Option Addr)(n c n' c':Nat)(ds es:List Nat)(w:World)(h:ke w w.heap.size A n ds)(af:ke w w.heap.size K n' es)(ag:nv ds)(ah:nv es)(a7:n≤1000000)(a8:n'≤1000000):
 Calls prog 214 #[.agg #[.slice A n c],.agg #[.slice K n' c']] w fun e w'=>∃v,e= .returned v∧kf w.heap.size w' v (dv ds*dv es)∧Below w.heap.size w w':=by
 obtain⟨aE,aF,aG,aH,aI⟩:=info_parts pS;obtain⟨o,G⟩:=ho (((w.alloc (.cells #[.slice A n c] 280)).alloc (.cells #[.slice K n' c'] 280)).alloc (.cells #[.slice none 0 0] 280));have W:Below w.heap.size w o:=by rw[←G];exact((hz.alloc hj _).alloc (by simp) _).alloc (by simp;omega) _
 have a9:w.heap.size+1+1<o.heap.size:=by rw[←G];simp
 have X:o.cell? ⟨w.heap.size,0,none⟩=some (.slice A n c):=by rw[←G,World.cell?_alloc_past _ _ _ (by simp;omega),World.cell?_alloc_past _ _ _ (by simp),World.cell?_alloc_at _ _ _ _ rfl];rfl
 have aJ:o.cell? ⟨w.heap.size+1,0,none⟩=some (.slice K n' c'):=by rw[←G,World.cell?_alloc_past _ _ _ (by simp),World.cell?_alloc_at _ _ _ _ (by simp)];rfl
 have aK:o.cell? ⟨w.heap.size+1+1,0,none⟩=some (.slice none 0 0):=by rw[←G,World.cell?_alloc_at _ _ _ _ (by simp)];rfl
 have aL:o.frozen? ⟨w.heap.size+1+1,0,none⟩=false:=by rw[←G];exact World.frozen?_alloc_at _ _ _ _ (by simp)
 have ai:=(h.below W).more (show w.heap.size≤o.heap.size by omega);have aj:=(af.below W).more (show w.heap.size≤o.heap.size by omega);clear h af;obtain⟨I,J⟩:=hg ai.1 aj.1;go_enter func214,ntmps214;go_wp2_with (at_make;clear G;refine wpList_make_full _ rfl _ _ 40 rfl o.heap.size 3 aE (int i64 0) 1 kB aF aG aH _ _ _ _ (n+n'+1) rfl rfl (by omega) (by omega) ?_ (by unfold maxLen;omega) hj ?_)
 ·rw[aI];omega
 intro ak z al;have Y:Below o.heap.size o ak:=hz.grown al hj (fun _ h=>by cases h);have Z:ak.ownsRow o.heap.size 3 1 (.slice (some ⟨o.heap.size,0,none⟩) (n+n'+1) (n+n'+1)) (n+n'+1) ((List.replicate (n+n'+1) 0).map o4):=by
  have e:(madeCells #[Value.int i64 0] (n+n'+1)).toList=(List.replicate (n+n'+1) 0).map o4:=by
   rw[List.map_replicate];exact toList_madeCells_one _ _
  rw[←e];exact z
 have aa:=g' (nQ.start ds es);clear z al;go_wp2;go_loopw [6] (fun ab wr=>∃(i:Nat) (d:List Nat),ab=int i64 i∧i≤n∧nQ ds es d i∧wr.ownsRow o.heap.size 3 1 (.slice (some ⟨o.heap.size,0,none⟩) (n+n'+1) (n+n'+1)) (n+n'+1) (d.map o4)∧Below o.heap.size o wr) (fun ab _=>n-(intOf ab).toNat)
 case atStart=>exact⟨0,_,rfl,h6,aa.out,by rw[I.out,J.out];exact Z,Y⟩
 case round=>
  obtain⟨i,S,rfl,a',F,z,r⟩:=hrel;by_cases T:i<n
  ·have aM:=hZ T
   have U:=jt r (by show w.heap.size<_;omega) X;have V:=g' F.row;clear F aa Y Z;go_wp2;obtain⟨am,rfl⟩:∃am:World,am=wr:=⟨_,rfl⟩;go_loopw [7,8] (fun aN ac wr=>∃(D k:Nat) (d:List Nat),ac=int i64 k∧aN=int i64 D∧oh ds es d D i k∧wr.ownsRow o.heap.size 3 1 (.slice (some ⟨o.heap.size,0,none⟩) (n+n'+1) (n+n'+1)) (n+n'+1) (d.map o4)∧Below o.heap.size o wr) (fun _ ac _=>n'+2-(intOf ac).toNat)
   case atStart=>exact⟨0,0,S,rfl,rfl,V.out,z,r⟩
   case round=>
    clear z r U;obtain⟨D,k,d,rfl,rfl,E,z,r⟩:=hrel;have U:=jt r (by show w.heap.size<_;omega) X;have aO:=jt r (by show w.heap.size+1<_;omega) aJ;have an:=ai.below r;have ao:=aj.below r;obtain⟨O,aP,_,ba⟩:=an.2 i T;subst aP;have bb:=E.2.2.1;have aQ:=E.2.2.2.2;rw[J.out]at aQ;have bc:=ag.1.dg i;have bd:=ah.1.dg k;have aR:=qv (a:=dg ds i) (b:=dg es k) (by omega) (by omega);have Q:((dg ds i*dg es k:Nat):Int)=(dg ds i:Int)*(dg es k:Int):=by simp
    have be:0≤(dg ds i:Int)*(dg es k:Int):=by rw[←Q];omega
    have bf:(dg ds i:Int)*(dg es k:Int)≤81:=by rw[←Q];omega
    clear an;by_cases ap:k<n'∨0<D
    ·have aq:=E.place (by rw[I.out];exact T)
     have R:d.length=n+n'+1:=by rw[E.2.1,I.out,J.out]
     have bg:i+k<n+n'+1:=by omega
     have bh:=E.1.dg (i+k);have ar:wr.cell? ⟨o.heap.size,i+k,none⟩=some (int i64 (dg d (i+k))):=by rw[z.cellAt (i+k) (by omega)];exact tP aq
     have aS:=g' (E.step ag.1 ah.1 (by rw[I.out];exact T) (by rw[J.out];exact ap));have au:((((dg d (i+k)+dg ds i*dg es k+D)%10:Nat):Nat):Int)=((dg d (i+k):Int)+(dg ds i:Int)*(dg es k:Int)+D)%10:=by rw[←Q];omega
     have av:((((dg d (i+k)+dg ds i*dg es k+D)/10:Nat):Nat):Int)=((dg d (i+k):Int)+(dg ds i:Int)*(dg es k:Int)+D)/10:=by rw[←Q];omega
     obtain⟨aT,aU⟩:=hg au av;clear au av E aq R;have bi:i64.wrap ((dg ds i:Int)*(dg es k:Int))=(dg ds i:Int)*(dg es k:Int):=IntWalk.i64_in _ (by omega);have bj:i64.wrap ((dg d (i+k):Int)+(dg ds i:Int)*(dg es k:Int))=(dg d (i+k):Int)+(dg ds i:Int)*(dg es k:Int):=IntWalk.i64_in _ (by omega);have bk:i64.wrap ((dg d (i+k):Int)+(dg ds i:Int)*(dg es k:Int)+D)=(dg d (i+k):Int)+(dg ds i:Int)*(dg es k:Int)+D:=IntWalk.i64_in _ (by omega);have bl:i64.wrap ((i:Int)+(k:Int))=(i:Int)+(k:Int):=IntWalk.i64_in _ (by omega);have bm:((i:Int)+(k:Int)).toNat=i+k:=by omega
     have bn:(0:Int)≤(i:Int)+(k:Int):=by omega
     have bo:(i:Int)+(k:Int)<(n:Int)+(n':Int)+1:=by omega
     clear Q aR;by_cases aw:k<n';focus
      have ax:=hZ aw
     rotate_left;focus
      have ax:=h1 aw;have bp:decide (0<D)=true:=by simp;omega
     all_goals
      clear ap;go_wp2;go_quiet ((go_at_call 252;(with_reducible exact sb (lE K n' c' es _ _ _ (ao.drewN _)))))
      have ay:=below_drewN r nq;have ad:=tJ z nq;have aV:=ad.frozenAt (i+k);have aW:(wr.drewN nq).cell? ⟨o.heap.size,i+k,none⟩=some (int i64 (dg d (i+k))):=ar;clear z r U aO ao ar;generalize wr.drewN nq=bq at ay ad aV aW⊢;go_wp2;exact⟨⟨_,k+1,_,by go_num,by rw[aU.out],aS.out,by rw[List.map_set,o4,aT.out];exact(ad.stored _ _).1,ay.setCell hj _⟩,by simp[intOf];omega⟩
    obtain rfl:D=0:=by omega
    have ax:decide (k<n')=false:=by simp;omega
    have F:=g' (E.done (by rw[J.out];omega));clear E;go_wp2;exact⟨⟨i+1,d,by go_num,by omega,F.out,z,r⟩,by simp[intOf];omega⟩
  obtain rfl:i=n:=by omega
  have aM:decide (i<i)=false:=by simp
  ·have aX:=g' (nQ.done (by rw[I.out];exact F))
   have U:=jt r (by show w.heap.size<_;omega) X;have R:S.length=i+n'+1:=by rw[F.2.1,I.out,J.out]
   have aY:=F.1;obtain⟨aZ,br,az,bt,_,aA,aB⟩:=Rd.own z (fun j a0=>tP (by rw[R];exact a0));have V:ke wr wr.heap.size aZ (i+n'+1) S:=⟨R,aB⟩;simp only[Value.slice.injEq,true_and]at az;obtain⟨rfl,rfl⟩:=az;have a1:=jt r (by show w.heap.size+1+1<_;omega) aK;have a2:=(r.frozen (p:=⟨w.heap.size+1+1,0,none⟩) (by show w.heap.size+1+1<_;omega)).trans aL;clear z F aa Y Z R aB;go_wp2_with fail;refine(tO _ _ _ S _ V aY hj (by omega)).mono ?_;rintro e bu ⟨m,rfl,a3,a4,aC,aD⟩;have ae:=aD.mono r.size;have a5:=jt ae (by show w.heap.size+1+1<_;omega) a1;have bv:=(ae.frozen (p:=⟨w.heap.size+1+1,0,none⟩) (by show w.heap.size+1+1<_;omega)).trans a2;have a6:=g' (aC.trans aX.out);clear aC;go_wp2;refine bodyPost_ret (v:= .agg #[.slice (some ⟨o.heap.size,0,none⟩) m (i+n'+1)]) (by simp[results,results214,go_sem,World.cell?_setCell_same _ _ _ a5]) rfl ?_;refine⟨_,rfl,⟨_,m,_,_,rfl,by omega,?_,a4,a6.out,fun O h=>by have:=aA O h;omega⟩,?_⟩
   ·rw[World.size_setCell]
    exact((Ah V a3).to aD).set (fun O h=>by have:=aA O h;show O.block≠w.heap.size+1+1;omega) _
   exact(W.trans ((r.trans ae).mono (by omega))).setCell (by show w.heap.size≤w.heap.size+1+1;omega) _
def Sm(N:Nat):Prop:=N<10^40
theorem Sm.of(h:N≤340282366920938463463374607431768211456):Sm N:=by unfold Sm;omega
theorem Sm.len{ds:List Nat}(h:Sm (dv ds))(o:nv ds):ds.length≤1000000:=Nat.le_trans (o.len h) (by omega)
theorem kf.to{w':World}{v:Value}(h:kf g w v N)(o:Below w.heap.size w w'):kf g w' v N:=by
 obtain⟨A,n,c,ds,r,z,D,E,F,G⟩:=h;exact⟨A,n,c,ds,r,z,D.to o,E,F,G⟩
theorem kf.form{v:Value}(h:kf g w v N):∃A n c,v= .agg #[.slice A n c]:=by
 obtain⟨A,n,c,_,o,_⟩:=h;exact⟨A,n,c,o⟩
theorem Ao(a b:Value)(N M:Nat)(w:World)(E:kf g w a N)(F:kf L w b M)(G:Sm N)(I:Sm M):
 Calls prog 216 #[a,b] w fun e w'=>e= .returned (.int .i64 (oi N M))∧Below w.heap.size w w':=by
 obtain⟨A,n,c,ds,rfl,_,o,r,rfl,_⟩:=E;obtain⟨J,n',c',es,rfl,_,z,D,rfl,_⟩:=F;exact Am A J n c n' c' ds es w o z r.1 D.1 (by rw[←o.1];exact G.len r) (by rw[←z.1];exact I.len D)
theorem oj(a b:Value)(N M:Nat)(w:World)(E:kf g w a N)(F:kf L w b M)(G:Sm N)(I:Sm M):
 Calls prog 214 #[a,b] w fun e w'=>∃v,e= .returned v∧kf w.heap.size w' v (N*M)∧Below w.heap.size w w':=by
 obtain⟨A,n,c,ds,rfl,_,o,r,rfl,_⟩:=E;obtain⟨J,n',c',es,rfl,_,z,D,rfl,_⟩:=F;exact An A J n c n' c' ds es w o z r D (by rw[←o.1];exact G.len r) (by rw[←z.1];exact I.len D)
end kd
namespace h0
open RowKit
open hG kd
def sm(us:List Nat):Nat→Nat
 |0=>0
 |k+1=>sm us k+un us k
theorem tQ(us:List Nat)(h:k≤m):sm us k≤sm us m:=by
 induction m with
 |zero=>obtain rfl:k=0:=by omega
        exact hj
 |succ m o=>
  by_cases e:k=m+1
  ·rw[e];exact hj
  have:=o (by omega);simp only[sm];omega
theorem qw(A:Option Addr)(n c L:Nat)(us:List Nat)(w:World)(h:jk w L A n us)(R:n≤1000000)(D:sm us n<18446744073709551616):
 Calls prog 50 #[.slice A n c] w fun e w'=>e= .returned (.tuple #[.int .u64 (sm us n),.int .i64 0])∧w=w':=by
 obtain⟨G,I⟩:=hg h D;clear h D;go_enter func50,ntmps50;go_wp2;go_loop [4,11] (fun s r=>∃k:Nat,r= .int .i64 k∧k≤n∧s= .int .u64 (sm us k:Nat)) (fun _ r=>n-(intOf r).toNat)
 case atStart=>exact⟨0,rfl,h6,rfl⟩
 case round=>
  obtain⟨k,rfl,S,rfl⟩:=hrel;by_cases z:k<n
  ·have J:=hZ z
   obtain⟨T,rfl,_,E⟩:=G.2.2 k z;have K:=E;simp only at K;have F:=Nat.lt_of_le_of_lt (tQ us (show k+1≤n by omega)) I;obtain⟨t,o⟩:=hk (sm us (k+1));obtain⟨O,Q⟩:=hg o (mj (sm us k) (un us k) t (by rw[o];rfl) (by rw[o];exact F) w);clear E F o;generalize sm us k=s at*;generalize un us k=x at*;go_wp2_with fail;refine Q.mono ?_;rintro e w' ⟨rfl,rfl⟩;go_wp2;exact⟨⟨k+1,by go_num,by omega,by rw[O.out]⟩,by simp[intOf];omega⟩
  have J:=h1 z;obtain rfl:k=n:=by omega
  go_wp2;go_ret2;exact⟨rfl,rfl⟩
theorem v8(A:Option Addr)(n c L:Nat)(us:List Nat)(w:World)(h:jk w L A n us)(U:n≤1000000)(J:18446744073709551616≤sm us n):
 Calls prog 50 #[.slice A n c] w fun e w'=>e= .returned (.tuple #[.int .u64 0,.int .i64 10])∧w=w':=by
 obtain⟨K,R⟩:=hg h J;clear h J;go_enter func50,ntmps50;go_wp2;go_loop [4,11] (fun s z=>∃k:Nat,z= .int .i64 k∧k≤n∧s= .int .u64 (sm us k:Nat)∧sm us k<18446744073709551616) (fun _ z=>n-(intOf z).toNat)
 case atStart=>exact⟨0,rfl,h6,rfl,by simp[sm]⟩
 case round=>
  obtain⟨k,rfl,V,rfl,D⟩:=hrel;by_cases O:k<n
  ·have W:=hZ O
   obtain⟨X,rfl,_,E⟩:=K.2.2 k O;have S:=E;simp only at S;have F:=K.2.1.un k;obtain⟨t,o⟩:=hk (sm us (k+1));have G:t=sm us k+un us k:=o;have Q:=g' o;by_cases r:t<18446744073709551616
   ·have I:=g' (mj (sm us k) (un us k) t G r w)
    have T:=g' r;clear E r o G D F;generalize sm us k=s at*;generalize un us k=x at*;go_wp2_with fail;refine I.mono ?_;rintro e w' ⟨rfl,rfl⟩;go_wp2;exact⟨⟨k+1,by go_num,by omega,by rw[Q.out],by rw[←Q.out];exact T⟩,by simp[intOf];omega⟩
   have I:=g' (pQ (sm us k) (un us k) D F (by omega) w);clear E r o G D F;generalize sm us k=s at*;generalize un us k=x at*;go_wp2_with fail;refine I.mono ?_;rintro e w' ⟨rfl,rfl⟩;go_wp2;go_ret2;exact⟨rfl,rfl⟩
  exfalso;obtain rfl:k=n:=by omega
  have:=R.out;omega
theorem Aq(A:Option Addr)(n c L:Nat)(us:List Nat)(w:World)(h:jk w L A n us)(D:n≤1000000)(r:Nat×Int)(o:r=if sm us n<18446744073709551616 then(sm us n,0)else(0,10)):
 Calls prog 225 #[.slice A n c] w fun e w'=>e= .returned (.tuple #[.int .u64 r.1,.int .i64 r.2])∧w=w':=by
 have H:Calls prog 50 #[.slice A n c] w fun e w'=>e= .returned (.tuple #[.int .u64 r.1,.int .i64 r.2])∧w=w':=by
  by_cases z:sm us n<18446744073709551616
  ·rw[if_pos z]at o;subst o;exact qw A n c L us w h D z
  rw[if_neg z]at o;subst o;exact v8 A n c L us w h D (by omega)
 clear o h;obtain⟨a,b⟩:=r;simp only at H⊢;have E:=g' H;clear H;go_enter func225,ntmps225;go_wp2_with fail;refine E.mono ?_;rintro e w' ⟨rfl,rfl⟩;go_wp2;go_ret2;exact⟨rfl,rfl⟩
end h0
namespace hU
open RowKit
open hG kd h0
structure h' where
 ac:Int
 me:Int
 am:Nat
 nw:Bool
structure Du where
 ac:Int
 ti:Int
 am:Nat
def h'.enc(d:h'):List Value:=[int i64 d.ac,int i64 d.me,int u64 d.am,.bool d.nw]
def Du.enc(d:Du):List Value:=[int i64 d.ac,int i64 d.ti,int u64 d.am]
theorem h'.len(d:h'):d.enc.length=4:=rfl
theorem Du.len(d:Du):d.enc.length=3:=rfl
theorem h'.one(ds:List h'):∀u∈flat h'.enc ds,u.oneCell'=true:=fun u r=>by
 obtain⟨d,_,o⟩:=List.mem_flatMap.1 r;simp[h'.enc]at o;rcases o with rfl|rfl|rfl|rfl<;>rfl
theorem Du.one(ds:List Du):∀u∈flat Du.enc ds,u.oneCell'=true:=fun u r=>by
 obtain⟨d,_,o⟩:=List.mem_flatMap.1 r;simp[Du.enc]at o;rcases o with rfl|rfl|rfl<;>rfl
theorem nu:(prog.info? 22).map (fun i=>(i.zero,i.size,i.bytes))=some (some (int u64 0),1,8):=by kernel_rfl
def wv(n:Nat):Value:=int u64 n
theorem rq{us:List Nat}(h:j<us.length):(us.map wv)[j]?=some (int u64 (un us j:Nat)):=by
 rw[List.getElem?_map,un,iJ,List.getElem?_eq_getElem h];rfl
theorem pT{v:Value}{us:List Nat}(r:us.length=n)(z:Wd us)(h:w.ownsRow g e 1 v n (us.map wv)):∃A c,v= .slice A n c∧(∀o,A=some o→g≤o.block)∧jk w w.heap.size A n us:=by
 obtain⟨A,c,D,_,_,E,F⟩:=Rd.own h (fun j G=>rq (by omega));exact⟨A,c,D,E,r,z,F⟩
theorem kl{w':World}{v:Value}{xs:List Value}(h:w.ownsRow b e s v n xs)(o:Below w.heap.size w w'):w'.ownsRow b e s v n xs:=
 h.kept (row:=none) ⟨o.os,o.tape,o.output,o.size,fun i r _=>o.block i r⟩ (by cases v.ownBlock<;>simp)
theorem mL{v:Value}{xs:List Value}(h:w.ownsRow L e s v n xs)(o:b≤L):w.ownsRow b e s v n xs:=by
 refine⟨h.1,?_⟩;rcases h.2 with r|⟨g,cap,cur,hv,z,rest⟩
 ·exact .inl r
 exact .inr ⟨g,cap,cur,hv,Nat.le_trans o z,rest⟩
theorem kp(w:World)(xs:List Value)(e:TypeId)(n:Nat)(o:n=w.heap.size):∀j u,xs[j]?=some u→(w.alloc (.cells xs.toArray e)).cell? ((⟨n,0,none⟩:Addr).add j)=some u:=fun j u r=>by
 rw[k1,World.cell?_alloc_at _ _ _ _ o];simpa using r
theorem Ar(d:h')(w:World):Calls prog 257 #[.agg #[int i64 d.ac,int i64 d.me,int u64 d.am,.bool d.nw]] w fun e w'=>e= .returned (int u64 d.am)∧Below w.heap.size w w':=by
 go_enter func257,ntmps257;go_wp2;go_ret;exact⟨rfl,hz.alloc hj _⟩
theorem As(d:Du)(w:World):Calls prog 259 #[.agg #[int i64 d.ac,int i64 d.ti,int u64 d.am]] w fun e w'=>e= .returned (int u64 d.am)∧Below w.heap.size w w':=by
 go_enter func259,ntmps259;go_wp2;go_ret;exact⟨rfl,hz.alloc hj _⟩
theorem Au(A:Option Addr)(n c:Nat)(ds:List h')(w:World)(h:hV w w.heap.size A n 4 (flat h'.enc ds))(ap:n≤1000000):
 Calls prog 256 #[.slice A n c,.func (.func 257) #[] #[]] w fun e w'=>∃v,e= .returned v∧w'.ownsRow w.heap.size 22 1 v n ((ds.map h'.am).map wv)∧Below w.heap.size w w':=by
 obtain⟨U,V,X,Y,Z⟩:=info_parts nu;obtain⟨I,aa⟩:=hg (h.len h'.len (by omega)) (fun(W:World) (ab:Below w.heap.size w W)=>h.below ab);go_enter func256,ntmps256;go_wp2;go_loopw [5,10] (fun ad E wr=>∃k:Nat,E=int i64 k∧k≤n∧wr.ownsRow w.heap.size 22 1 ad k (((ds.take k).map h'.am).map wv)∧Below w.heap.size w wr) (fun _ E _=>n-(intOf E).toNat)
 case atStart=>exact⟨0,rfl,h6,World.ownsRow_nil _ _ _ _,hz⟩
 case round=>
  obtain⟨k,rfl,aq,F,r⟩:=hrel;by_cases z:k<n
  ·have ae:=hZ z
   obtain⟨d,J⟩:∃d,ds[k]?=some d:=⟨_,iB (by rw[I.out];exact z)⟩;obtain⟨o,rfl,_,D⟩:=(aa wr r).cell h'.len z J (by omega);have ar:wr.cell? (o.add (k*4))=some (int i64 d.ac):=by have:=D 0 _ rfl;rwa[hG.add_zero]at this
   have au:wr.cell? ⟨(o.add (k*4)).block,(o.add (k*4)).off+1,none⟩=some (int i64 d.me):=D 1 _ rfl;have av:wr.cell? ⟨(o.add (k*4)).block,(o.add (k*4)).off+2,none⟩=some (int u64 d.am):=D 2 _ rfl;have aw:wr.cell? ⟨(o.add (k*4)).block,(o.add (k*4)).off+3,none⟩=some (.bool d.nw):=D 3 _ rfl;have af:=g' (show ds.take (k+1)=ds.take k++[d] by rw[List.take_add_one,J];rfl);have ag:=r.size;have K:=r.alloc ag (.cells #[int i64 d.ac,int i64 d.me,int u64 d.am,.bool d.nw] 102);have ah:=F.alloc (.cells #[int i64 d.ac,int i64 d.me,int u64 d.am,.bool d.nw] 102);go_wp2_with fail;refine hI (Ar d _) fun ai O=>?_;have Q:=kl ah O;have R:=K.trans (O.mono K.size);have ax:=R.size;go_wp2_with (at_builtin;refine wpList_append_own _ rfl _ _ 25 rfl w.heap.size 22 U (int u64 0) 1 8 kO V X Y Z rfl (by decide) _ _ _ rfl (Q.alloc _) ⟨ai.heap.size,0,none⟩ 1 1 [int u64 d.am] rfl rfl (cell_one_new _ _ _) ?_ ?_ ?_ ?_ ?_)
   ·intro u S;simp at S;subst S;rfl
   ·unfold maxLen;omega
   ·omega
   ·simp;omega
   intro aj ak al an _;have ao:=nt R Q an;have G:=g' (show ak.ownsRow w.heap.size 22 1 aj (k+1) (((ds.take (k+1)).map h'.am).map wv) by rw[af.out,List.map_append,List.map_append];have T:=al;simp at T⊢;exact T);go_wp2;exact⟨⟨k+1,by go_num,by omega,G,ao⟩,by simp[intOf];omega⟩
  have ae:=h1 z;obtain rfl:k=n:=by omega
  rw[List.take_of_length_le (by rw[I.out];exact hj)]at F;have G:=g' F;go_wp2;go_ret;exact⟨_,rfl,G,r⟩
theorem Av(A:Option Addr)(n c:Nat)(ds:List Du)(w:World)(h:hV w w.heap.size A n 3 (flat Du.enc ds))(ap:n≤1000000):
 Calls prog 258 #[.slice A n c,.func (.func 259) #[] #[]] w fun e w'=>∃v,e= .returned v∧w'.ownsRow w.heap.size 22 1 v n ((ds.map Du.am).map wv)∧Below w.heap.size w w':=by
 obtain⟨U,V,X,Y,Z⟩:=info_parts nu;obtain⟨I,aa⟩:=hg (h.len Du.len (by omega)) (fun(W:World) (ab:Below w.heap.size w W)=>h.below ab);go_enter func258,ntmps258;go_wp2;go_loopw [5,10] (fun ad D wr=>∃k:Nat,D=int i64 k∧k≤n∧wr.ownsRow w.heap.size 22 1 ad k (((ds.take k).map Du.am).map wv)∧Below w.heap.size w wr) (fun _ D _=>n-(intOf D).toNat)
 case atStart=>exact⟨0,rfl,h6,World.ownsRow_nil _ _ _ _,hz⟩
 case round=>
  obtain⟨k,rfl,aq,E,r⟩:=hrel;by_cases z:k<n
  ·have ae:=hZ z
   obtain⟨d,J⟩:∃d,ds[k]?=some d:=⟨_,iB (by rw[I.out];exact z)⟩;obtain⟨o,rfl,_,F⟩:=(aa wr r).cell Du.len z J (by omega);have ar:wr.cell? (o.add (k*3))=some (int i64 d.ac):=by have:=F 0 _ rfl;rwa[hG.add_zero]at this
   have au:wr.cell? ⟨(o.add (k*3)).block,(o.add (k*3)).off+1,none⟩=some (int i64 d.ti):=F 1 _ rfl;have av:wr.cell? ⟨(o.add (k*3)).block,(o.add (k*3)).off+2,none⟩=some (int u64 d.am):=F 2 _ rfl;have af:=g' (show ds.take (k+1)=ds.take k++[d] by rw[List.take_add_one,J];rfl);have ag:=r.size;have K:=r.alloc ag (.cells #[int i64 d.ac,int i64 d.ti,int u64 d.am] 57);have ah:=E.alloc (.cells #[int i64 d.ac,int i64 d.ti,int u64 d.am] 57);go_wp2_with fail;refine hI (As d _) fun ai O=>?_;have Q:=kl ah O;have R:=K.trans (O.mono K.size);have aw:=R.size;go_wp2_with (at_builtin;refine wpList_append_own _ rfl _ _ 25 rfl w.heap.size 22 U (int u64 0) 1 8 kO V X Y Z rfl (by decide) _ _ _ rfl (Q.alloc _) ⟨ai.heap.size,0,none⟩ 1 1 [int u64 d.am] rfl rfl (cell_one_new _ _ _) ?_ ?_ ?_ ?_ ?_)
   ·intro u S;simp at S;subst S;rfl
   ·unfold maxLen;omega
   ·omega
   ·simp;omega
   intro aj ak al an _;have ao:=nt R Q an;have G:=g' (show ak.ownsRow w.heap.size 22 1 aj (k+1) (((ds.take (k+1)).map Du.am).map wv) by rw[af.out,List.map_append,List.map_append];have T:=al;simp at T⊢;exact T);go_wp2;exact⟨⟨k+1,by go_num,by omega,G,ao⟩,by simp[intOf];omega⟩
  have ae:=h1 z;obtain rfl:k=n:=by omega
  rw[List.take_of_length_le (by rw[I.out];exact hj)]at E;have G:=g' E;go_wp2;go_ret;exact⟨_,rfl,G,r⟩
def lS(us:List Nat)(r:Nat×Int):Prop:=r=if sm us us.length<18446744073709551616 then(sm us us.length,0)else(0,10)
theorem qx(A:Option Addr)(n c L:Nat)(us:List Nat)(w:World)(h:jk w L A n us)(D:n≤1000000)(r:Nat×Int)(o:lS us r):
 Calls prog 50 #[.slice A n c] w fun e w'=>e= .returned (.tuple #[int u64 r.1,int i64 r.2])∧w=w':=by
 unfold lS at o;rw[h.1]at o;by_cases z:sm us n<18446744073709551616
 ·rw[if_pos z]at o;subst o;exact qw A n c L us w h D z
 rw[if_neg z]at o;subst o;exact v8 A n c L us w h D (by omega)
def kh(ds:List h')(es:List Du):List Nat:=ds.map h'.am++es.map Du.am
theorem v'(A B:Option Addr)(n c m d:Nat)(ds:List h')(es:List Du)(w:World)(h:hV w w.heap.size A n 4 (flat h'.enc ds))(D:hV w w.heap.size B m 3 (flat Du.enc es))(aD:n≤400000)(aE:m≤400000)
 (E:Wd (kh ds es)) (r:Nat×Int) (K:lS (kh ds es) r):
 Calls prog 226 #[.slice A n c,.slice B m d] w fun e w'=>e= .returned (.tuple #[int u64 r.1,int i64 r.2])∧Below w.heap.size w w':=by
 obtain⟨ae,af,ag,ah,ai⟩:=info_parts nu;obtain⟨O,Q⟩:=hg (Au A n c ds w h (by omega)) (fun(W:World) (F:Below w.heap.size w W)=>Av B m d es W (D.to F) (by omega));have R:=h.len h'.len (by omega);have G:=D.len Du.len (by omega);obtain⟨aj,I,ak,al,an⟩:=jg (show(kh ds es).length=n+m by simp[kh,R,G]) (show(es.map Du.am).length=m by simp[G]) E (show Wd (es.map Du.am)from fun b F=>E b (List.mem_append.2 (.inr F))) K;obtain⟨aF,aG⟩:=r;clear h D R G E K;go_enter func226,ntmps226;go_wp2_with fail;refine O.mono ?_;rintro e ao ⟨aH,rfl,S,o⟩;have ap:=o.size;clear O;go_wp2_with fail;refine(Q ao o).mono ?_;rintro e aI ⟨aJ,rfl,T,z⟩;have aK:=z.size;have J:=kl S z;have U:=o.trans (z.mono ap);obtain⟨aq,ar,rfl,_,V⟩:=pT I al T;have X:(List.range m).map (fun j=>Value.int u64 (un (es.map Du.am) j:Nat))=(es.map Du.am).map wv:=by
  apply List.ext_getElem (by have:=I.out;simp at this⊢;omega);intro j au av;have aw:j<(es.map Du.am).length:=by have:=I.out;simp at au⊢;simp at this;omega
  have:=rq aw;rw[List.getElem?_eq_getElem av]at this;have:=Option.some.inj this;rw[this];simp
 have ax:=g' X;clear Q S T o z X;go_wp2_with (at_builtin;refine pI _ rfl _ _ 25 rfl w.heap.size 22 ae (int u64 0) 8 kO af ag ah ai rfl _ _ _ rfl J aq m ar _ rfl V.2.2 (fun _=>rfl) ?_ ?_ (by omega) ?_)
 ·unfold maxLen;omega
 ·omega
 intro ay Y Z aa;have az:=U.grown aa (by omega) (fun j aA=>(J.lt j aA).1);have ab:Y.ownsRow w.heap.size 22 1 ay (n+m) ((kh ds es).map wv):=by
  have e:(kh ds es).map wv=(ds.map h'.am).map wv++(es.map Du.am).map wv:=by simp[kh]
  rw[e,←ax.out];simpa using Z
 obtain⟨aB,aC,rfl,_,ac⟩:=pT aj ak ab;have ad:=g' (qx aB (n+m) aC _ (kh ds es) Y ac (by omega) _ an);clear Z aa ab ac U J V;generalize n+m=nm at*;simp only at ad;go_wp2_with fail;refine ad.mono ?_;rintro e w' ⟨rfl,rfl⟩;go_wp2;go_ret2;exact⟨rfl,az⟩
end hU
namespace hB
open RowKit
open hG hf hU
theorem pU(n a c:Int)(b:Bool)(r:b=decide (a≤n∧n≤c))(w:World):Calls prog 71 #[.int .i64 n,.int .i64 a,.int .i64 c] w fun e w'=>e= .returned (.bool b)∧w=w':=by
 by_cases o:a≤n
 ·have z:=hZ o
  have A:decide (n≤c)=b:=by rw[r];simp[o]
  clear r o;go_enter func71,ntmps71;go_wp2;go_ret;exact⟨rfl,rfl⟩
 have z:=h1 o;obtain rfl:b=false:=by rw[r];simp[o]
 clear r o;go_enter func71,ntmps71;go_wp2;go_ret;exact⟨rfl,rfl⟩
theorem nR(n a c:Int)(b:Bool)(r:b=decide (a≤n∧n≤c))(w:World):Calls prog 147 #[.int .i64 n,.int .i64 a,.int .i64 c] w fun e w'=>e= .returned (.bool b)∧w=w':=by
 by_cases o:a≤n
 ·have z:=hZ o
  have A:decide (n≤c)=b:=by rw[r];simp[o]
  clear r o;go_enter func147,ntmps147;go_wp2;go_ret;exact⟨rfl,rfl⟩
 have z:=h1 o;obtain rfl:b=false:=by rw[r];simp[o]
 clear r o;go_enter func147,ntmps147;go_wp2;go_ret;exact⟨rfl,rfl⟩
theorem om(n a c:Nat)(b:Bool)(r:b=decide (a≤n∧n≤c))(w:World):Calls prog 146 #[.int .u64 n,.int .u64 a,.int .u64 c] w fun e w'=>e= .returned (.bool b)∧w=w':=by
 by_cases o:a≤n
 ·have z:=hZ o
  have A:decide (n≤c)=b:=by rw[r];simp[o]
  clear r o;go_enter func146,ntmps146;go_wp2;go_ret;exact⟨rfl,rfl⟩
 have z:=h1 o;obtain rfl:b=false:=by rw[r];simp[o]
 clear r o;go_enter func146,ntmps146;go_wp2;go_ret;exact⟨rfl,rfl⟩
def jI(L m:Nat)(v:Value)(w:World):Prop:=∃(k:Nat) (bs:List Nat),w.ownsRow L 5 1 v k (bs.map fun b=>Value.int .u8 (b:Nat))∧bs.length=k∧k≤m∧∀b∈bs,b<256
theorem jI.nil(L:Nat)(w:World):jI L 0 (.slice none 0 0) w:=⟨0,[],World.ownsRow_nil _ _ _ _,rfl,hj,fun _ h=>by cases h⟩
theorem jI.more{m':Nat}{v:Value}(h:jI L m v w)(A:m≤m'):jI L m' v w:=by
 obtain⟨k,bs,o,r,D,z⟩:=h;exact⟨k,bs,o,r,by omega,z⟩
theorem jI.low{v:Value}(h:jI L m v w)(o:n≤L):jI n m v w:=by
 obtain⟨k,bs,r,z,A,D⟩:=h;exact⟨k,bs,mL r o,z,A,D⟩
theorem jI.to{v:Value}{w':World}(h:jI L m v w)(o:Below w.heap.size w w'):jI L m v w':=by
 obtain⟨k,bs,r,z,A,D⟩:=h;exact⟨k,bs,kl r o,z,A,D⟩
theorem jI.row{v:Value}(h:jI L m v w):∃A n c bs,v= .slice A n c∧n≤m∧hq.ie w w.heap.size A n bs:=by
 obtain⟨k,bs,o,r,z,D⟩:=h;obtain⟨A,c,rfl,_,_,_,E⟩:=Rd.own (f:=fun j=> .int .u8 (jQ.iA bs j)) o fun j F=>by
  rw[List.getElem?_map,iB (by omega)];simp[jQ.iA,iJ,iB (show j<bs.length by omega)]
 exact⟨A,k,c,bs,rfl,z,r,D,E⟩
theorem wa{E:Array Oper}{F:List Oper}{o:Oper}{a:Act}{Q:Exit→Act→World→Prop}(J:o.guard=none)(s x:Operand)
 (K:o.op= .call {callee:= .builtin .append,args:= #[s,x],argTypes:= #[36,36]})
  (v:Value) (O:a.eval s=v) (R:a.eval x= .slice A n c) (S:jI L m v w) (z:hq.ie w w.heap.size A n Y) (G:L≤w.heap.size) (ag:m+n≤1000000)
 (h:∀D w',jI L (m+n) D w'→Below L w w'→wpList prog E Q F (a.put o.dst D) w'):wpList prog E Q (o::F) a w:=by
 obtain⟨k,bs,I,T,ah,U⟩:=S;obtain⟨V,W,X,Z,aa⟩:=info_parts hq.si;refine pI w J s x 36 K L 5 V (.int .u8 0) 1 lF W X Z aa rfl v k _ O I A n c _ R z.2.2 (fun _=>rfl) (by unfold maxLen;omega) (by omega) G fun D w' ab ac=>?_;refine h D w' ⟨k+n,bs++Y,?_,by rw[List.length_append,T,z.1],by omega,fun b r=>?_⟩ (hz.grown ac G fun j ad=>(I.lt j ad).1)
 ·have e:(List.range n).map (fun j=>Value.int .u8 (jQ.iA Y j))=Y.map fun b=>Value.int .u8 (b:Nat):=by
   refine List.ext_getElem (by simp[z.1]) fun i ai ae=>?_;rw[List.getElem_map,List.getElem_range,List.getElem_map];have af:i<Y.length:=by simpa using ae
   simp only[jQ.iA,iJ,List.getElem?_eq_getElem af,Option.getD_some]
  rw[List.map_append,←e];exact ab
 rcases List.mem_append.1 r with r|r
 ·exact U b r
 exact z.2.1 b r
theorem oq{z:Array Oper}{D:List Oper}{o:Oper}{a:Act}{Q:Exit→Act→World→Prop}(E:o.guard=none)(s x:Operand)
 (F:o.op= .call {callee:= .builtin .append,args:= #[s,x],argTypes:= #[36,36]})
 {m':Nat} (v u:Value) (G:a.eval s=v) (I:a.eval x=u) (J:jI L m v w) (K:jI g m' u w) (O:L≤w.heap.size) (U:m+m'≤1000000)
 (h:∀r w',jI L (m+m') r w'→Below L w w'→wpList prog z Q D (a.put o.dst r) w'):wpList prog z Q (o::D) a w:=by
 obtain⟨A,n,c,V,rfl,W,R⟩:=K.row;exact wa E s x F v G I J R O (by omega) fun r w' S T=>h r w' (S.more (by omega)) T
def BQ(m:Nat)(w:World)(e:Ending)(w':World):Prop:=∃v,e= .returned v∧jI w.heap.size m v w'∧Below w.heap.size w w'
theorem jI.lit(L x:Nat)(w:World)(z:x<256)(o:L≤w.heap.size):jI L 1 (.slice (some ⟨w.heap.size,0,none⟩) 1 1) (w.alloc (.cells #[.int .u8 (x:Nat)] 5)):=
 ⟨1,[x],World.ownsRow_lit w #[.int .u8 (x:Nat)] 1 o (by unfold maxLen;omega) rfl,rfl,hj,fun b r=>by simp at r;omega⟩
theorem wb(n:Nat)(w:World)(o:n<128):Calls prog 74 #[.int .u64 n] w (BQ 1 w):=by
 have z:decide ((n:Int)<128)=true:=by simp;omega
 have A:IntKind.u8.wrap (n:Int)=(n:Int):=IntWalk.u8_in _ (by omega);have r:=g' (jI.lit w.heap.size n w (by omega) hj);clear o;go_enter func74,ntmps74;go_wp2;go_ret;exact⟨_,rfl,r,hz.alloc hj _⟩
theorem Aw(K:Nat)(z:∀(n:Nat) (w:World),n<128^K→n<18446744073709551616→Calls prog 74 #[.int .u64 n] w (BQ K w))(n:Nat)(w:World)(A:n<128^(K+1))(R:n<18446744073709551616)(S:¬n<128)(aa:K≤10):Calls prog 74 #[.int .u64 n] w (BQ (K+1) w):=by
 have ab:decide ((n:Int)<128)=false:=by simp;omega
 have D:=g' (fun W=>z (n/128) W (by rw[Nat.pow_succ]at A;omega) (by omega));have ac:IntKind.u64.wrap ((n:Int)/128)=((n/128:Nat):Int):=(IntWalk.u64_in _ (by omega)).trans (by omega);have E:=g' (show jI w.heap.size 1 (.slice (some ⟨w.heap.size,0,none⟩) 1 1) (w.alloc (.cells #[.int .u8 ((n:Int)%128+128)] 5))from by
  have h:=jI.lit w.heap.size (n%128+128) w (by omega) hj;rwa[show(((n%128+128:Nat)):Int)=(n:Int)%128+128 by omega]at h)
 clear A R S z;go_enter func74,ntmps74;go_upto_region 4 with(fail)
 obtain⟨T,o⟩:=ho (Value.slice none 0 0);have F:=g' (show jI w.heap.size 0 T (w.alloc (.cells #[.int .u8 ((n:Int)%128+128)] 5))from o▸jI.nil _ _);rw[o];clear o;go_wp2_with (at_builtin;refine oq rfl _ _ rfl _ _ rfl rfl F E (by simp) (by omega) ?_);intro ad ae G I;obtain⟨J,U⟩:=hg G (((Below.refl _ w).alloc hj _).trans I);clear G I F E;go_wp2_with fail;refine(D _).mono ?_;rintro e af ⟨ag,rfl,O,r⟩;obtain⟨V,X,Q⟩:=hs (J.to r) O (hJ U r);clear O r J D;go_wp2_with (at_builtin;refine oq rfl _ _ rfl _ _ rfl rfl V X Q.size (by omega) ?_);intro ah ai Y Z;go_wp2;go_ret;exact⟨_,rfl,Y.more (by omega),Q.trans Z⟩
theorem Ax(K:Nat)(I:K≤10):∀(n:Nat) (w:World),n<128^K→n<18446744073709551616→Calls prog 74 #[.int .u64 n] w (BQ (max K 1) w):=by
 induction K with
 |zero=>intro n w r _;exact wb n w (by simp at r;omega)
 |succ K A=>
  intro n w r D;by_cases z:n<128
  ·refine(wb n w z).mono ?_
   rintro e w' ⟨v,rfl,h,o⟩;exact⟨v,rfl,h.more (by omega),o⟩
  rcases K with _|k
  ·exact absurd r (by simp;omega)
  refine(Aw (k+1) (fun n w E F=>(A (by omega) n w E F).mono fun e w' ⟨v,G,h,o⟩=>⟨v,G,h.more (by omega),o⟩) n w r D z (by omega)).mono ?_;rintro e w' ⟨v,rfl,h,o⟩;exact⟨v,rfl,h.more (by omega),o⟩
theorem qy(n:Nat)(h:n<18446744073709551616)(w:World):Calls prog 74 #[.int .u64 n] w (BQ 10 w):=Ax 10 hj n w (by omega) h
end hB
namespace hU
open RowKit
open hG kd h0
theorem we{us:List Nat}:∀k,k≤us.length→sm (us++Y) k=sm us k
 |0,_=>rfl
 |k+1,h=>by
  rw[sm,sm,we k (by omega),un,un,iJ,iJ,List.getElem?_append_left (by omega)]
theorem wj(us o:List Nat):∀k,sm (us++o) (us.length+k)=sm us us.length+sm o k
 |0=>by rw[Nat.add_zero,we _ hj];rfl
 |k+1=>by
  rw[←Nat.add_assoc,sm,wj us o k,sm,un,un,iJ,iJ,List.getElem?_append_right (by omega),show us.length+k-us.length=k by omega];omega
theorem lf(n o r:Int)(z:o≤n)(A:n≤r)(w:World):Calls prog 220 #[int i64 n,int i64 o,int i64 r] w fun e w'=>e= .returned (.bool true)∧w=w':=by
 go_enter func220,ntmps220;go_wp2;go_ret;exact⟨by simp,rfl⟩
theorem tR(n o r:Int)(h:n<o∨r<n)(w:World):Calls prog 220 #[int i64 n,int i64 o,int i64 r] w fun e w'=>e= .returned (.bool false)∧w=w':=by
 by_cases z:o≤n
 ·have A:=hZ z
  have D:decide (n≤r)=false:=by simp;omega
  go_enter func220,ntmps220;go_wp2;go_ret;exact⟨by simp,rfl⟩
 have A:=h1 z;go_enter func220,ntmps220;go_wp2;go_ret;exact⟨by simp,rfl⟩
theorem qz:(prog.info? 57).map (fun i=>(i.zero,i.size,i.bytes))=some (some (.agg #[int i64 0,int i64 0,int u64 0]),3,24):=by kernel_rfl
theorem wk:(prog.info? 102).map (fun i=>(i.zero,i.size,i.bytes))=some (some (.agg #[int i64 0,int i64 0,int u64 0,.bool false]),4,32):=by kernel_rfl
theorem nS(w:World)(e:TypeId)(o r:Nat)(z:o≤w.heap.size):(w.alloc (.cells #[] e)).ownsRow o e r (.slice (some ⟨w.heap.size,0,none⟩) 0 0) 0 []:=
 ⟨by simp,.inr ⟨w.heap.size,0,#[],rfl,z,heap_alloc_new _ _,hj,by unfold maxLen;omega,by simp,by simp⟩⟩
theorem pV(A:Option Addr)(n c:Nat)(ds:List Du)(w:World)(h:hV w w.heap.size A n 3 (flat Du.enc ds))(V:n≤1000000)(G:A=none→n=0∧c=0):
 Calls prog 35 #[.slice A n c] w fun e w'=>∃v,e= .returned v∧w'.ownsRow w.heap.size 57 3 v n (flat Du.enc ds)∧Below w.heap.size w w':=by
 obtain⟨I,J,K,O,Q⟩:=info_parts qz;rcases A with _|o
 ·obtain⟨rfl,rfl⟩:=G rfl
  have R:ds=[]:=List.eq_nil_of_length_eq_zero (h.len Du.len (by omega));subst R;have r:=fun w=>Lib.run_eql_slice_nil (P:=prog) w 42 57 none 0 0 0 0 lT;clear h;go_enter func35,ntmps35;go_wp2;go_ret;exact⟨_,rfl,World.ownsRow_nil _ _ _ _,hz⟩
 have r:=fun w=>Lib.run_eql_slice_nil (P:=prog) w 42 57 (some o) n c 0 0 lT;have z:=h.to (show Below w.heap.size w (w.alloc (.cells #[] 57))from hz.alloc hj _);clear h;go_enter func35,ntmps35;go_wp2_with (at_builtin;refine mK _ rfl _ _ 42 rfl w.heap.size 57 I _ 3 24 lT J K O Q rfl (by decide) _ _ _ rfl (nS w 57 w.heap.size 3 hj) (some o) n c _ rfl z (Du.one ds) ?_ ?_ (by simp) ?_)
 ·unfold maxLen;omega
 ·omega
 intro v D E F;have S:D.ownsRow w.heap.size 57 3 v n (flat Du.enc ds):=by simpa using E
 have T:Below w.heap.size w D:=(hz.alloc hj (.cells #[] 57)).grown F (by simp) (fun k U=>by cases U;exact hj);clear E F z r;go_wp2;go_ret;exact⟨_,rfl,S,T⟩
def eqv(d x:Du):Bool:=x.ac==d.ac&&x.ti==d.ti
theorem Ay(d x:Du)(B:Nat)(w:World)(E:B<w.heap.size)(F:w.cell? ⟨B,0,none⟩=some (int i64 d.ac))(G:w.cell? ⟨B,1,none⟩=some (int i64 d.ti)):
 Calls prog 264 #[.agg #[int i64 x.ac,int i64 x.ti,int u64 x.am],.pointer (some ⟨B,0,none⟩)] w fun e w'=>e= .returned (.bool (eqv d x))∧Below w.heap.size w w':=by
 obtain⟨b,o⟩:=ho (eqv d x);rw[o];unfold eqv at o;by_cases r:x.ac=d.ac;focus
  have z:=jU r;by_cases A:x.ti=d.ti;focus
   have D:=jU A
  rotate_left;focus
   have D:=iM A
  all_goals
   rw[z,D]at o;subst o;clear r A
 rotate_left 2;focus
  have z:=iM r;rw[z]at o;subst o;clear r
 all_goals
  go_enter func264,ntmps264;go_wp2;go_ret;exact⟨by simp,hz.alloc hj _⟩
def rr(p:Du→Bool)(ds:List Du)(r:Int):Prop:=(∃(k:Nat) (x:Du),r=(k:Int)∧ds[k]?=some x∧p x=true∧∀(j:Nat) (y:Du),j<k→ds[j]?=some y→p y=false)∨(r= -1∧∀(j:Nat) (y:Du),ds[j]?=some y→p y=false)
theorem sr(A:Option Addr)(n c:Nat)(ds:List Du)(d:Du)(B:Nat)(w:World)(h:hV w w.heap.size A n 3 (flat Du.enc ds))(ah:n≤1000000)(I:B<w.heap.size)(R:w.cell? ⟨B,0,none⟩=some (int i64 d.ac))(S:w.cell? ⟨B,1,none⟩=some (int i64 d.ti)):
 Calls prog 263 #[.slice A n c,.func (.func 264) #[] #[.pointer (some ⟨B,0,none⟩)]] w fun e w'=>∃r,e= .returned (int i64 r)∧rr (eqv d) ds r∧Below w.heap.size w w':=by
 obtain⟨T,aa,ab⟩:=hs (h.len Du.len (by omega)) h (fun(W:World) (o:Below w.heap.size w W) (x:Du)=>Ay d x B W (Nat.lt_of_lt_of_le I o.size) ((o.cell (p:=⟨B,0,none⟩) I).trans R) ((o.cell (p:=⟨B,1,none⟩) I).trans S));clear h R S;go_enter func263,ntmps263;go_wp2;go_loopw [8] (fun J wr=>∃k:Nat,J=int i64 k∧k≤n∧(∀(j:Nat) (y:Du),j<k→ds[j]?=some y→eqv d y=false)∧Below w.heap.size w wr) (fun J _=>n-(intOf J).toNat)
 case atStart=>exact⟨0,rfl,h6,fun j y ad=>by omega,hz⟩
 case round=>
  obtain⟨k,rfl,ai,U,z⟩:=hrel;have K:=g' U;clear U;by_cases F:k<n
  ·have ae:=hZ F
   obtain⟨x,O⟩:∃x,ds[k]?=some x:=⟨_,iB (by rw[T.out];exact F)⟩;obtain⟨E,rfl,aj,G⟩:=(aa.below z).cell Du.len F O (by omega);have ak:wr.cell? (E.add (k*3))=some (int i64 x.ac):=by have:=G 0 _ rfl;rwa[hG.add_zero]at this
   have al:wr.cell? ⟨(E.add (k*3)).block,(E.add (k*3)).off+1,none⟩=some (int i64 x.ti):=G 1 _ rfl;have an:wr.cell? ⟨(E.add (k*3)).block,(E.add (k*3)).off+2,none⟩=some (int u64 x.am):=G 2 _ rfl;obtain⟨V,Q⟩:=hg O (ab wr z x);have af:=z.size;clear G O;obtain⟨b,o⟩:=ho (eqv d x);rw[o]at Q;have X:=g' o;clear o;go_wp2_with fail;refine Q.mono ?_;rintro e ao ⟨rfl,Y⟩;have Z:=g' (z.trans (Y.mono af));clear z Y Q;cases b
   ·go_wp2
    exact⟨⟨k+1,by go_num,by omega,fun j y ad D=>by
     by_cases ag:j=k
     ·subst ag
      rw[V.out]at D;cases D;exact X
     exact K j y (by omega) D,Z.out⟩,by simp[intOf];omega⟩
   go_wp2;go_ret;exact⟨_,rfl,Or.inl ⟨k,x,rfl,V,X,K⟩,Z.out⟩
  have ae:=h1 F;obtain rfl:k=n:=by omega
  go_wp2;go_ret;exact⟨_,rfl,Or.inr ⟨rfl,fun j y D=>K j y (by rw[←T.out];exact(jh.1 D).1) D⟩,z⟩
end hU
end Go.Proofs.YtffbipddbnkdjaaGreat
namespace Go.Proofs
open Shelf
def Tryz.Az:Go.Shelf.Ren:=⟨fun|264=>153|n=>n,fun|46=>120|53=>22|n=>n,fun|n=>n⟩
theorem Tryz.AA:Lays.n264 Tryz.prog Tryz.Az:={
 mixed:=by kernel_rfl
 f264:=Tryz.func153.trans (congrArg some rfl)
 t46:=Tryz.underlying120
 a46:=Tryz.isAgg120
 z46:=Tryz.sizeOf120
 v46:=Tryz.zeroValue120
 t53:=Tryz.underlying22
 a53:=Tryz.isAgg22
 z53:=Tryz.sizeOf22
 v53:=Tryz.zeroValue22}
end Go.Proofs
namespace Go.Proofs.YtffbipddbnkdjaaGreat
namespace hB
open RowKit
open hG hf
theorem AB(x y h l:Nat)(o:x<18446744073709551616)(r:y<18446744073709551616)(z:h=x*y/18446744073709551616)(A:l=x*y%18446744073709551616)(w:World):
 Calls prog 153 #[int u64 x,int u64 y] w fun e w'=>e= .returned (.tuple #[int u64 h,int u64 l])∧w=w':=by
 subst z A;exact(Any.bits_Mul64 Tryz.AA x y o r w).mono fun e w' h=>⟨h.1,h.2.symm⟩
def lG(N:Nat):Array Value:= #[int u64 ((N/18446744073709551616:Nat):Int),int u64 ((N%18446744073709551616:Nat):Int)]
instance{N:Nat}:hf.jP (lG N) fun o r=>(∀j,o.frozen? ⟨r,j,none⟩=false)∧hf.hh o r 0 (int u64 ((N/18446744073709551616:Nat):Int))∧hf.hh o r 1 (int u64 ((N%18446744073709551616:Nat):Int)):=⟨fun h=>⟨h.frozen,hf.jX h⟩⟩
theorem wm:(prog.info? 154).map (·.size)=some 2:=by kernel_rfl
theorem tS(a b:Nat)(z:a<18446744073709551616)(A:b<18446744073709551616)(w:World):
 Calls prog 82 #[int u64 a,int u64 b] w fun e w'=>e= .returned (.agg (lG (a*b)))∧Below w.heap.size w w':=by
 obtain⟨h,o⟩:=hk (a*b/18446744073709551616);obtain⟨l,r⟩:=hk (a*b%18446744073709551616);have D:=g' (fun W=>AB a b h l z A o r W);have E:Hid (lG (a*b)= #[int u64 h,int u64 l]):=g' (by rw[o,r];rfl);clear o r z A;go_enter func82,ntmps82;go_wp2_with fail;refine hE (D _) ?_;go_wp2_with (refine jD rfl 154 (.tmp 4) (.tmp 15) rfl #[int u64 h,int u64 l] rfl rfl wm rfl (by simp[Value.oneCell']) ?_);intro I F G _;go_wp2;exact bodyPost_ret (v:= .agg #[int u64 h,int u64 l]) (l9 results82 _ _ _ _ _ _ rfl F underlying154 rfl wm) rfl ⟨by rw[E.out],G⟩
theorem AD(N M:Nat):N<M↔N/18446744073709551616<M/18446744073709551616∨(N/18446744073709551616=M/18446744073709551616∧N%18446744073709551616<M%18446744073709551616):=by omega
theorem AE(N M:Nat)(w:World)(b:Bool)(z:b=decide (N<M)):
 Calls prog 152 #[.agg (lG N),.agg (lG M)] w fun e w'=>e= .returned (.bool b)∧Below w.heap.size w w':=by
 have D:Below w.heap.size w ((w.alloc (.cells (lG N) 154)).alloc (.cells (lG M) 154)):=(hz.alloc hj _).alloc (by simp) _;have o:=AD N M;unfold lG at*;obtain⟨E,I⟩:=ho (N/18446744073709551616);obtain⟨Q,J⟩:=ho (N%18446744073709551616);obtain⟨F,K⟩:=ho (M/18446744073709551616);obtain⟨R,O⟩:=ho (M%18446744073709551616);rw[I,J,K,O]at o D⊢;clear I J K O;by_cases r:E<F
 ·have S:=hZ r
  obtain rfl:b=true:=by rw[z,decide_eq_true_iff,o];exact .inl r
  clear o z r;go_enter func152,ntmps152;go_wp2;go_ret;exact⟨rfl,D⟩
 have S:=h1 r;by_cases G:E=F
 ·subst G
  by_cases A:Q<R
  ·have T:=hZ A
   obtain rfl:b=true:=by rw[z,decide_eq_true_iff,o];exact .inr ⟨rfl,A⟩
   clear o z r A;go_enter func152,ntmps152;go_wp2;go_ret;exact⟨rfl,D⟩
  have T:=h1 A;obtain rfl:b=false:=by rw[z,decide_eq_false_iff_not,o];rintro(h|⟨_,h⟩);exact r h;exact A h
  clear o z r A;go_enter func152,ntmps152;go_wp2;go_ret;exact⟨rfl,D⟩
 have U:((E:Int)==(F:Int))=false:=by rw[beq_eq_false_iff_ne];omega
 obtain rfl:b=false:=by rw[z,decide_eq_false_iff_not,o];rintro(h|⟨h,_⟩);exact r h;exact G h
 clear o z r G;go_enter func152,ntmps152;go_wp2;go_ret;exact⟨rfl,D⟩
theorem tT(a b c d:Nat)(o:a<18446744073709551616)(r:b<18446744073709551616)(z:c<18446744073709551616)(A:d<18446744073709551616)(w:World)(x:Bool)(D:x=decide (a*b<c*d)):
 Calls prog 80 #[int u64 a,int u64 b,int u64 c,int u64 d] w fun e w'=>e= .returned (.bool x)∧Below w.heap.size w w':=by
 obtain⟨J,K,O⟩:=hs (fun W=>tS a b o r W) (fun W=>tS c d z A W) (fun W=>AE (a*b) (c*d) W x D);clear o r z A D;generalize a*b=N at*;generalize c*d=M at*;go_enter func80,ntmps80;go_wp2_with fail;refine hI (J _) fun R E=>?_;go_wp2_with fail;refine hI (K _) fun S F=>?_;have G:=hJ E F;clear E F;go_wp2_with fail;refine hI (O _) fun T I=>?_;have Q:=hJ G I;clear I G;go_wp2;go_ret;exact⟨rfl,Q⟩
theorem AF(p a:Nat)(r:p<18446744073709551616)(z:a<18446744073709551616)(w:World)(x:Bool)(o:x=(decide (0<a)&&decide (2*a<3*p))):
 Calls prog 170 #[int u64 p,int u64 a] w fun e w'=>e= .returned (.bool x)∧Below w.heap.size w w':=by
 by_cases A:0<a
 ·have F:decide (0<(a:Int))=true:=by simp;omega
  have D:=hZ A;have H:Hid (∀W:World,Calls prog 80 #[int u64 2,int u64 a,int u64 3,int u64 p] W fun e w'=>e= .returned (.bool x)∧Below W.heap.size W w'):=
   g' (fun W=>tT 2 a 3 p (by omega) z (by omega) r W x (by rw[o,D,Bool.true_and]))
  clear o r z A;go_enter func170,ntmps170;go_wp2_with fail;refine hI (H _) fun G E=>?_;go_wp2;go_ret;exact⟨rfl,E⟩
 obtain rfl:a=0:=by omega
 obtain rfl:x=false:=by rw[o];rfl
 clear o r z A;go_enter func170,ntmps170;go_wp2;go_ret;exact⟨rfl,hz⟩
def o5(a b m:Nat):Nat:=if a+b<18446744073709551616 then min (a+b) m else m
theorem wo(a b m:Nat)(z:a<18446744073709551616)(A:b<18446744073709551616)(E:m<18446744073709551616)(w:World)(r:Nat)(o:r=o5 a b m):
 Calls prog 227 #[int u64 a,int u64 b,int u64 m] w fun e w'=>e= .returned (int u64 r)∧w=w':=by
 unfold o5 at o;by_cases h:a+b<18446744073709551616;focus
  obtain⟨s,D⟩:=hk (a+b);have H:=g' (fun W=>h0.mj a b s D (by omega) W);rw[if_pos h,←D]at o;by_cases F:s≤m;focus
   obtain rfl:r=s:=by omega
   have G:(r:Int)≤(m:Int):=by omega
   have I:min (r:Int) (m:Int)=(r:Int):=by omega
  rotate_left;focus
   obtain rfl:r=m:=by omega
   have G:¬(s:Int)≤(r:Int):=by omega
   have I:min (s:Int) (r:Int)=(r:Int):=by omega
  all_goals
   clear D h o z A E F
 rotate_left 2;focus
  have H:=g' (fun W=>h0.pQ a b z A (by omega) W);rw[if_neg h]at o;subst o;clear h z A E
 all_goals
  go_enter func227,ntmps227;go_wp2_with fail;refine hE (H _) ?_;go_wp2;go_ret;exact⟨rfl,rfl⟩
theorem tU(a b:Nat)(o:a<18446744073709551616)(z:b<18446744073709551616)(w:World)(r:Nat)(A:r=a-b):
 Calls prog 180 #[int u64 a,int u64 b] w fun e w'=>e= .returned (int u64 r)∧w=w':=by
 by_cases h:b≤a;focus
  have H:=g' (fun W=>h0.sj a b r (by omega) o W)
 rotate_left;focus
  have H:=g' (fun W=>h0.tK a b (by omega) z W);obtain rfl:r=0:=by omega
 all_goals
  clear h A o z;go_enter func180,ntmps180;go_wp2_with fail;refine hE (H _) ?_;go_wp2;go_ret;exact⟨rfl,rfl⟩
theorem tV(a b:Nat)(o:a<18446744073709551616)(r:b<18446744073709551616)(w:World)(g l:Nat)(z:g=min a b)(A:l=a-g):
 Calls prog 179 #[int u64 a,int u64 b] w fun e w'=>e= .returned (.tuple #[int u64 g,int u64 l])∧w=w':=by
 by_cases h:a≤b
 ·obtain rfl:g=a:=by omega
  obtain rfl:l=0:=by omega
  have d:(g:Int)≤(b:Int):=by omega
  clear z A o r h;go_enter func179,ntmps179;go_wp2;go_ret2;exact⟨by simp,rfl⟩
 obtain rfl:g=b:=by omega
 have d:¬(a:Int)≤(g:Int):=by omega
 have D:=(IntWalk.u64_in ((a:Int) -(g:Int)) (by omega)).trans (show(a:Int) -(g:Int)=(l:Int) by omega);clear z A o r h;go_enter func179,ntmps179;go_wp2;go_ret2;exact⟨rfl,rfl⟩
end hB
namespace nT
structure ji (v a b u d q r:Nat):Prop where
 hv:v=a*4294967296+b
 hb:b<4294967296
 hu:u<v
 hd:d<4294967296
 sum:q*a+r=u
 ge:(u*4294967296+d)/v≤q
theorem ji.pos{v:Nat}(h:ji v a b u d q r):0<v:=by have:=h.hu;omega
theorem ji.parts{v:Nat}(h:ji v a b u d q r):q*v=q*a*4294967296+q*b∧u*4294967296=q*a*4294967296+r*4294967296:=by
 constructor
 ·rw[h.hv,Nat.mul_add,Nat.mul_assoc]
 rw[←h.sum,Nat.add_mul]
theorem ji.lt{v:Nat}(h:ji v a b u d q r):(u*4294967296+d)/v<4294967296:=by
 rw[Nat.div_lt_iff_lt_mul h.pos,Nat.mul_comm];have o:(u+1)*4294967296≤v*4294967296:=Nat.mul_le_mul_right _ h.hu;have:=h.hd;omega
theorem ji.stop{v:Nat}(h:ji v a b u d q r)(o:q*b≤4294967296*r+d):q=(u*4294967296+d)/v:=by
 refine Nat.le_antisymm ?_ h.ge;rw[Nat.le_div_iff_mul_le h.pos];obtain⟨z,A⟩:=h.parts;omega
theorem ji.less{v:Nat}(h:ji v a b u d q r)(o:4294967296≤q∨4294967296*r+d<q*b):(u*4294967296+d)/v<q:=by
 rcases o with o|o
 ·exact Nat.lt_of_lt_of_le h.lt o
 rw[Nat.div_lt_iff_lt_mul h.pos];obtain⟨z,A⟩:=h.parts;omega
theorem ji.step{v:Nat}(h:ji v a b u d q r)(z:4294967296≤q∨4294967296*r+d<q*b):ji v a b u d (q-1) (r+a):=by
 have o:=h.less z;refine⟨h.hv,h.hb,h.hu,h.hd,?_,Nat.le_sub_one_of_lt o⟩;have A:(q-1)*a=q*a-a:=by rw[Nat.sub_mul,Nat.one_mul]
 have D:a≤q*a:=Nat.le_mul_of_pos_left a (Nat.lt_of_le_of_lt (h6) o);have:=h.sum;omega
theorem ji.full{v:Nat}(h:ji v a b u d q r)(o:q≤4294967296)(z:4294967296≤r):q=(u*4294967296+d)/v:=by
 refine h.stop ?_;have A:q*b≤4294967296*4294967296:=Nat.mul_le_mul o (Nat.le_of_lt h.hb);omega
theorem ji.start{v:Nat}(o:v=a*4294967296+b)(r:b<4294967296)(z:u<v)(A:d<4294967296)(G:2147483648≤a):ji v a b u d (u/a) (u%a)∧u/a≤4294967297:=by
 have D:u/a*a+u%a=u:=by rw[Nat.mul_comm];exact Nat.div_add_mod u a
 refine⟨⟨o,r,z,A,D,?_⟩,?_⟩
 ·have E:0<v:=by omega
  rw[←Nat.lt_succ_iff,Nat.div_lt_iff_lt_mul E];have I:u%a<a:=Nat.mod_lt _ (by omega);have J:u+1≤(u/a+1)*a:=by rw[Nat.add_mul,Nat.one_mul];omega
  have F:(u/a).succ*v=(u/a+1)*a*4294967296+(u/a+1)*b:=by rw[o,Nat.mul_add,Nat.mul_assoc]
  rw[F];omega
 rw[←Nat.lt_succ_iff,Nat.div_lt_iff_lt_mul (by omega)];have:a*4294967296+b≤Nat.succ 4294967297*a:=by
  show a*4294967296+b≤4294967298*a;omega
 omega
theorem wq(o:s≤64):2^(64-s)*2^s=18446744073709551616:=by
 rw[←Nat.pow_add,Nat.sub_add_cancel o]
theorem norm(o:y≠0)(r:y<18446744073709551616)(z:Lib.bitLen y≤64):64-Lib.bitLen y≤63∧y*2^(64-Lib.bitLen y)<18446744073709551616∧9223372036854775808≤y*2^(64-Lib.bitLen y):=by
 obtain⟨G,A,D⟩:1≤Lib.bitLen y∧2^(Lib.bitLen y-1)≤y∧y<2^Lib.bitLen y:=Lib.bitLenAux_bounds 64 y r o;generalize Lib.bitLen y=n at*;have E:2^n*2^(64-n)=18446744073709551616:=by rw[←Nat.pow_add,Nat.add_sub_cancel' z]
 have F:2^(n-1)*2^(64-n)=9223372036854775808:=by
  rw[←Nat.pow_add,show n-1+(64-n)=63 from by omega]
 refine⟨by omega,?_,?_⟩
 ·rw[←E];exact Nat.mul_lt_mul_of_pos_right D (Nat.pow_pos (by omega))
 rw[←F];exact Nat.mul_le_mul_right _ A
theorem wide{l:Nat}(o:s≤64):(h*18446744073709551616+l)*2^s=(h*2^s+l/2^(64-s))*18446744073709551616+l*2^s%18446744073709551616:=by
 have e:=wq o;have r:l*2^s/18446744073709551616=l/2^(64-s):=by rw[←e];exact Nat.mul_div_mul_right _ _ (Nat.pow_pos (by omega))
 have z:=Nat.div_add_mod (l*2^s) 18446744073709551616;rw[r]at z;rw[Nat.add_mul,Nat.add_mul,Nat.mul_right_comm];omega
theorem fin{Q:Nat}(A:0<y)(r:N*2^s=Q*(y*2^s)+n)(z:n<y*2^s):N/y=Q∧N%y=n/2^s:=by
 have o:0<2^s:=Nat.pow_pos (by omega);have D:0<y*2^s:=Nat.mul_pos A o;constructor
 ·rw[←Nat.mul_div_mul_right N y o,r,Nat.mul_comm Q,Nat.mul_add_div D,Nat.div_eq_of_lt z];rfl
 have h:=Nat.mul_mod_mul_right (2^s) N y;rw[r,Nat.mul_comm Q,Nat.mul_add_mod,Nat.mod_eq_of_lt z]at h;rw[h,Nat.mul_div_cancel _ o]
theorem nU{u1 v M:Nat}(r:n*4294967296+g=L*v+k)(z:M=n*18446744073709551616+u1)(A:u1=g*4294967296+b)(D:k*4294967296+b=B*v+i):M=(L*4294967296+B)*v+i:=by
 have e:n*18446744073709551616=(n*4294967296)*4294967296:=by rw[Nat.mul_assoc]
 have o:=congrArg (·*4294967296) r;simp only[Nat.add_mul]at o;rw[Nat.add_mul,Nat.mul_right_comm,z,A,e,←Nat.add_assoc,o,Nat.add_assoc,D,←Nat.add_assoc,Nat.mul_right_comm L]
end nT
end Go.Proofs.YtffbipddbnkdjaaGreat
