/- What functions compute at any arguments, and plain facts: The walks of the roll, first part: own, right, Empty, Mark; the document's Right and Mark; a ring in memory; Run, which ranges over a function; the document's Run and others. Conditions: those that each theorem names. -/
import Derived.Test.YtffbipddbnkdjaaGreatZ13
set_option maxRecDepth 100000
set_option maxHeartbeats 40000000
set_option linter.all false
open Go Go.Proofs.Tryz
open Go.Value(int)
open Go.IntKind(i64 u64)
variable{A T:Option Addr}{n g b L k B i x a m j q c p s r d h u N y:Nat}{E z:Int}{P:Program}{w W X Z:World}{e t:TypeId}{f:Nat→Value}{l:List Bool}{V U:Value}{Y:List Nat}{S:List Value}{R:List Int}{Q:Array Value}{O:List (List Nat)}{M:Bool}{K:Ending}{J:Addr}{I:Nat→Nat}{H:Option Nat}
namespace Go.Proofs.YtffbipddbnkdjaaGreat
namespace hq
open RowKit
open hG jQ
def qG(xs bs:List Nat):List Bool:=(List.range 128).map fun i=>bit xs i||bit bs i
def uB(xs bs:List Nat):List Nat:=o2 (qG xs bs)
theorem uC(xs bs:List Nat):(qG xs bs).length=128:=by simp[qG]
theorem C6(xs bs:List Nat)(i:Nat):bo (qG xs bs) i=if i<128 then(bit xs i||bit bs i)else false:=by
 by_cases h:i<128
 ·rw[if_pos h,zA (by rw[uC];exact h)];simp[qG]
 rw[if_neg h];unfold bo;rw[iJ,List.getElem?_eq_none (by rw[uC];omega)];rfl
theorem C7(xs bs:List Nat):ko (uB xs bs):=(vG _).2.1
theorem C8{xs bs:List Nat}{m:Int}(h:nB xs bs Y k)(z:bs.length≤k)(o:jd xs 128)(A:jd bs m)(D:m≤128):Y=uB xs bs:=by
 refine ra.one (l:=qG xs bs) ⟨?_,h.2.1,fun i=>?_⟩ (vG _)
 ·rw[uC,h.1,o.2.2.1];rfl
 rw[h.bits z,C6];by_cases r:i<128
 ·rw[if_pos r]
 rw[if_neg r,o.2.2.2 i (by omega),A.2.2.2 i (by omega)];rfl
def ij:List Nat:=List.replicate 16 0
theorem xR(i:Nat):bit ij i=false:=by
 unfold bit iA ij;rw[iJ,List.getElem?_replicate];split<;>simp
theorem sV:ko ij:=fun b o=>by rw[ij,List.mem_replicate]at o;omega
theorem uD(A:Option Addr)(n c:Nat)(bs:List Nat)(w:World)(h:ie w w.heap.size A n bs)(X:n≤1000000):
 Calls prog 199 #[.slice A n c] w fun e w'=>∃v,e= .returned v∧w'.ownsRow w.heap.size 5 1 v n (bs.map jq)∧Below w.heap.size w w':=by
 obtain⟨G,I,J,K,O⟩:=info_parts si;obtain⟨r,Q,R⟩:=h;have z:(List.range n).map (fun j=>Value.int .u8 (iA bs j))=bs.map jq:=by
  apply List.ext_getElem (by simp[r]);intro j S D;simp at S D;simp[jq,pO D]
 have T:=g' z;clear r Q z;go_enter func199,ntmps199;go_wp2_with (at_builtin;refine pI _ rfl _ _ 36 rfl w.heap.size 5 G (.int .u8 0) 1 lF I J K O rfl _ _ _ rfl (World.ownsRow_nil _ _ _ _) A n c _ rfl R (fun _=>rfl) ?_ ?_ hj ?_)
 ·unfold maxLen;omega
 ·omega
 intro U E o F;rw[T.out]at o;have V:E.ownsRow w.heap.size 5 1 U n (bs.map jq):=by simpa using o
 have W:Below w.heap.size w E:=hz.grown F hj (fun _ h=>by cases h);clear F o;go_wp2;go_ret;exact⟨_,rfl,V,W⟩
theorem qH(A:Option Addr)(n c L:Nat)(bs:List Nat)(w:World)(h:ie w L A n bs)(o:jd bs 128)(r:n≤1000000):
 Calls prog 223 #[.slice A n c] w fun e w'=>e= .returned (.bool true)∧w=w':=by
 have z:=g' (show Calls prog 222 #[.slice A n c,.int .i64 128] w fun e w'=>e= .returned (.int .i64 0)∧w=w' from uh A n c 128 L bs w h o r);clear h o;go_enter func223,ntmps223;go_wp2_with fail;refine z.mono ?_;rintro e w' ⟨rfl,rfl⟩;go_wp2;go_ret;exact⟨rfl,rfl⟩
theorem uE(A:Option Addr)(n c L:Nat)(bs:List Nat)(w:World)(h:ie w L A n bs)(o:¬jd bs 128)(r:n≤1000000):
 Calls prog 223 #[.slice A n c] w fun e w'=>e= .returned (.bool false)∧w=w':=by
 have z:=g' (ui A n c L 128 bs w h o r);clear h o;go_enter func223,ntmps223;go_wp2_with fail;refine z.mono ?_;rintro e w' ⟨rfl,rfl⟩;go_wp2;go_ret;exact⟨rfl,rfl⟩
theorem xS(w:World):Calls prog 51 #[] w fun e w'=>e= .returned (.slice (some ⟨w.heap.size,0,none⟩) 16 16)∧w'.ownsRow w.heap.size 5 1 (.slice (some ⟨w.heap.size,0,none⟩) 16 16) 16 (ij.map jq)∧Below w.heap.size w w':=by
 obtain⟨A,D,E,F,G⟩:=info_parts si;have I:=g' (show Calls prog 86 #[.int .i64 128] w fun e w'=>e= .returned (.int .i64 (16:Nat))∧w=w' from rf 128 (by omega) w);go_enter func51,ntmps51;go_wp2_with fail;refine I.mono ?_;rintro e w' ⟨rfl,rfl⟩;go_wp2_with (at_make;refine wpList_make_full _ rfl _ _ 36 rfl w.heap.size 5 A (.int .u8 0) 1 lF D E F _ _ _ _ 16 rfl rfl (by omega) (by omega) ?_ (by unfold maxLen;omega) hj ?_)
 ·rw[G];omega
 intro o r z;have J:Below w.heap.size w o:=hz.grown z hj (fun _ h=>by cases h);have K:o.ownsRow w.heap.size 5 1 (.slice (some ⟨w.heap.size,0,none⟩) 16 16) 16 (ij.map jq):=by
  have e:(madeCells #[Value.int .u8 0] 16).toList=ij.map jq:=by
   rw[ij,List.map_replicate];exact toList_madeCells_one _ _
  rw[←e];exact r
 clear r z;go_wp2;go_ret;exact⟨rfl,K,J⟩
def uF(xs bs:List Nat)(m:Int):Prop:=jd xs 128∧0≤m∧m≤128∧jd bs m
theorem C9(A B:Option Addr)(n c f d:Nat)(m:Nat)(xs bs:List Nat)(w:World)(D:ie w w.heap.size A n xs)(E:ie w w.heap.size B f bs)(aj:uF xs bs m)(U:n≤1000000)(ak:f≤1000000):
 Calls prog 211 #[.slice A n c,.slice B f d,.int .i64 m] w fun e w'=>∃v,e= .returned (.tuple #[v,.int .i64 0])∧w'.ownsRow w.heap.size 5 1 v 16 ((uB xs bs).map jq)∧Below w.heap.size w w':=by
 obtain⟨I,al,V,J⟩:=aj;have W:n=16:=by rw[←D.1,I.2.2.1];rfl
 have ax:f≤16:=by have:=E.1;have:=J.2.2.1;omega
 have ay:decide ((m:Int)<0)=false:=by simp
 have az:decide ((128:Int)<m)=false:=by simp;omega
 obtain⟨X,Y,K,O,Z,Q⟩:=ku (qH A n c _ xs w D I U) (uh B f d m _ bs w E J ak) (uD A n c xs w D U) (fun(r:List Nat) (h:nB xs bs r f)=>C8 h (by rw[E.1];exact hj) I J V) (nB.start (bs:=bs) D.2.1) (show xs.length=16 by rw[D.1,W]);have aa:=E.2.1;have ab:=E.2.2;obtain rfl:=W;clear D E I al V J;go_enter func211,ntmps211;go_wp2_with fail;refine X.mono ?_;rintro e w' ⟨rfl,rfl⟩;go_wp2_with fail;refine Y.mono ?_;rintro e w' ⟨rfl,rfl⟩;go_wp2_with fail;refine K.mono ?_;rintro e aA ⟨v,rfl,o,ac⟩;clear X Y K;go_wp2;have z:∃G c',v= .slice G 16 c':=by
  obtain⟨G,c',z,_⟩:=Rd.own o (f:=fun j=>(xs.map jq).getD j .nilIface) (fun j am=>by simp[iJ,Q.out,am]);exact⟨G,c',z⟩
 obtain⟨G,c',z⟩:=z;rw[z]at o⊢;clear z;go_loopw [32] (fun R wr=>∃(k:Nat) (r:List Nat),R= .int .i64 k∧k≤f∧nB xs bs r k∧wr.ownsRow w.heap.size 5 1 (.slice G 16 c') 16 (r.map jq)∧Below w.heap.size w wr) (fun R _=>f-(intOf R).toNat)
 case atStart=>exact⟨0,xs,rfl,h6,Z.out,o,ac⟩
 case round=>
  clear o ac;obtain⟨k,r,rfl,aB,F,o,S⟩:=hrel;have ad:r.length=16:=by rw[F.1];exact Q
  by_cases T:k<f
  ·have an:=hZ T
   obtain⟨ae,rfl,_,af⟩:=ab k T;have aC:wr.cell? (ae.add k)=some (.int .u8 (iA bs k)):=(S.cell (p:=ae.add k) (by rw[block_add];assumption)).trans af;obtain⟨g,aD,z,ag,ah,ai⟩:=xu ad o (by omega);injection z with ao ap aq;have aE:=ah k (by omega);have aF:=ai k;have ar:=F.2.1.iA k;have au:=aa.iA k;have aG:=u8_or_nat (iA r k) (iA bs k) ar au;have av:=g' (F.step aa (by rw[Q.out];omega));have aH:=ag;subst ao;have aw:=g' (o.stored k (.int .u8 ((iA r k|||iA bs k:Nat):Int))).1;clear ab af ah ai F ag Z o ap aq O;go_wp2;exact⟨⟨k+1,_,by go_num,by omega,av.out,by rw[List.map_set];exact aw.out,S.setCell (by show w.heap.size≤g;omega) _⟩,by simp[intOf];omega⟩
  have an:=h1 T;obtain rfl:k=f:=by omega
  obtain rfl:=O.out _ F;have K:=g' o;clear F o O ad;go_wp2;go_ret2;exact⟨_,rfl,K,S⟩
theorem C'(A B:Option Addr)(n c f d:Nat)(m:Int)(xs bs:List Nat)(w:World)(r:ie w w.heap.size A n xs)(z:ie w w.heap.size B f bs)(D:¬uF xs bs m)(O:n≤1000000)(Q:f≤1000000):
 Calls prog 211 #[.slice A n c,.slice B f d,.int .i64 m] w fun e w'=>e= .returned (.tuple #[.slice none 0 0,.int .i64 60])∧w=w':=by
 by_cases o:jd xs 128
 ·have E:=g' (qH A n c _ xs w r o (by omega))
  by_cases F:m<0
  ·have I:=hZ F
   clear r z o F D;go_enter func211,ntmps211;go_wp2_with fail;refine E.mono ?_;rintro e w' ⟨rfl,rfl⟩;go_wp2;go_ret2;exact⟨rfl,rfl⟩
  have I:=h1 F;by_cases G:128<m
  ·have J:=hZ G
   clear r z o F D G;go_enter func211,ntmps211;go_wp2_with fail;refine E.mono ?_;rintro e w' ⟨rfl,rfl⟩;go_wp2;go_ret2;exact⟨rfl,rfl⟩
  have J:=h1 G;have K:=g' (ui B f d _ m bs w z (fun h=>D ⟨o,by omega,by omega,h⟩) (by omega));clear r z o F D G;go_enter func211,ntmps211;go_wp2_with fail;refine E.mono ?_;rintro e w' ⟨rfl,rfl⟩;go_wp2_with fail;refine K.mono ?_;rintro e w' ⟨rfl,rfl⟩;go_wp2;go_ret2;exact⟨rfl,rfl⟩
 have E:=g' (uE A n c _ xs w r o (by omega));clear r z o D;go_enter func211,ntmps211;go_wp2_with fail;refine E.mono ?_;rintro e w' ⟨rfl,rfl⟩;go_wp2;go_ret2;exact⟨rfl,rfl⟩
open Shelf
attribute [local go_sem] Oper.semAt_some
def ro(rs:List (List Nat))(i:Nat):List Nat:=rs.getD i []
def ki(w:World)(B:Nat)(A:Option Addr)(n:Nat)(rs:List (List Nat)):Prop:=
 rs.length=n∧∀i,i<n→∃o r z,A=some o∧o.block<B∧w.cell? (o.add i)=some (.slice r (ro rs i).length z)∧ie w B r (ro rs i).length (ro rs i)∧(ro rs i).length≤z
theorem ki.below{w':World}{rs:List (List Nat)}(h:ki w B A n rs)(o:Below B w w'):ki w' B A n rs:=⟨h.1,fun i z=>by
 obtain⟨D,E,F,e,r,G,I,J⟩:=h.2 i z;exact⟨D,E,F,e,r,(o.cell (by rw[block_add];exact r)).trans G,I.below o,J⟩⟩
theorem ki.more{B':Nat}{rs:List (List Nat)}(h:ki w B A n rs)(o:B≤B'):ki w B' A n rs:=⟨h.1,fun i r=>by
 obtain⟨z,D,E,e,J,F,G,I⟩:=h.2 i r;exact⟨z,D,E,e,by omega,F,G.more o,I⟩⟩
theorem ki.to{w':World}{rs:List (List Nat)}(h:ki w w.heap.size A n rs)(o:Below w.heap.size w w'):ki w' w'.heap.size A n rs:=(h.below o).more o.size
end hq
namespace hq
open RowKit
open hG jQ
theorem Da(w:World)(xs:List Value)(e:TypeId)(o n:Nat)(r:o≤w.heap.size)(z:xs.length=n)(A:n≤maxLen):(w.alloc (.cells xs.toArray e)).ownsRow o e 1 (.slice (some ⟨w.heap.size,0,none⟩) n n) n xs:=by
 subst z;exact⟨by simp,.inr ⟨w.heap.size,xs.length,xs.toArray,rfl,r,World.alloc_heap_new _ _,hj,A,by simp,by simp⟩⟩
theorem Db:(prog.info? 36).map (fun i=>(i.zero,i.size,i.bytes))=some (some (.slice none 0 0),1,24):=by kernel_rfl
theorem ki.Dc{v:Value}{xs:List Value}{rs:List (List Nat)}(h:w.ownsRow b e 1 v n xs)(F:rs.length=n)
 (D:∀i,i<n→∃o r,xs[i]?=some (.slice o (ro rs i).length r)∧ie w w.heap.size o (ro rs i).length (ro rs i)∧(ro rs i).length≤r):
 ∃A c,v= .slice A n c∧n≤c∧ki w w.heap.size A n rs:=by
 obtain⟨A,c,G,I,_,_,J⟩:=Rd.own h (f:=fun j=>(xs[j]?).getD (.bool false)) (fun j K=>by
  obtain⟨o,r,z,_⟩:=D j K;rw[z];rfl)
 refine⟨A,c,G,I,F,fun i E=>?_⟩;obtain⟨o,r,z,O,Q⟩:=D i E;obtain⟨R,rfl,S,T⟩:=J i E;exact⟨R,o,r,rfl,S,by rw[T];simp only[z];rfl,O,Q⟩
def OR(w:World)(b:Nat)(v:Value)(n:Nat)(rs:List (List Nat)):Prop:=
 rs.length=n∧∃xs:List Value,w.ownsRow b 36 1 v n xs∧∀i,i<n→∃u,xs[i]?=some u∧w.ownsRow b 5 1 u (ro rs i).length ((ro rs i).map jq)∧ko (ro rs i)
theorem OR.ring{v:Value}{rs:List (List Nat)}(h:OR w b v n rs):∃A c,v= .slice A n c∧n≤c∧ki w w.heap.size A n rs:=by
 obtain⟨o,xs,r,z⟩:=h;refine ki.Dc r o fun i D=>?_;obtain⟨u,E,F,G⟩:=z i D;obtain⟨I,J,rfl,K,_,_,O⟩:=re rfl G F;exact⟨I,J,E,O,K⟩
theorem tags{s' n':Nat}{v:Value}{xs:List Value}(h:w.ownsRow b e s v n xs)(z:w.ownsRow L t s' V n' S)(A:e≠t):v.ownBlock=none∨v.ownBlock≠V.ownBlock:=by
 rcases h.2 with⟨rfl,_⟩|⟨g,cap,cur,rfl,_,D,_⟩
 ·exact .inl rfl
 refine .inr fun o=>?_;rcases z.2 with⟨rfl,_⟩|⟨E,G,I,rfl,_,r,_⟩
 ·cases o
 have F:g=E:=Option.some.inj o;subst F;rw[D]at r;cases r;exact A rfl
def nC(xs:List Nat)(rs:List (List Nat)):List (List Nat):=xs::rs.take 7
theorem xT(xs:List Nat)(rs:List (List Nat)):(nC xs rs).length=min rs.length 7+1:=by simp[nC];omega
theorem Dd(xs:List Nat)(rs:List (List Nat))(i:Nat):ro (xs::rs) (i+1)=ro rs i:=by simp[ro]
theorem De{rs:List (List Nat)}(h:i<k):ro (rs.take k) i=ro rs i:=by simp[ro,h]
def qI(xs:List Nat)(rs:List (List Nat)):Prop:=rs.length≤8∧jd xs 128∧∀i,i<rs.length→jd (ro rs i) 128
theorem lV(A B:Option Addr)(n c f d:Nat)(rs:List (List Nat))(xs:List Nat)(h:qI xs rs)(w:World)(r:ki w w.heap.size A n rs)(D:ie w w.heap.size B f xs)(O:f≤1000000):
 Calls prog 165 #[.slice A n c,.slice B f d] w fun e w'=>e= .returned (.int .i64 0)∧w=w':=by
 obtain⟨Q,E,F⟩:=h;have G:=r.1;have X:n≤8:=by omega
 have Y:decide ((8:Int)<n)=false:=by simp;omega
 obtain⟨R,S,I⟩:=hs (qH B f d _ xs w D E O) r (show∀i,i<n→jd (ro rs i) 128 by rw[←G];exact F);clear r D Q E F G;go_enter func165,ntmps165;go_wp2_with fail;refine R.mono ?_;rintro e w' ⟨rfl,rfl⟩;go_wp2;go_loop [17] (fun z=>∃k:Nat,z= .int .i64 k∧k≤n) (fun z=>n-(intOf z).toNat)
 case atStart=>exact⟨0,rfl,h6⟩
 case round=>
  obtain⟨k,rfl,Z⟩:=hrel;by_cases o:k<n
  ·have T:=hZ o
   obtain⟨aa,U,V,rfl,_,W,J,_⟩:=S.2 k o;have K:=g' (qH U _ V _ (ro rs k) w J (I k o) (by have:=(I k o).2.2.1;omega));clear J;generalize(ro rs k).length=ab at W K;go_wp2_with fail;refine K.mono ?_;rintro e w' ⟨rfl,rfl⟩;go_wp2;exact⟨⟨k+1,by go_num,by omega⟩,by simp[intOf];omega⟩
  have T:=h1 o;go_wp2;go_ret;exact⟨rfl,rfl⟩
theorem pW(A B:Option Addr)(n c f d:Nat)(rs:List (List Nat))(xs:List Nat)(h:¬qI xs rs)(w:World)(o:ki w w.heap.size A n rs)(r:ie w w.heap.size B f xs)(R:f≤1000000)(I:∀i,i<n→(ro rs i).length≤1000000):
 Calls prog 165 #[.slice A n c,.slice B f d] w fun e w'=>e= .returned (.int .i64 60)∧w=w':=by
 have J:=o.1;by_cases ae:8<n
 ·have Y:decide ((8:Int)<n)=true:=by simp;omega
  clear o r h;go_enter func165,ntmps165;go_wp2;go_ret;exact⟨rfl,rfl⟩
 have Y:decide ((8:Int)<n)=false:=by simp;omega
 by_cases z:jd xs 128
 ·have K:=g' (qH B f d _ xs w r z R)
  obtain⟨Z,S,aa⟩:=hs o I (show¬∀i,i<n→jd (ro rs i) 128 from fun O=>h ⟨by omega,z,by rw[J];exact O⟩);clear o r h J I z;go_enter func165,ntmps165;go_wp2_with fail;refine K.mono ?_;rintro e w' ⟨rfl,rfl⟩;go_wp2;go_loop [17] (fun Q=>∃k:Nat,Q= .int .i64 k∧k≤n∧∀i,i<k→jd (ro rs i) 128) (fun Q=>n-(intOf Q).toNat)
  case atStart=>exact⟨0,rfl,h6,fun i ab=>by omega⟩
  case round=>
   obtain⟨k,rfl,af,T⟩:=hrel;have U:=g' T;clear T;by_cases F:k<n
   ·have ag:=hZ F
    obtain⟨ah,V,W,rfl,_,X,G,_⟩:=Z.2 k F;by_cases D:jd (ro rs k) 128
    ·have E:=g' (qH V _ W _ (ro rs k) w G D (S k F))
     have ac:=g' (show∀i,i<k+1→jd (ro rs i) 128 from fun i ab=>by
      by_cases O:i=k
      ·rw[O];exact D
      exact U i (by omega))
     clear G D;generalize(ro rs k).length=ad at X E;go_wp2_with fail;refine E.mono ?_;rintro e w' ⟨rfl,rfl⟩;go_wp2;exact⟨⟨k+1,by go_num,by omega,ac⟩,by simp[intOf];omega⟩
    have E:=g' (uE V _ W _ (ro rs k) w G D (S k F));clear G D;generalize(ro rs k).length=ad at X E;go_wp2_with fail;refine E.mono ?_;rintro e w' ⟨rfl,rfl⟩;go_wp2;go_ret;exact⟨rfl,rfl⟩
   obtain rfl:k=n:=by omega
   exact absurd U aa
 have K:=g' (uE B f d _ xs w r z R);clear o r h J I z;go_enter func165,ntmps165;go_wp2_with fail;refine K.mono ?_;rintro e w' ⟨rfl,rfl⟩;go_wp2;go_ret;exact⟨rfl,rfl⟩
theorem OR.push{v:Value}{rs:List (List Nat)}{xs:List Nat}{u:Value}{o:Obj}
 (A:rs.length=n) (D:w.ownsRow b 36 1 v n S) (F:∀i,i<n→∃u,S[i]?=some u∧w.ownsRow b 5 1 u (ro rs i).length ((ro rs i).map jq)∧ko (ro rs i))
 (G:w.ownsRow b 5 1 u xs.length (xs.map jq)) (I:ko xs) (J:W.ownsRow b 36 1 V (n+1) (S++[u])) (K:(w.alloc o).grownBy W v.ownBlock):OR W b V (n+1) (rs++[xs]):=by
 have O:S.length=n:=by have:=D.1;omega
 have E:∀{z:Value} {r:List Nat},w.ownsRow b 5 1 z r.length (r.map jq)→W.ownsRow b 5 1 z r.length (r.map jq):=fun{z r} h=>
  (h.alloc o).kept K ((tags (h.alloc o) (D.alloc o) (by decide)))
 refine⟨by simp[A],_,J,fun i U=>?_⟩;by_cases h:i<n
 ·obtain⟨z,Q,R,T⟩:=F i h
  have e:ro (rs++[xs]) i=ro rs i:=by simp only[ro,iJ,List.getElem?_append_left (show i<rs.length by omega)]
  rw[e];exact⟨z,by rw[List.getElem?_append_left (by omega)];exact Q,E R,T⟩
 obtain rfl:i=n:=by omega
 have e:ro (rs++[xs]) i=xs:=by simp only[ro,iJ,List.getElem?_append_right (show rs.length≤i by omega)];simp[A]
 rw[e];exact⟨u,by rw[List.getElem?_append_right (by omega)];simp[O],E G,I⟩
theorem xU{w':World}{v:Value}{xs:List Value}(h:w.ownsRow b e s v n xs)(o:Below w.heap.size w w'):w'.ownsRow b e s v n xs:=
 h.kept (row:=none) ⟨o.os,o.tape,o.output,o.size,fun i r _=>o.block i r⟩ (by cases v.ownBlock<;>simp)
theorem Df{v:Value}{xs:List Value}(h:w.ownsRow L e s v n xs)(o:b≤L):w.ownsRow b e s v n xs:=by
 refine⟨h.1,?_⟩;rcases h.2 with r|⟨g,cap,cur,hv,z,rest⟩
 ·exact .inl r
 exact .inr ⟨g,cap,cur,hv,Nat.le_trans o z,rest⟩
theorem OR.to{w':World}{v:Value}{rs:List (List Nat)}(h:OR w b v n rs)(o:Below w.heap.size w w'):OR w' b v n rs:=by
 obtain⟨r,xs,z,A⟩:=h;refine⟨r,xs,xU z o,fun i D=>?_⟩;obtain⟨u,E,F,G⟩:=A i D;exact⟨u,E,xU F o,G⟩
theorem Dg{rs:List (List Nat)}(h:k<rs.length):rs.take (k+1)=rs.take k++[ro rs k]:=by
 rw[List.take_add_one,ro,iJ,List.getElem?_eq_getElem h];rfl
theorem Dh(A B:Option Addr)(n c f d:Nat)(rs:List (List Nat))(xs:List Nat)(w:World)(S:ki w w.heap.size A n rs)(O:ie w w.heap.size B f xs)(ay:f≤1000000)(aS:n≤1000000)(af:∀i,i<n→(ro rs i).length≤1000000):
 Calls prog 132 #[.slice A n c,.slice B f d] w fun e w'=>∃v,e= .returned v∧OR w' w.heap.size v (min n 7+1) (nC xs rs)∧Below w.heap.size w w':=by
 obtain⟨az,aA,aB,aC,aD⟩:=info_parts Db;obtain⟨ag,ah,ai,aj,aE,aF⟩:=ku (uD B f d xs w O ay) O.2.1 O.1 S.1 (fun(W:World) (h:Below w.heap.size w W)=>S.to h) af;clear S O af;go_enter func132,ntmps132;go_wp2_with fail;refine ag.mono ?_;rintro e T ⟨u,rfl,r,U⟩;have V:=U.size;obtain⟨F,G,rfl,_⟩:=re ai ah r;have ak:=U.alloc V (.cells #[.slice F f G] 36);have o:OR (T.alloc (.cells #[.slice F f G] 36)) w.heap.size (.slice (some ⟨T.heap.size,0,none⟩) 1 1) 1 (xs::rs.take 0):=
  ⟨rfl,[.slice F f G],Da T [.slice F f G] 36 w.heap.size 1 V rfl (by unfold maxLen;omega),fun i aT=>by
   obtain rfl:i=0:=by omega
   refine⟨.slice F f G,rfl,?_,ah⟩;have e:ro (xs::rs.take 0) 0=xs:=rfl;rw[e,ai.out];exact r.alloc _⟩
 clear r ag V U;go_wp2;go_loopw [5,13] (fun aG X wr=>∃k:Nat,X= .int .i64 k∧k≤n∧OR wr w.heap.size aG (min k 7+1) (xs::rs.take (min k 7))∧Below w.heap.size w wr) (fun _ X _=>n-(intOf X).toNat)
 case atStart=>exact⟨0,rfl,h6,o,ak⟩
 case round=>
  clear o ak;obtain⟨k,rfl,aU,o,D⟩:=hrel;obtain⟨aH,aI,rfl,aV,Y⟩:=o.ring;by_cases I:k<n
  ·have aJ:=hZ I
   obtain⟨aW,aK,aL,rfl,_,al,Q,_⟩:=(aE wr D).2 k I;by_cases aX:k<7
   ·have J:min k 7=k:=by omega
    have K:min (k+1) 7=k+1:=by omega
    rw[J]at o⊢;have aY:decide ((k:Int)+1<8)=true:=by simp;omega
    obtain⟨Z,am,aM,aa,E⟩:=jg (uD aK _ aL (ro rs k) wr Q (aF k I)) Q.2.1 (Dg (rs:=rs) (k:=k) (by rw[aj.out];exact I)) K o;clear Q J K Y o;generalize an:(ro rs k).length=ao at al Z;have ap:=g' an;clear an;go_wp2_with fail;refine Z.mono ?_;rintro e aN ⟨u,rfl,r,ab⟩;obtain⟨aO,aP,rfl,_⟩:=re ap am r;have ac:=D.size;have ad:=D.trans (ab.mono ac);have aZ:=ad.size;obtain⟨aq,a0,R,ar⟩:=E.to ab;have au:=Df r ac;have av:=g' ar;clear ar Z r D ab ac E;go_wp2_with (at_builtin;refine wpList_append_own _ rfl _ _ 44 rfl w.heap.size 36 az (.slice none 0 0) 1 24 sH aA aB aC aD rfl (by decide) _ _ _ rfl (R.alloc _) ⟨aN.heap.size,0,none⟩ 1 1 [.slice aO ao aP] rfl rfl (cell_one_new _ _ _) ?_ ?_ ?_ ?_ ?_)
    ·intro z aw;simp at aw;subst aw;rfl
    ·unfold maxLen;omega
    ·omega
    ·simp;omega
    intro a1 a2 ax ae _;have aQ:=nt ad R ae;have aR:=g' (OR.push (rs:=xs::rs.take k) (xs:=ro rs k) aq R av (by rw[ap.out];exact au) am ax ae);clear ae ax R au ad aq av;go_wp2;exact⟨⟨k+1,by go_num,by omega,by rw[aa.out,aM.out];exact aR.out,aQ⟩,by simp[intOf];omega⟩
   have J:min k 7=7:=by omega
   have K:min (k+1) 7=7:=by omega
   rw[J]at o⊢;obtain⟨aa,E⟩:=hg K o;clear Q J K Y o;generalize(ro rs k).length=ao at al;go_wp2;exact⟨⟨k+1,by go_num,by omega,by rw[aa.out];exact E,D⟩,by simp[intOf];omega⟩
  have aJ:=h1 I;obtain rfl:k=n:=by omega
  have E:=g' (show OR wr w.heap.size (.slice aH (min k 7+1) aI) (min k 7+1) (nC xs rs) by
   have e:rs.take (min k 7)=rs.take 7:=by
    rw[←aj.out,←List.take_take,List.take_of_length_le (l:=rs.take 7) (by rw[List.length_take];omega)]
   rw[e]at o;exact o)
  clear o Y;go_wp2;go_ret;exact⟨_,rfl,E,D⟩
end hq
namespace hB
open RowKit
open hG hf hC h0 hU
structure Sl where
 A:Option Addr
 n:Nat
 c:Nat
def Sl.v(s:Sl):Value:= .slice s.A s.n s.c
def Sl.nil:Sl:=⟨none,0,0⟩
def Sl.Ok(s:Sl):Prop:=(s.A=none∧s.n=0∧s.c=0)∨∃g,s.A=some ⟨g,0,none⟩∧s.n≤s.c∧s.c≤maxLen
theorem Sl.Ok.none{s:Sl}(h:s.Ok):s.A=none→s.n=0∧s.c=0:=fun e=>by
 rcases h with⟨_,o,r⟩|⟨g,o,_⟩
 ·exact⟨o,r⟩
 rw[e]at o;cases o
theorem Sl.Ok.nil:Sl.nil.Ok:= .inl ⟨rfl,rfl,rfl⟩
theorem jZ{v:Value}{xs:List Value}(h:w.ownsRow b e L v n xs):
 ∃s:Sl,v=s.v∧s.n=n∧s.Ok∧(∀r,s.A=some r→b≤r.block)∧hV w w.heap.size s.A s.n L xs:=by
 obtain⟨A,c,o,z,D,E,F⟩:=hV.own h;refine⟨⟨A,n,c⟩,o,rfl,?_,E,F⟩;rcases h.2 with⟨rfl,G⟩|⟨g,cap,cur,rfl,_⟩
 ·cases o;exact .inl ⟨rfl,rfl,rfl⟩
 cases o;exact .inr ⟨g,rfl,z,D⟩
def jr(w:World)(L:Nat)(A:Option Addr)(n:Nat)(o:List Int):Prop:=o.length=n∧Rd w L A n (fun j=>int i64 (o.getD j 0))
theorem jr.below{w':World}(h:jr w L A n R)(o:Below L w w'):jr w' L A n R:=⟨h.1,h.2.below o⟩
theorem jr.more(h:jr w L A n R)(o:L≤g):jr w g A n R:=⟨h.1,h.2.more o⟩
def iw(z:Int):Value:=int i64 z
theorem kD:jr w L A n R↔hV w L A n 1 (R.map iw):=by
 unfold jr hV;rw[List.length_map,Nat.mul_one];refine and_congr_right fun r=>⟨fun h=>h.congr fun j o=>?_,fun h=>h.congr fun j o=>?_⟩
 ·rw[kN,List.getElem?_map,iJ,iB (by omega)];rfl
 rw[kN,List.getElem?_map,iJ,iB (by omega)];rfl
theorem p2{us:List Nat}:jk w L A n us↔(hV w L A n 1 (us.map wv)∧Wd us):=by
 unfold jk hV;rw[List.length_map,Nat.mul_one];constructor
 ·rintro⟨o,r,z⟩
  refine⟨⟨o,z.congr fun j D=>?_⟩,r⟩;rw[kN,rq (by omega)];rfl
 rintro⟨⟨o,z⟩,r⟩;refine⟨o,r,z.congr fun j D=>?_⟩;rw[kN,rq (by omega)];rfl
theorem lK{bs:List Nat}:hq.ie w L A n bs↔(hV w L A n 1 (bs.map hq.jq)∧jQ.ko bs):=by
 unfold hq.ie hV;rw[List.length_map,Nat.mul_one];constructor
 ·rintro⟨o,r,z⟩
  refine⟨⟨o,z.congr fun j D=>?_⟩,r⟩;rw[kN,hq.rb (by omega)];rfl
 rintro⟨⟨o,z⟩,r⟩;refine⟨o,r,z.congr fun j D=>?_⟩;rw[kN,hq.rb (by omega)];rfl
structure hp where
 ac:Int
 wh:Int
 p:hx
 ta:Int
 am:Nat
 en:Int
 du:Int
 st:Int
 yh:Sl
 nh:Sl
 ys:List Nat
 ns:List Nat
def hp.enc(m:hp):List Value:=[int i64 m.ac,int i64 m.wh,int u64 m.p.inc,int u64 m.p.ix,int u64 m.p.floor,int u64 m.p.cap,int u64 m.p.up,int u64 m.p.down,int u64 m.p.ih,int u64 m.p.quot,int u64 m.p.iR,int u64 m.p.iS,int u64 m.p.recover,int u64 m.p.ig,int u64 m.p.iT,int u64 m.p.iU,int i64 m.p.iV,int i64 m.p.ic,int i64 m.p.iE,int i64 m.p.iN,int i64 m.p.iI,int i64 m.p.iy,int i64 m.p.wait,int i64 m.p.iW,int i64 m.p.iK,int i64 m.p.iO,int i64 m.ta,int u64 m.am,int i64 m.en,int i64 m.du,int i64 m.st,m.yh.v,m.nh.v]
def hp.cs(m:hp):Array Value:= #[int i64 m.ac,int i64 m.wh,int u64 m.p.inc,int u64 m.p.ix,int u64 m.p.floor,int u64 m.p.cap,int u64 m.p.up,int u64 m.p.down,int u64 m.p.ih,int u64 m.p.quot,int u64 m.p.iR,int u64 m.p.iS,int u64 m.p.recover,int u64 m.p.ig,int u64 m.p.iT,int u64 m.p.iU,int i64 m.p.iV,int i64 m.p.ic,int i64 m.p.iE,int i64 m.p.iN,int i64 m.p.iI,int i64 m.p.iy,int i64 m.p.wait,int i64 m.p.iW,int i64 m.p.iK,int i64 m.p.iO,int i64 m.ta,int u64 m.am,int i64 m.en,int i64 m.du,int i64 m.st,m.yh.v,m.nh.v]
instance{m:hp}:hf.jP m.cs fun o r=>(∀j,o.frozen? ⟨r,j,none⟩=false)∧hf.hh o r 0 (int i64 m.ac)∧hf.hh o r 1 (int i64 m.wh)∧hf.hh o r 2 (int u64 m.p.inc)∧hf.hh o r 3 (int u64 m.p.ix)∧hf.hh o r 4 (int u64 m.p.floor)∧hf.hh o r 5 (int u64 m.p.cap)∧hf.hh o r 6 (int u64 m.p.up)∧hf.hh o r 7 (int u64 m.p.down)∧hf.hh o r 8 (int u64 m.p.ih)∧hf.hh o r 9 (int u64 m.p.quot)∧hf.hh o r 10 (int u64 m.p.iR)∧hf.hh o r 11 (int u64 m.p.iS)∧hf.hh o r 12 (int u64 m.p.recover)∧hf.hh o r 13 (int u64 m.p.ig)∧hf.hh o r 14 (int u64 m.p.iT)∧hf.hh o r 15 (int u64 m.p.iU)∧hf.hh o r 16 (int i64 m.p.iV)∧hf.hh o r 17 (int i64 m.p.ic)∧hf.hh o r 18 (int i64 m.p.iE)∧hf.hh o r 19 (int i64 m.p.iN)∧hf.hh o r 20 (int i64 m.p.iI)∧hf.hh o r 21 (int i64 m.p.iy)∧hf.hh o r 22 (int i64 m.p.wait)∧hf.hh o r 23 (int i64 m.p.iW)∧hf.hh o r 24 (int i64 m.p.iK)∧hf.hh o r 25 (int i64 m.p.iO)∧hf.hh o r 26 (int i64 m.ta)∧hf.hh o r 27 (int u64 m.am)∧hf.hh o r 28 (int i64 m.en)∧hf.hh o r 29 (int i64 m.du)∧hf.hh o r 30 (int i64 m.st)∧hf.hh o r 31 (.slice m.yh.A m.yh.n m.yh.c)∧hf.hh o r 32 (.slice m.nh.A m.nh.n m.nh.c):=⟨fun h=>⟨h.frozen,hf.jX h⟩⟩
theorem hp.len(m:hp):m.enc.length=33:=rfl
theorem hp.Di(m:hp):∀u∈m.enc,u.oneCell'=true:=by
 intro u o;have h:m.enc.all (·.oneCell')=true:=by kernel_rfl
 exact List.all_eq_true.1 h u o
theorem hp.one(o:List hp):∀u∈flat hp.enc o,u.oneCell'=true:=fun u r=>by
 obtain⟨d,_,z⟩:=List.mem_flatMap.1 r;exact d.Di u z
theorem Mem.one(o:List Mem):∀u∈flat Mem.enc o,u.oneCell'=true:=fun u r=>by
 obtain⟨d,_,z⟩:=List.mem_flatMap.1 r;have h:d.enc.all (·.oneCell')=true:=by kernel_rfl
 exact List.all_eq_true.1 h u z
structure hp.At (m:hp) (w:World) (L:Nat):Prop where
 ys:hq.ie w L m.yh.A m.yh.n m.ys
 ns:hq.ie w L m.nh.A m.nh.n m.ns
 yo:m.yh.Ok
 no:m.nh.Ok
theorem hp.At.below{m:hp}{w':World}(h:m.At w L)(o:Below L w w'):m.At w' L:=⟨h.ys.below o,h.ns.below o,h.yo,h.no⟩
theorem hp.At.more{m:hp}(h:m.At w L)(o:L≤n):m.At w n:=⟨h.ys.more o,h.ns.more o,h.yo,h.no⟩
structure hA where
 p:hx
 hX:Nat
 gen:Nat
 hO:Nat
 h7:Nat
 hN:Nat
 ep:Int
 calm:Int
 em:Bool
 pu:Sl
 me:Sl
 en:Sl
 ex:Sl
 po:Sl
 du:Sl
 mo:Sl
 ma:Sl
 ri:Sl
def hA.cs(s:hA):Array Value:= #[int u64 s.p.inc,int u64 s.p.ix,int u64 s.p.floor,int u64 s.p.cap,int u64 s.p.up,int u64 s.p.down,int u64 s.p.ih,int u64 s.p.quot,int u64 s.p.iR,int u64 s.p.iS,int u64 s.p.recover,int u64 s.p.ig,int u64 s.p.iT,int u64 s.p.iU,int i64 s.p.iV,int i64 s.p.ic,int i64 s.p.iE,int i64 s.p.iN,int i64 s.p.iI,int i64 s.p.iy,int i64 s.p.wait,int i64 s.p.iW,int i64 s.p.iK,int i64 s.p.iO,int u64 s.hX,int u64 s.gen,int u64 s.hO,int u64 s.h7,int u64 s.hN,int i64 s.ep,int i64 s.calm,.bool s.em,s.pu.v,s.me.v,s.en.v,s.ex.v,s.po.v,s.du.v,s.mo.v,s.ma.v,s.ri.v]
instance{s:hA}:hf.jP s.cs fun o r=>(∀j,o.frozen? ⟨r,j,none⟩=false)∧hf.hh o r 0 (int u64 s.p.inc)∧hf.hh o r 1 (int u64 s.p.ix)∧hf.hh o r 2 (int u64 s.p.floor)∧hf.hh o r 3 (int u64 s.p.cap)∧hf.hh o r 4 (int u64 s.p.up)∧hf.hh o r 5 (int u64 s.p.down)∧hf.hh o r 6 (int u64 s.p.ih)∧hf.hh o r 7 (int u64 s.p.quot)∧hf.hh o r 8 (int u64 s.p.iR)∧hf.hh o r 9 (int u64 s.p.iS)∧hf.hh o r 10 (int u64 s.p.recover)∧hf.hh o r 11 (int u64 s.p.ig)∧hf.hh o r 12 (int u64 s.p.iT)∧hf.hh o r 13 (int u64 s.p.iU)∧hf.hh o r 14 (int i64 s.p.iV)∧hf.hh o r 15 (int i64 s.p.ic)∧hf.hh o r 16 (int i64 s.p.iE)∧hf.hh o r 17 (int i64 s.p.iN)∧hf.hh o r 18 (int i64 s.p.iI)∧hf.hh o r 19 (int i64 s.p.iy)∧hf.hh o r 20 (int i64 s.p.wait)∧hf.hh o r 21 (int i64 s.p.iW)∧hf.hh o r 22 (int i64 s.p.iK)∧hf.hh o r 23 (int i64 s.p.iO)∧hf.hh o r 24 (int u64 s.hX)∧hf.hh o r 25 (int u64 s.gen)∧hf.hh o r 26 (int u64 s.hO)∧hf.hh o r 27 (int u64 s.h7)∧hf.hh o r 28 (int u64 s.hN)∧hf.hh o r 29 (int i64 s.ep)∧hf.hh o r 30 (int i64 s.calm)∧hf.hh o r 31 (.bool s.em)∧hf.hh o r 32 (.slice s.pu.A s.pu.n s.pu.c)∧hf.hh o r 33 (.slice s.me.A s.me.n s.me.c)∧hf.hh o r 34 (.slice s.en.A s.en.n s.en.c)∧hf.hh o r 35 (.slice s.ex.A s.ex.n s.ex.c)∧hf.hh o r 36 (.slice s.po.A s.po.n s.po.c)∧hf.hh o r 37 (.slice s.du.A s.du.n s.du.c)∧hf.hh o r 38 (.slice s.mo.A s.mo.n s.mo.c)∧hf.hh o r 39 (.slice s.ma.A s.ma.n s.ma.c)∧hf.hh o r 40 (.slice s.ri.A s.ri.n s.ri.c):=⟨fun h=>⟨h.frozen,hf.jX h⟩⟩
theorem j4(s:hA):(prog.info? 46).map (·.size)=some s.cs.size:=by kernel_rfl
theorem ln(s:hA):s.cs.all (·.oneCell')=true:=by kernel_rfl
structure hl where
 us:List Nat
 ms:List Mem
 es:List Int
 xs:List Int
 ds:List h'
 du:List Du
 mo:List hp
 mm:List Nat
 rs:List (List Nat)
structure Lay (s:hA) (c:hl) (w:World) (L:Nat):Prop where
 pu:jk w L s.pu.A s.pu.n c.us
 me:hV w L s.me.A s.me.n 6 (flat Mem.enc c.ms)
 en:jr w L s.en.A s.en.n c.es
 ex:jr w L s.ex.A s.ex.n c.xs
 po:hV w L s.po.A s.po.n 4 (flat h'.enc c.ds)
 du:hV w L s.du.A s.du.n 3 (flat Du.enc c.du)
 mo:hV w L s.mo.A s.mo.n 33 (flat hp.enc c.mo)
 mv:∀m∈c.mo,m.At w L
 ma:hq.ie w L s.ma.A s.ma.n c.mm
 ri:hq.ki w L s.ri.A s.ri.n c.rs
structure hA.Ok (s:hA):Prop where
 pu:s.pu.Ok
 me:s.me.Ok
 en:s.en.Ok
 ex:s.ex.Ok
 po:s.po.Ok
 du:s.du.Ok
 mo:s.mo.Ok
 ma:s.ma.Ok
 ri:s.ri.Ok
theorem Lay.below{s:hA}{c:hl}{w':World}(h:Lay s c w L)(o:Below L w w'):Lay s c w' L:=
 ⟨⟨h.pu.1,h.pu.2.1,h.pu.2.2.below o⟩,h.me.below o,h.en.below o,h.ex.below o,h.po.below o,h.du.below o,h.mo.below o,fun m r=>(h.mv m r).below o,h.ma.below o,h.ri.below o⟩
theorem Lay.more{s:hA}{c:hl}(h:Lay s c w L)(o:L≤n):Lay s c w n:=
 ⟨⟨h.pu.1,h.pu.2.1,h.pu.2.2.more o⟩,h.me.more o,h.en.more o,h.ex.more o,h.po.more o,h.du.more o,h.mo.more o,fun m r=>(h.mv m r).more o,h.ma.more o,h.ri.more o⟩
theorem Dj(s:Sl)(o:List Int)(x:Int)(E:s.Ok)(h:jr w L s.A s.n o):
 Calls prog 255 #[s.v,int i64 x] w fun e w'=>e= .returned (int i64 (Lib.idxOf o x))∧w'=w:=by
 obtain⟨A,n,c⟩:=s;obtain⟨rfl,F⟩:=h;rcases E with⟨r,D,z⟩|⟨g,r,D,z⟩
 ·simp only at r D z
  obtain rfl:o=[]:=List.eq_nil_of_length_eq_zero D;subst r z;exact Tryz.slices_Index_int_empty none 0 x w
 simp only at r D z;subst r;have:=Tryz.slices_Index_int g 0 o.length c o x w hj (by unfold maxLen at z;omega) (fun j G=>by
  obtain⟨J,e,_,I⟩:=F j G;cases e;have:(⟨g,0,none⟩:Addr).add j=⟨g,0+j,none⟩:=by rw[hG.k1,Nat.zero_add]
  rw[←this];exact I)
 rw[List.take_length]at this;exact this
theorem xV(x:Int):∀(o:List Int) (i:Nat),(0≤Lib.idxFrom o x i↔x∈o)
 |[],i=>by simp[Lib.idxFrom]
 |z::o,i=>by
  have r:=xV x o (i+1);unfold Lib.idxFrom;by_cases h:z=x
  ·simp[h]
  rw[if_neg (by simpa using h),r];simp[Ne.symm h]
theorem Dk(s:Sl)(o:List Int)(x:Int)(r:s.Ok)(h:jr w L s.A s.n o)(b:Bool)(z:b=decide (x∈o)):
 Calls prog 219 #[s.v,int i64 x] w fun e w'=>e= .returned (.bool b)∧w=w':=by
 have H:=g' (Dj s o x r h);have D:b=decide (0≤Lib.idxOf o x):=by rw[z];exact decide_eq_decide.2 (xV x o 0).symm
 generalize Lib.idxOf o x=i at H D;unfold Sl.v at*;clear h r z;subst D;go_enter func219,ntmps219;go_wp2_with fail;refine H.mono ?_;rintro e w' ⟨rfl,rfl⟩;go_wp2;go_ret;exact⟨rfl,rfl⟩
def kW(b:Sl)(e o:Int):Array Value:= #[.slice b.A b.n b.c,int i64 e,int i64 o]
instance{b:Sl}{e at_:Int}:hf.jP (kW b e at_) fun o r=>(∀j,o.frozen? ⟨r,j,none⟩=false)∧hf.hh o r 0 (.slice b.A b.n b.c)∧hf.hh o r 1 (int i64 e)∧hf.hh o r 2 (int i64 at_):=⟨fun h=>⟨h.frozen,hf.jX h⟩⟩
structure j7 (w:World) (L g:Nat) (b:Sl) (bs:List Nat) (e at_:Int):Prop where
 h2:ha w g 263 (kW b e at_)
 row:hq.ie w L b.A b.n bs
 low:L≤g
 len:b.n≤1000000
 pos:0≤at_∧at_≤b.n
 ok:b.Ok
theorem qB(b:Sl)(e o:Int)(g:Nat)(w:World)(h:ha w g 263 (kW b e o))(x:Bool)(z:x=(e==0)):
 Calls prog 201 #[.pointer (some ⟨g,0,none⟩)] w fun r w'=>r= .returned (.bool x)∧w=w':=by
 have A:=h.all;clear h;go_enter func201,ntmps201;go_wp2;go_ret;exact⟨by rw[z];rfl,rfl⟩
theorem xW(b:Sl)(e o y:Int)(g:Nat)(w:World)(h:ha w g 263 (kW b e o)):
 Calls prog 203 #[.pointer (some ⟨g,0,none⟩),int i64 y] w fun r w'=>r= .returned (.tuple #[])∧ha w' g 263 (kW b (if e=0 then y else e) o)∧hn g w w':=by
 have E:=h.all;have F:=h.frozen 1;have z:=h.set 1 (int i64 y);by_cases k:e=0
 ·have D:=jU k
  rw[if_pos k];have A:=g' (show ha (w.setCell ⟨g,1,none⟩ (int i64 y)) g 263 (kW b y o)from z);clear z h k;go_enter func203,ntmps203;go_wp2;go_end0;exact⟨rfl,A,(hn.refl g w).setCell (p:=⟨g,1,none⟩) (.inl rfl) _⟩
 have D:=iM k;rw[if_neg k];have A:=g' h;clear z h k;go_enter func203,ntmps203;go_wp2;go_end0;exact⟨rfl,A,hn.refl _ _⟩
theorem oD(b:Sl)(e o:Int)(g:Nat)(w:World)(h:ha w g 263 (kW b e o)):
 Calls prog 135 #[.pointer (some ⟨g,0,none⟩)] w fun r w'=>r= .returned (int i64 e)∧w=w':=by
 have z:=h.all;clear h;go_enter func135,ntmps135;go_wp2;go_ret;exact⟨rfl,rfl⟩
theorem Dl(x i:Nat):∃m:Nat,m<18446744073709551616∧u64.wrap ((x:Int)*2^i)=(m:Int):=by
 refine⟨x*2^i%18446744073709551616,Nat.mod_lt _ (by omega),?_⟩;have e:(x:Int)*2^i=((x*2^i:Nat):Int):=by push_cast;rfl
 rw[e];show((x*2^i:Nat):Int)%18446744073709551616=_;omega
theorem Dm(a b:Nat)(o:a<18446744073709551616)(r:b<18446744073709551616):∃m:Nat,m<18446744073709551616∧bits BinOp.or IntKind.u64 (a:Int) (b:Int)=(m:Int):=by
 refine⟨a|||b,?_,bits_or_u64_nat a b o r⟩;have:a|||b<2^64:=Nat.or_lt_two_pow (by omega) (by omega);omega
theorem Dn(z:Int):∃y:Nat,y<18446744073709551616∧u64.wrap z=(y:Int):=by
 refine⟨(z%18446744073709551616).toNat,by omega,?_⟩;show z%18446744073709551616=_;omega
theorem Dp(L g:Nat)(b:Sl)(bs:List Nat)(e o:Int)(w:World)(h:j7 w L g b bs e o):
 Calls prog 202 #[.pointer (some ⟨g,0,none⟩),int i64 o] w fun r w'=>∃(n:Nat) (next z:Int),n<18446744073709551616∧(z=0∧0≤next∧next≤b.n∨z=50∨z=51)∧r= .returned (.tuple #[int u64 n,int i64 next,int i64 z])∧w=w':=by
 obtain⟨X,Y,_,ao,ap,_⟩:=h;obtain⟨o,rfl⟩:∃k:Nat,o=(k:Int):=⟨o.toNat,by omega⟩;have ag:=X.all;have Z:=g' Y;clear X Y;go_enter func202,ntmps202;go_wp2;go_loopw [4,7] (fun ah R wr=>∃m k:Nat,ah=int u64 m∧R=int i64 k∧m<18446744073709551616∧k≤9∧wr=w) (fun _ R _=>10-(intOf R).toNat)
 case atStart=>exact⟨0,0,rfl,rfl,by omega,by omega,rfl⟩
 case round=>
  obtain⟨m,k,rfl,rfl,ai,aq,rfl⟩:=hrel;have ar:i64.wrap ((o:Int)+(k:Int))=((o+k:Nat):Int):=(IntWalk.i64_in _ (by omega)).trans (by omega);by_cases aa:b.n≤o+k
  ·have aj:=hZ aa
   go_wp2;go_ret3;exact⟨0,0,50,by omega,.inr (.inl rfl),rfl,rfl⟩
  have aj:=h1 aa;have ak:o+k<b.n:=by omega
  obtain⟨al,am,_,ab⟩:=Z.2.2 (o+k) ak;obtain⟨x,S⟩:=hk (jQ.iA bs (o+k));have au:wr.cell? (al.add (o+k))=some (int .u8 x):=by rw[S];exact ab
  have av:x<256:=by rw[S];exact jQ.ko.iA Z.2.1 _
  clear ab S;rw[am]at ag;obtain⟨T,U⟩:=hk (decide (k=9));obtain⟨G,I⟩:=hk (decide (1<x));obtain⟨J,V⟩:=hk (decide (x=0));obtain⟨K,W⟩:=hk (decide (0<k));obtain⟨F,O⟩:=hk (decide (x<128));have aw:((k:Int)==9)=T:=by rw[U];by_cases h:k=9<;>simp[h]<;>omega
  have ax:decide ((1:Int)<(x:Int))=G:=by rw[I];by_cases h:1<x<;>simp[h]<;>omega
  have ay:decide (1<x)=G:=I.symm;have az:((x:Int)==0)=J:=by rw[V];by_cases h:x=0<;>simp[h]
  have aA:decide (x=0)=J:=V.symm;have aB:decide (0<(k:Int))=K:=by rw[W];by_cases h:0<k<;>simp[h]<;>omega
  have aC:decide (0<k)=K:=W.symm;have aD:decide ((x:Int)<128)=F:=by rw[O];by_cases h:x<128<;>simp[h]<;>omega
  have aE:decide (x<128)=F:=O.symm;have Q:=g' (show T=decide (k=9)∧G=decide (1<x)∧F=decide (x<128)from⟨U,I,O⟩);clear U I V W O;obtain⟨y,_,ac⟩:=Dn (bits BinOp.and IntKind.u8 (x:Int) 127);obtain⟨an,ad,ae⟩:=Dl y (7*k);obtain⟨A,E,af⟩:=Dm m an ai ad;have aF:bits BinOp.or IntKind.u64 (m:Int) (u64.wrap (u64.wrap (bits BinOp.and IntKind.u8 (x:Int) 127)*2^(7*k)))=(A:Int):=by rw[ac,ae,af]
  clear ac ae af ad;cases T
  ·cases J
   ·go_wp2
    ·go_ret3
     exact⟨A,(o:Int)+k+1,0,E,.inl ⟨rfl,by omega,by omega⟩,by first|rfl|(go_num;rfl),rfl⟩
    refine⟨⟨A,k+1,rfl,by go_num,E,?_,by trivial⟩,by simp[intOf];omega⟩;have D:=Q.out;simp at D;omega
   cases K
   ·go_wp2
    ·go_ret3
     exact⟨A,(o:Int)+k+1,0,E,.inl ⟨rfl,by omega,by omega⟩,by first|rfl|(go_num;rfl),rfl⟩
    refine⟨⟨A,k+1,rfl,by go_num,E,?_,by trivial⟩,by simp[intOf];omega⟩;have D:=Q.out;simp at D;omega
   go_wp2;go_ret3;exact⟨0,0,51,by omega,.inr (.inr rfl),rfl,rfl⟩
  cases G
  ·cases J
   ·cases F
    ·exfalso
     have D:=Q.out;simp at D;omega
    go_wp2;go_ret3;exact⟨A,(o:Int)+k+1,0,E,.inl ⟨rfl,by omega,by omega⟩,by first|rfl|(go_num;rfl),rfl⟩
   cases K
   ·cases F
    ·exfalso
     have D:=Q.out;simp at D;omega
    go_wp2;go_ret3;exact⟨A,(o:Int)+k+1,0,E,.inl ⟨rfl,by omega,by omega⟩,by first|rfl|(go_num;rfl),rfl⟩
   go_wp2;go_ret3;exact⟨0,0,51,by omega,.inr (.inr rfl),rfl,rfl⟩
  go_wp2;go_ret3;exact⟨0,0,51,by omega,.inr (.inr rfl),rfl,rfl⟩
theorem xX{w':World}{bs:List Nat}(h:hq.ie w L A n bs)(o:hn g w w')(F:L≤g)(G:g<w.heap.size):hq.ie w' L A n bs:=
 ⟨h.1,h.2.1,fun j r=>by
   obtain⟨z,e,D,E⟩:=h.2.2 j r;refine⟨z,e,D,(o.cell ?_ ?_).trans E⟩
   ·rw[block_add];omega
   rw[block_add];omega⟩
theorem j7.hT{w':World}{b:Sl}{bs:List Nat}{e o:Int}(h:j7 w L g b bs e E)(r:hn g w w')(A:ha w' g 263 (kW b z o))(D:0≤o∧o≤b.n):j7 w' L g b bs z o:=
 ⟨A,xX h.row r h.low h.h2.lt,h.low,h.len,D,h.ok⟩
def Left(w w':World)(L g:Nat)(b:Sl)(bs:List Nat):Prop:=∃o r:Int,j7 w' L g b bs o r∧hn g w w'
theorem oE(L g:Nat)(b:Sl)(bs:List Nat)(e E:Int)(G:Nat)(w:World)(h:j7 w L g b bs e E):
 Calls prog 200 #[.pointer (some ⟨g,0,none⟩),.int .u64 G] w fun r w'=>∃x:Nat,x≤G∧r= .returned (.int .u64 x)∧Left w w' L g b bs:=by
 obtain⟨x,O⟩:=hk (e==0);obtain⟨Q,H,U,I⟩:=h5 (qB b e E g w h.h2 x O) h (Dp L g b bs e E w h) (fun y=>xW b e E y g w h.h2);have Y:=h.h2.all;have Z:=h.h2.frozen 2;clear h O;cases x
 ·go_enter func200,ntmps200
  go_wp2_with fail;refine Q.mono ?_;rintro r w' ⟨rfl,rfl⟩;go_wp2;go_ret;exact⟨0,h6,rfl,e,E,H,hn.refl _ _⟩
 go_enter func200,ntmps200;go_wp2_with fail;refine Q.mono ?_;rintro r w' ⟨rfl,rfl⟩;go_wp2_with fail;refine U.mono ?_;rintro r w' ⟨n,J,z,aa,V,rfl,rfl⟩;rcases V with⟨rfl,R,S⟩|rfl|rfl
 ·by_cases K:G<n
  ·have W:=hZ K
   go_wp2_with fail;refine(I 51).mono ?_;rintro r T ⟨rfl,A,o⟩;obtain⟨D,F⟩:=hg (H.hT o A H.pos) o;clear A o;go_wp2;go_ret;exact⟨0,h6,rfl,_,_,D,F⟩
  have W:=h1 K;obtain⟨D,X⟩:=hg (H.hT (w':=w.setCell ⟨g,2,none⟩ (.int .i64 J)) ((hn.refl g w).setCell (p:=⟨g,2,none⟩) (.inl rfl) _) (show ha _ g 263 (kW b e J)from H.h2.set 2 (.int .i64 J)) ⟨R,S⟩) (show n≤G by omega);clear K R S;go_wp2;go_ret;exact⟨n,X,rfl,_,_,D,(hn.refl g _).setCell (p:=⟨g,2,none⟩) (.inl rfl) _⟩
 ·go_wp2_with fail
  refine(I 50).mono ?_;rintro r T ⟨rfl,A,o⟩;obtain⟨D,F⟩:=hg (H.hT o A H.pos) o;clear A o;go_wp2;go_ret;exact⟨0,h6,rfl,_,_,D,F⟩
 go_wp2_with fail;refine(I 51).mono ?_;rintro r T ⟨rfl,A,o⟩;obtain⟨D,F⟩:=hg (H.hT o A H.pos) o;clear A o;go_wp2;go_ret;exact⟨0,h6,rfl,_,_,D,F⟩
theorem oF(L g:Nat)(b:Sl)(bs:List Nat)(e A:Int)(o:Int)(I:0≤o∧o≤9223372036854775807)(w:World)(h:j7 w L g b bs e A):
 Calls prog 134 #[.pointer (some ⟨g,0,none⟩),.int .i64 o] w fun r w'=>∃x:Int,(0≤x∧x≤o)∧r= .returned (.int .i64 x)∧Left w w' L g b bs:=by
 obtain⟨n,z⟩:∃n:Nat,n=o.toNat:=⟨_,rfl⟩;have H:=g' (oE L g b bs e A n w h);have J:IntKind.u64.wrap o=(n:Int):=(IntWalk.u64_in _ (by omega)).trans (by omega);have D:=g' z;clear h z;go_enter func134,ntmps134;go_wp2_with fail;refine H.mono ?_;rintro r w' ⟨x,E,rfl,F⟩;have z:=D.out;have K:IntKind.i64.wrap (x:Int)=(x:Int):=IntWalk.i64_in _ (by omega);have G:=g' (show 0≤(x:Int)∧(x:Int)≤o from⟨by omega,by omega⟩);clear E z;go_wp2;go_ret;exact⟨x,G,rfl,F⟩
theorem Dq(L g:Nat)(b:Sl)(bs:List Nat)(e o:Int)(w:World)(h:j7 w L g b bs e o):
 Calls prog 244 #[.pointer (some ⟨g,0,none⟩)] w fun r w'=>∃x:Bool,r= .returned (.bool x)∧Left w w' L g b bs:=by
 have H:=g' (oE L g b bs e o 1 w h);clear h;go_enter func244,ntmps244;go_wp2_with fail;refine H.mono ?_;rintro r w' ⟨x,z,rfl,A⟩;clear z;go_wp2;go_ret;exact⟨_,rfl,A⟩
theorem Dr(b:Sl)(e D:Int)(g:Nat)(w:World)(h:ha w g 263 (kW b e D)):
 Calls prog 137 #[.pointer (some ⟨g,0,none⟩)] w fun r w'=>∃z:Int,r= .returned (int i64 z)∧Below w.heap.size w w':=by
 obtain⟨x,J⟩:=hk (e==0);obtain⟨I,E⟩:=hg (fun W h=>qB b e D g W h x J) h;clear J h;obtain⟨y,O⟩:=hk (decide (D<(b.n:Int)));have S:decide (D<(b.n:Int))=y:=O.symm;clear O;cases x;focus
  go_enter func137,ntmps137;have Q:=(E).all;go_wp2;refine j8 (fun w'=>ha w' g 263 ((kW b e D))∧Below w.heap.size w w') (by kernel_rfl) (by rintro _ _ (_|_) _ _ h<;>exact h) (⟨(E).drew,hM⟩) fun R o=>?_;refine lQ (by rintro _ _ (_|_) _ _ h<;>exact h) 3 [0,1,2] o (by kernel_rfl) ?_;iterate 3(refine iu rfl rfl (fun w' A=>by try simp only[S3];have F:=(A.1).all;go_simp;try rfl) ?_;try simp only[S4,S3])
  refine il ?_;refine iD 3 rfl (by kernel_rfl) fun K G=>?_;try simp only[S3]
  go_simp;refine hE (I _ o.1) ?_;refine G.out _ _ o (fun o=>?_);try simp only[S4,S3]
  refine lQ (by rintro _ _ (_|_) _ _ h<;>exact h) 14 (i' 4 14 []) o (by kernel_rfl) ?_;iterate 14((first|(refine iu rfl rfl (fun w' A=>by try simp only[S3];have F:=(A.1).all;go_simp;try rfl) ?_)|(refine oe rfl rfl ?_));try simp only[S4,S3])
  refine il ?_
 rotate_left;focus
  cases y;focus
   go_enter func137,ntmps137;have Q:=(E).all;go_wp2;refine j8 (fun w'=>ha w' g 263 ((kW b e D))∧Below w.heap.size w w') (by kernel_rfl) (by rintro _ _ (_|_) _ _ h<;>exact h) (⟨(E).drew,hM⟩) fun R o=>?_;refine lQ (by rintro _ _ (_|_) _ _ h<;>exact h) 3 [0,1,2] o (by kernel_rfl) ?_;iterate 3(refine iu rfl rfl (fun w' A=>by try simp only[S3];have F:=(A.1).all;go_simp;try rfl) ?_;try simp only[S4,S3])
   refine il ?_;refine iD 3 rfl (by kernel_rfl) fun K G=>?_;try simp only[S3]
   go_simp;refine hE (I _ o.1) ?_;refine G.out _ _ o (fun o=>?_);try simp only[S4,S3]
   refine lQ (by rintro _ _ (_|_) _ _ h<;>exact h) 14 (i' 4 14 []) o (by kernel_rfl) ?_;iterate 14(refine iu rfl rfl (fun w' A=>by try simp only[S3];have F:=(A.1).all;go_simp;try rfl) ?_;try simp only[S4,S3])
   refine il ?_
  rotate_left;focus
   go_enter func137,ntmps137;have Q:=(E).all;go_wp2;refine j8 (fun w'=>ha w' g 263 ((kW b e D))∧Below w.heap.size w w') (by kernel_rfl) (by rintro _ _ (_|_) _ _ h<;>exact h) (⟨(E).drew,hM⟩) fun R o=>?_;refine lQ (by rintro _ _ (_|_) _ _ h<;>exact h) 3 [0,1,2] o (by kernel_rfl) ?_;iterate 3(refine iu rfl rfl (fun w' A=>by try simp only[S3];have F:=(A.1).all;go_simp;try rfl) ?_;try simp only[S4,S3])
   refine il ?_;refine iD 3 rfl (by kernel_rfl) fun K G=>?_;try simp only[S3]
   go_simp;refine hE (I _ o.1) ?_;refine G.out _ _ o (fun o=>?_);try simp only[S4,S3]
   refine lQ (by rintro _ _ (_|_) _ _ h<;>exact h) 14 (i' 4 14 []) o (by kernel_rfl) ?_;iterate 14(refine iu rfl rfl (fun w' A=>by try simp only[S3];have F:=(A.1).all;go_simp;try rfl) ?_;try simp only[S4,S3])
   refine il ?_
 all_goals
  try simp only[S4,S3]
  clear o;refine wpAnyH_done (by kernel_rfl) ?_ _;go_wp2;go_ret;exact⟨_,rfl,hM⟩
theorem xY:(prog.info? 5).map (fun i=>(i.zero,i.size,i.bytes))=some (some (int .u8 0),1,1):=by kernel_rfl
theorem xZ(bs:List Nat):∀u∈bs.map hq.jq,u.oneCell'=true:=fun u o=>by
 obtain⟨b,_,rfl⟩:=List.mem_map.1 o;rfl
theorem Ds(A:Option Addr)(n c:Nat)(bs:List Nat)(w:World)(h:hq.ie w w.heap.size A n bs)(z:n≤1000000):
 Calls prog 133 #[.slice A n c] w fun r w'=>∃(g L:Nat) (b:Sl),r= .returned (.pointer (some ⟨g,0,none⟩))∧w.heap.size≤g∧b.n=n∧j7 w' L g b bs 0 0∧Below w.heap.size w w':=by
 obtain⟨R,S,T,U,V⟩:=info_parts xY;have D:=(lK.1 h).1;have W:=g' (lK.1 h).2;clear h;go_enter func133,ntmps133;go_wp2_with (at_builtin;refine mK _ rfl _ _ 36 rfl w.heap.size 5 R (int .u8 0) 1 1 lF S T U V rfl (by decide) _ _ _ rfl (World.ownsRow_nil _ _ _ _) A n c _ rfl D (xZ bs) ?_ ?_ hj ?_)
 ·unfold maxLen;omega
 ·omega
 intro v o E F;have G:o.ownsRow w.heap.size 5 1 v n (bs.map hq.jq):=by simpa using E
 have I:Below w.heap.size w o:=hz.grown F hj (fun k X=>by cases X);obtain⟨b,Y,J,K,_,O⟩:=jZ G;obtain rfl:v= .slice b.A b.n b.c:=Y;have Z:=g' (show hq.ie o o.heap.size b.A b.n bs from lK.2 ⟨O,W⟩);obtain⟨aa,ab⟩:=hg J K;have Q:=I.size;clear E F G O D K J;go_wp2_with (first|(refine wpList_build rfl 261 #[(0,.tmp 4)] rfl (.agg #[.slice b.A b.n b.c,int i64 0]) (fun w'=>by kernel_rfl) ?_)|(refine wpList_build rfl 263 #[(0,.tmp 5)] rfl (.agg #[.slice b.A b.n b.c,int i64 0,int i64 0]) (fun w'=>by kernel_rfl) ?_));go_ret;have z:=aa.out;exact⟨o.heap.size,o.heap.size,b,rfl,Q,z,⟨ha.new o _ _ _ rfl,Z.below (hz.alloc hj _),hj,by omega,⟨by omega,by omega⟩,ab⟩,I.alloc Q _⟩
end hB
end Go.Proofs.YtffbipddbnkdjaaGreat
