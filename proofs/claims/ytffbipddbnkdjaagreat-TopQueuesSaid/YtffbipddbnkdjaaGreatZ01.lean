/- What functions compute at any arguments, and plain facts: what a slice reads as, and how it stays over what a call does; a block that is known whole, its loads, stores and results and others. Conditions: those that each theorem names. -/
import Derived.Test.YtffbipddbnkdjaaGreatZ00
import Derived.BigFrame
import Derived.BigQuiet
import Derived.Deep.AppendLies
import Derived.Deep.DeepCutAuto
import Derived.Deep.Draws
import Derived.Deep.MidRow
import Derived.Deep.QuietTactic
import Derived.Deep.RegionHeld
import Derived.Deep.RegionHeld3
import Derived.IntWalk
import Derived.Laws.Rows
import Derived.Laws.Tables
import Derived.Lib.Hide
import Derived.Maps.AppendAt
import Derived.WalkKit
import Derived.WalkSmall
import Derived.Test.YtffbipddbnkdjaaGreatRows
set_option maxRecDepth 100000
set_option maxHeartbeats 40000000
set_option linter.all false
open Go Go.Proofs.Tryz
open Go.Value(int)
open Go.IntKind(i64 u64)
variable{A T:Option Addr}{n g b L k B i x a m j q c p s r d h u N y:Nat}{E z:Int}{P:Program}{w W X Z:World}{e t:TypeId}{f:Nat→Value}{l:List Bool}{V U:Value}{Y:List Nat}{S:List Value}{R:List Int}{Q:Array Value}{O:List (List Nat)}{M:Bool}{K:Ending}{J:Addr}{I:Nat→Nat}{H:Option Nat}
namespace Go.Proofs.YtffbipddbnkdjaaGreat
namespace hG
open RowKit
theorem block_add(a:Addr)(n:Nat):(a.add n).block=a.block:=by unfold Addr.add;split<;>rfl
theorem add_add(a:Addr)(i j:Nat):(a.add i).add j=a.add (i+j):=by
 unfold Addr.add;by_cases o:i=0<;>by_cases r:j=0<;>simp[o,r,Nat.add_assoc]
theorem add_zero(a:Addr):a.add 0=a:=by simp[Addr.add]
theorem k1(g j:Nat):(⟨g,0,none⟩:Addr).add j=⟨g,j,none⟩:=by
 unfold Addr.add;split
 ·rename_i h;rw[h]
 simp
def Rd(w:World)(B:Nat)(A:Option Addr)(n:Nat)(f:Nat→Value):Prop:=
 ∀j,j<n→∃o,A=some o∧o.block<B∧w.cell? (o.add j)=some (f j)
theorem Rd.nil{w:World}:Rd w B A 0 f:=fun j o=>absurd o (by omega)
theorem Rd.below{w w':World}(h:Rd w B A n f)(r:Below B w w'):Rd w' B A n f:=fun j z=>by
 obtain⟨D,e,o,E⟩:=h j z;exact⟨D,e,o,(r.cell (by rw[block_add];exact o)).trans E⟩
theorem Rd.more{w:World}{B':Nat}(h:Rd w B A n f)(D:B≤B'):Rd w B' A n f:=fun j o=>by
 obtain⟨r,e,E,z⟩:=h j o;exact⟨r,e,by omega,z⟩
theorem Rd.to{w w':World}(h:Rd w w.heap.size A n f)(o:Below w.heap.size w w'):Rd w' w'.heap.size A n f:=(h.below o).more o.size
theorem Rd.take{w:World}(h:Rd w B A n f)(o:m≤n):Rd w B A m f:=fun j r=>h j (by omega)
theorem Rd.congr{w:World}{g:Nat→Value}(h:Rd w B A n f)(r:∀j,j<n→f j=g j):Rd w B A n g:=fun j o=>by
 rw[←r j o];exact h j o
theorem Rd.set{w:World}(h:Rd w B A n f){p:Addr}(r:∀o,A=some o→o.block≠p.block)(u:Value):Rd (w.setCell p u) B A n f:=fun j z=>by
 obtain⟨o,e,D,E⟩:=h j z;exact⟨o,e,D,(World.cell?_setCell_other _ _ _ _ (fun F=>r o e (by rw[F,block_add]))).trans E⟩
theorem Rd.own{w:World}{v:Value}{xs:List Value}(h:w.ownsRow b e 1 v n xs)(z:∀j,j<n→xs[j]?=some (f j)):
 ∃A c,v= .slice A n c∧n≤c∧c≤maxLen∧(∀o,A=some o→b≤o.block)∧Rd w w.heap.size A n f:=by
 have D:=fun g E=>World.ownsRow.cells h (g:=g) E;have r:=h.lt;rcases h.2 with⟨rfl,rfl⟩|⟨g,cap,cur,rfl,_,_,F,G,_⟩
 ·exact⟨none,0,rfl,by omega,by unfold maxLen;omega,fun o h=>(by cases h),Rd.nil⟩
 refine⟨some ⟨g,0,none⟩,cap,rfl,F,G,fun o h=>?_,fun j I=>⟨⟨g,0,none⟩,rfl,(r g rfl).2,D g rfl j _ (z j I)⟩⟩;injection h with h;subst h;exact(r g rfl).1
theorem jt(o:Below B W X){p:Addr}{v:Value}(r:p.block<B)(h:W.cell? p=some v):X.cell? p=some v:=(o.cell r).trans h
theorem sb{P:Program}{f:FuncId}{w:World}{v:Value}
 (h:Calls P f Q (w.drewN n) fun e w'=>e= .returned v∧w.drewN n=w'):Calls P f Q (w.drewN n) fun e o=>e= .returned v∧∃m,o=w.drewN m:=
 h.mono fun _ _ ⟨r,z⟩=>⟨r,n,z.symm⟩
theorem nM{P:Program}{f:FuncId}{w:World}{v:Value}
 (h:Calls P f Q (w.drewN (a+n)) fun e w'=>e= .returned v∧w.drewN (a+n)=w'):
 Calls P f Q (w.drewN (a+n)) fun e o=>e= .returned v∧∃m,o=w.drewN (a+m):=
 h.mono fun _ _ ⟨r,z⟩=>⟨r,n,z.symm⟩
theorem nt{wr:World}{v:Value}{xs:List Value}{o:Obj}(r:Below W.heap.size W wr)(z:wr.ownsRow W.heap.size e g v n xs)
 (A:(wr.alloc o).grownBy X v.ownBlock):Below W.heap.size W X:=
 (r.alloc r.size o).grown A (by have:=r.size;simp;omega) (fun j D=>(z.lt j D).1)
section
variable {P:Program} (w:World)
theorem zv(r:Nat)(t K e:TypeId)(i:TypeInfo)(z:Value)(E:Nat)(F:P.underlying t=some (.slice e))(G:P.info? e=some i)(R:i.zero=some z)
 (S:i.size=1) (T:i.bytes=E) (U:z.cells.size=1) (v:Value) (n:Nat) (xs:List Value) (I:w.ownsRow r e 1 v n xs)
 (A:Option Addr) (m c:Nat) (f:Nat→Value) (O:Rd w w.heap.size A m f) (V:∀j,(f j).oneCell'=true)
 (W:n+m≤maxLen) (X:(n+m)*E≤140737488355328) (Y:r≤w.heap.size):
 ∃D w',(Builtin.append_ #[t,t] K #[v,.slice A m c]).run P w= .ok D w'∧w'.ownsRow r e 1 D (n+m) (xs++(List.range m).map f)∧w.grownBy w' v.ownBlock:=by
 cases A with
 |none=>
  obtain rfl:m=0:=by
   rcases Nat.eq_zero_or_pos m with h|h
   ·exact h
   obtain⟨_,Z,_⟩:=O 0 h;cases Z
  refine⟨v,w,?_,by simpa using I,World.grownBy.refl w _⟩;rcases I.2 with⟨rfl,rfl⟩|⟨g,cap,cur,rfl,_,_,aa,_⟩
  ·simp[Builtin.append_,run_underlying F,sizeOf,typeInfo,G,Builtin.lenOf,Builtin.firstCells]
  simp[Builtin.append_,run_underlying F,sizeOf,typeInfo,G,Builtin.lenOf,Builtin.firstCells,aa,storeCells]
 |some ab=>
  obtain⟨D,w',ac,ad,ae,_⟩:=run_append_own_at (P:=P) w r t K e i z 1 E F G R S T U (by omega) v n xs I ab m c ((List.range m).map f) (by simp)
   (fun j u o=>by
     rw[List.getElem?_map]at o;by_cases Q:j<m
     ·rw[List.getElem?_range Q]at o
      simp only[Option.map_some,Option.some.injEq]at o;obtain⟨ag,J,_,af⟩:=O j Q;injection J with J;rw[J,←o];exact af
     rw[List.getElem?_eq_none (by simp;omega)]at o;cases o)
   (fun u o=>by
     rw[List.mem_map]at o;obtain⟨j,_,rfl⟩:=o;exact V j) W X Y
  exact⟨D,w',ac,ad,ae⟩
theorem pI{F:Array Oper}{G:List Oper}{o:Oper}{a:Act}{Q:Exit→Act→World→Prop}(I:o.guard=none)(s x:Operand)(t:TypeId)
 (J:o.op= .call {callee:= .builtin .append,args:= #[s,x],argTypes:= #[t,t]})
 (r:Nat) (e:TypeId) (i:TypeInfo) (z:Value) (E:Nat) (O:P.underlying t=some (.slice e)) (R:P.info? e=some i) (S:i.zero=some z)
 (T:i.size=1) (U:i.bytes=E) (V:z.cells.size=1) (v:Value) (n:Nat) (xs:List Value) (W:a.eval s=v) (X:w.ownsRow r e 1 v n xs)
 (A:Option Addr) (m c:Nat) (f:Nat→Value) (Y:a.eval x= .slice A m c) (Z:Rd w w.heap.size A m f) (aa:∀j,(f j).oneCell'=true)
 (ab:n+m≤maxLen) (ac:(n+m)*E≤140737488355328) (ad:r≤w.heap.size)
 (h:∀D w',w'.ownsRow r e 1 D (n+m) (xs++(List.range m).map f)→w.grownBy w' v.ownBlock→wpList P F Q G (a.put o.dst D) w'):wpList P F Q (o::G) a w:=by
 obtain⟨D,w',ae,af,ag⟩:=zv (P:=P) w r t o.type e i z E O R S T U V v n xs X A m c f Z aa ab ac ad;refine wpList_plain I fun K ah=>?_;unfold Oper.wp;simp[execOp,J,resolve,invoke,builtin,W,Y,ae,Result.andThen];exact ah _ _ (h D w' af ag)
end
end hG
namespace hf
open RowKit
open hG
def ha(w:World)(g:Nat)(t:TypeId)(o:Array Value):Prop:=w.heap[g]?=some (.cells o t (0,0))
theorem ha.lt(h:ha w g t Q):g<w.heap.size:=(Array.getElem?_eq_some_iff.1 h).1
theorem ha.cell(h:ha w g t Q){v:Value}(o:Q[j]?=some v):w.cell? ⟨g,j,none⟩=some v:=(cell_of_row w g j Q t (0,0) h).trans o
theorem ha.frozen(h:ha w g t Q)(j:Nat):w.frozen? ⟨g,j,none⟩=false:=frozen_of_row w g j Q t h
theorem ha.below{w':World}(h:ha w g t Q)(o:Below B w w')(r:g<B):ha w' g t Q:=(o.block g r).trans h
theorem ha.to{w':World}(h:ha w g t Q)(o:Below w.heap.size w w'):ha w' g t Q:=h.below o h.lt
theorem ha.new(w:World)(g:Nat)(t:TypeId)(o:Array Value)(r:g=w.heap.size):ha (w.alloc (.cells o t)) g t o:=by
 subst r;exact heap_alloc_new w _
theorem ha.alloc(h:ha w g t Q)(o:Obj):ha (w.alloc o) g t Q:=(Below.heap_alloc w o g h.lt).trans h
theorem ha.set(h:ha w g t Q)(i:Nat)(v:Value):ha (w.setCell ⟨g,i,none⟩ v) g t (Q.setIfInBounds i v):=heap_setCell_same w g i Q t v h
theorem ha.other(h:ha w g t Q){a:Addr}(o:g≠a.block)(v:Value):ha (w.setCell a v) g t Q:=(heap_setCell_other w a g v o).trans h
theorem ha.row(h:ha w g t Q)(o:Array Value):ha (w.setRow g o) g t o:=setRow_heap w g Q o t (0,0) h
theorem ha.tz(h:ha w g t Q)(r:g≠k)(o:Array Value):ha (w.setRow k o) g t Q:=(setRow_other w k g o r).trans h
theorem ha.drewN(h:ha w g t Q)(q:Nat):ha (w.drewN q) g t Q:=h
theorem ha.drew(h:ha w g t Q):ha w.drew g t Q:=h
theorem ha.grown{w':World}{row:Option Nat}(h:ha w g t Q)(o:w.grownBy w' row)(r:row≠some g):ha w' g t Q:=(o.block g h.lt (fun e=>r e.symm)).trans h
theorem pJ{a:World}(h:Below B a w)(z:B≤g)(o:Array Value):Below B a (w.setRow g o):=
 ⟨h.os,h.tape,h.output,by simpa using h.size,fun k r=>(setRow_other w g k o (by omega)).trans (h.block k r)⟩
structure hn (g:Nat) (w w':World):Prop where
 os:w'.os=w.os
 tape:w'.tape=w.tape
 output:w'.output=w.output
 size:w.heap.size≤w'.heap.size
 block:∀k,k<w.heap.size→k≠g→w'.heap[k]?=w.heap[k]?
theorem hn.refl(g:Nat)(w:World):hn g w w:=⟨rfl,rfl,rfl,hj,fun _ _ _=>rfl⟩
theorem hn.setCell{a:World}(h:hn g a w){p:Addr}(z:p.block=g∨a.heap.size≤p.block)(u:Value):hn g a (w.setCell p u):=
 ⟨h.os,h.tape,h.output,by simpa[World.setCell]using h.size,fun k o r=>(heap_setCell_other w p k u (by omega)).trans (h.block k o r)⟩
theorem hn.cell{w':World}(h:hn g w w'){p:Addr}(o:p.block<w.heap.size)(r:p.block≠g):w'.cell? p=w.cell? p:=World.cell?_of_block (w:=w) (h.block p.block o r)
theorem l8{w':World}(h:Rd w w.heap.size A n f)(r:hn g w w')(D:∀o,A=some o→o.block≠g):Rd w' w'.heap.size A n f:=fun j E=>by
 obtain⟨o,e,z,F⟩:=h j E;exact⟨o,e,Nat.lt_of_lt_of_le z r.size,(r.cell (by rw[block_add];exact z) (by rw[block_add];exact D o e)).trans F⟩
theorem ha.hT{w':World}(h:ha w k t Q)(o:hn g w w')(r:k≠g):ha w' k t Q:=(o.block k h.lt r).trans h
section
variable {P:Program}
theorem pK{A:Array Oper}{D:List Oper}{o:Oper}{a:Act}{w:World}{Q:Exit→Act→World→Prop}(E:o.guard=none)(r:TypeId)(x:Operand)(F:o.op= .load r x)
 (g:Nat) (G:a.eval x= .pointer (some ⟨g,0,none⟩)) (t:TypeId) (z:Array Value) (d:TypeDesc) (I:ha w g t z)
 (J:P.underlying r=some d) (K:(match d with| .struct _| .array _ _=>true|_=>false)=true) (O:(P.info? r).map (·.size)=some z.size)
 (h:wpList P A Q D (a.put o.dst (.agg z)) w):wpList P A Q (o::D) a w:=wpList_load_row E r x F g G t z (0,0) d I J K O h
theorem ob{E:Array Oper}{F:List Oper}{o:Oper}{a:Act}{Q:Exit→Act→World→Prop}(J:o.guard=none)(z:TypeId)(x y:Operand)(K:o.op= .store z x y)
 (g:Nat) (r:Array Value) (O:a.eval x= .pointer (some ⟨g,0,none⟩)) (R:a.eval y= .agg r)
 (t:TypeId) (A:Array Value) (G:ha w g t A) (S:(P.info? z).map (·.size)=some r.size)
 (T:A.size=r.size) (U:r.all (·.oneCell')=true)
 (h:∀w',ha w' g t r→(∀B a,B≤g→Below B a w→Below B a w')→(∀k t' I,k≠g→ha w k t' I→ha w' k t' I)→w.heap.size≤w'.heap.size→wpList P E Q F (a.put o.dst undef) w'):wpList P E Q (o::F) a w:=
 wpList_store_row J z x y K g r O R t A G S T U (h _ (G.row _) (fun _ _ V D=>pJ D V _) (fun _ _ _ W D=>D.tz W _) (by simp))
theorem hn.row(w:World)(g:Nat)(o:Array Value):hn g w (w.setRow g o):=⟨rfl,rfl,rfl,by simp,fun k _ r=>setRow_other w g k o r⟩
theorem iC{a w':World}(h:Below B a w)(o:hn g w w')(z:B≤g)(A:B≤w.heap.size):Below B a w':=
 ⟨o.os.trans h.os,o.tape.trans h.tape,o.output.trans h.output,Nat.le_trans h.size o.size,fun k r=>(o.block k (by omega) (by omega)).trans (h.block k r)⟩
theorem iL{D:Array Oper}{E:List Oper}{o:Oper}{a:Act}{Q:Exit→Act→World→Prop}(G:o.guard=none)(z:TypeId)(x y:Operand)(I:o.op= .store z x y)
 (g:Nat) (r:Array Value) (J:a.eval x= .pointer (some ⟨g,0,none⟩)) (K:a.eval y= .agg r)
 (t:TypeId) (A:Array Value) (F:ha w g t A) (O:(P.info? z).map (·.size)=some r.size)
 (R:A.size=r.size) (S:r.all (·.oneCell')=true)
 (h:∀w',ha w' g t r→hn g w w'→wpList P D Q E (a.put o.dst undef) w'):wpList P D Q (o::E) a w:=
 wpList_store_row G z x y I g r J K t A F O R S (h _ (F.row _) (hn.row w g r))
theorem zw{A:Array Oper}{D:List Oper}{o:Oper}{a:Act}{w:World}{Q:Exit→Act→World→Prop}(E:Region.wanted o (yielded A a.tmps)=true)(r:TypeId)(x:Operand)(F:o.op= .load r x)
 (g:Nat) (G:a.eval x= .pointer (some ⟨g,0,none⟩)) (t:TypeId) (z:Array Value) (d:TypeDesc) (I:ha w g t z)
 (J:P.underlying r=some d) (K:(match d with| .struct _| .array _ _=>true|_=>false)=true) (O:(P.info? r).map (·.size)=some z.size)
 (h:wpList P A Q D (a.put o.dst (.agg z)) w):wpList P A Q (o::D) a w:=
 BigFrame.wpList_want E fun _ R=>wp_load_row r x F g G t z (0,0) d I J K O (R _ _ h)
theorem jD{D:Array Oper}{E:List Oper}{o:Oper}{a:Act}{z:Array Value}{Q:Exit→Act→World→Prop}(F:o.guard=none)(A:TypeId)(x y:Operand)(G:o.op= .store A x y)
 (r:Array Value) (I:a.eval x= .pointer (some ⟨W.heap.size,0,none⟩)) (J:a.eval y= .agg r)
 (K:(P.info? A).map (·.size)=some r.size) (O:z.size=r.size) (R:r.all (·.oneCell')=true)
 (h:∀w',ha w' W.heap.size t r→Below W.heap.size W w'→W.heap.size<w'.heap.size→wpList P D Q E (a.put o.dst undef) w'):wpList P D Q (o::E) a (W.alloc (.cells z t)):=
 wpList_store_row F A x y G W.heap.size r I J t z (heap_alloc_new W _) K O R
  (h _ ((ha.new W _ t z rfl).row _) (pJ (hz.alloc hj _) hj _) (by simp))
theorem l9{A:Func}{p:Tmp}{r:TypeId}(h:A.results= #[.cell p r])(z:Array Value)(w:World)(g:Nat)(t:TypeId)(o:Array Value)(d:TypeDesc)
 (D:z.getD p undef= .pointer (some ⟨g,0,none⟩)) (E:ha w g t o)
 (F:P.underlying r=some d) (G:(match d with| .struct _| .array _ _=>true|_=>false)=true) (I:(P.info? r).map (·.size)=some o.size):
 (results A z).run P w= .ok (.agg o) w:=results_cell_row h z w g t o (0,0) d D E F G I
theorem jy{A:Func}{p q:Tmp}{r:TypeId}(h:A.results= #[.cell p r,.tmp q])(o:Array Value)(w:World)(g:Nat)(t:TypeId)(z:Array Value)(d:TypeDesc)(v:Value)
 (D:o.getD p undef= .pointer (some ⟨g,0,none⟩)) (E:o.getD q undef=v) (F:ha w g t z)
 (G:P.underlying r=some d) (I:(match d with| .struct _| .array _ _=>true|_=>false)=true) (J:(P.info? r).map (·.size)=some z.size):
 (results A o).run P w= .ok (.tuple #[.agg z,v]) w:=by
 have K:o[p]?.getD undef= .pointer (some ⟨g,0,none⟩):=by simpa using D
 have O:o[q]?.getD undef=v:=by simpa using E
 simp[results,h,K,O,asAddr,run_loadVar_row w g t r z (0,0) d F G I J]
theorem oc{D:Func}{p q r:Tmp}{z:TypeId}(h:D.results= #[.cell p z,.tmp q,.tmp r])(o:Array Value)(w:World)(g:Nat)(t:TypeId)(A:Array Value)(d:TypeDesc)(v u:Value)
 (E:o.getD p undef= .pointer (some ⟨g,0,none⟩)) (F:o.getD q undef=v) (G:o.getD r undef=u) (I:ha w g t A)
 (J:P.underlying z=some d) (K:(match d with| .struct _| .array _ _=>true|_=>false)=true) (O:(P.info? z).map (·.size)=some A.size):
 (results D o).run P w= .ok (.tuple #[.agg A,v,u]) w:=by
 have Q:o[p]?.getD undef= .pointer (some ⟨g,0,none⟩):=by simpa using E
 have R:o[q]?.getD undef=v:=by simpa using F
 have S:o[r]?.getD undef=u:=by simpa using G
 simp[results,h,Q,R,S,asAddr,run_loadVar_row w g t z A (0,0) d I J K O]
theorem tA{G:Func}{p q r:Tmp}{z A:TypeId}(h:G.results= #[.cell p z,.cell q A,.tmp r])(o:Array Value)(w:World)(g D:Nat)(t t':TypeId)(E F:Array Value)(d d':TypeDesc)(u:Value)
 (I:o.getD p undef= .pointer (some ⟨g,0,none⟩)) (J:o.getD q undef= .pointer (some ⟨D,0,none⟩)) (K:o.getD r undef=u) (O:ha w g t E) (Q:ha w D t' F)
 (R:P.underlying z=some d) (S:(match d with| .struct _| .array _ _=>true|_=>false)=true) (T:(P.info? z).map (·.size)=some E.size)
 (U:P.underlying A=some d') (V:(match d' with| .struct _| .array _ _=>true|_=>false)=true) (W:(P.info? A).map (·.size)=some F.size):
 (results G o).run P w= .ok (.tuple #[.agg E,.agg F,u]) w:=by
 have X:o[p]?.getD undef= .pointer (some ⟨g,0,none⟩):=by simpa using I
 have Y:o[q]?.getD undef= .pointer (some ⟨D,0,none⟩):=by simpa using J
 have Z:o[r]?.getD undef=u:=by simpa using K
 simp[results,h,X,Y,Z,asAddr,run_loadVar_row w g t z E (0,0) d O R S T,run_loadVar_row w D t' A F (0,0) d' Q U V W]
end
end hf
theorem S3{α:Type}:(∀(l:List α) (i:Nat) (h:i<l.toArray.size),l.toArray[i]=l[i]'(by simpa using h))∧(∀(a:α) (l:List α) (h:0<(a::l).length),(a::l)[0]=a)∧(∀(a:α) (l:List α) (i:Nat) (h:i+1<(a::l).length),(a::l)[i+1]=l[i]'(by simpa using h)):=
 ⟨fun _ _ _=>List.getElem_toArray _,fun _ _ _=>rfl,fun _ _ _ _=>rfl⟩
theorem S4:(∀(a:Act) (d:Nat) (v:Value),a.put (some d) v={a with tmps:=a.tmps.setIfInBounds d v})∧(∀(a:Act) (v:Value),a.put none v=a)∧(∀(l:List Value) (i:Nat) (a:Value),l.toArray.setIfInBounds i a=(l.set i a).toArray)∧(∀(x:Value) (l:List Value) (a:Value),(x::l).set 0 a=a::l)∧∀(x:Value) (l:List Value) (i:Nat) (a:Value),(x::l).set (i+1) a=x::l.set i a:=
 ⟨fun _ _ _=>rfl,fun _ _=>rfl,fun _ _ _=>List.setIfInBounds_toArray _ _ _,fun _ _ _=>rfl,fun _ _ _ _=>rfl⟩
section
variable {P:Program} {ops:Array Oper} {Q:Exit→Act→World→Prop} {md:Region.Mode} {S:World→Prop}
def RT(P:Program)(ops:Array Oper)(S:World→Prop):List Nat→Array Bool→Act→(Array Bool→Act→Prop)→Prop
 |[],L,a,K=>K L a
 |i::r,L,a,K=>∃o v,ops[i]?=some o∧YieldsIf P ops S o v a∧RT P ops S r (L.setIfInBounds i true) (a.put o.dst v) K
theorem od{r:List Nat}{L:Array Bool}{a:Act}{K:Array Bool→Act→Prop}{o:Oper}(v:Value)(z:ops[i]?=some o)(A:Region.wanted o (yielded ops a.tmps)=true)(D:∀w',S w'→(execOp a.eval o).run P w'= .ok (.value v) w')
 (h:RT P ops S r (L.setIfInBounds i true) (a.put o.dst v) K):RT P ops S (i::r) L a K:=⟨o,v,z,.inl ⟨A,D⟩,h⟩
theorem oe{r:List Nat}{L:Array Bool}{a:Act}{K:Array Bool→Act→Prop}{o:Oper}(z:ops[i]?=some o)(A:Region.wanted o (yielded ops a.tmps)=false)
 (h:RT P ops S r (L.setIfInBounds i true) (a.put o.dst undef) K):RT P ops S (i::r) L a K:=⟨o,undef,z,.inr ⟨A,rfl⟩,h⟩
theorem q9{r:List Nat}{L:Array Bool}{a:Act}{K:Array Bool→Act→Prop}{o:Oper}(v:Value)(z:ops[i]?=some o)(A:YieldsIf P ops S o v a)
 (h:RT P ops S r (L.setIfInBounds i true) (a.put o.dst v) K):RT P ops S (i::r) L a K:=⟨o,v,z,A,h⟩
theorem il{L:Array Bool}{a:Act}{K:Array Bool→Act→Prop}(h:K L a):RT P ops S [] L a K:=h
def qt(md:Region.Mode)(ops:Array Oper):List Nat→Array Bool→Bool
 |[],_=>true
 |i::r,L=>Region.free md ops L i&&((Region.ready md ops L).contains i&&qt md ops r (L.setIfInBounds i true))
theorem vC(z:Region.noSelect ops=true)(A:∀c (a:Act) d v w,Q (.panic c) (a.put d v) w→Q (.panic c) a w)(D:S w):∀(r:List Nat) (n:Nat) (L:Array Bool) (a:Act),qt md ops r L=true→
 RT P ops S r L a (fun E F=>wpAnyH P md ops Q S n E F w)→wpAnyH P md ops Q S (n+r.length) L a w
 |[],_,_,_,_,h=>h
 |i::r,n,L,a,hb,⟨o,v,hi,hy,h⟩=>by
  unfold qt at hb;rw[Bool.and_eq_true,Bool.and_eq_true]at hb;exact wpAnyH_take hi z hb.1 hb.2.1 (fun c a w=>A c a _ _ w) hy D (vC z A D r n _ _ hb.2.2 h)
theorem zx(r:List Nat)(k:Nat)(o:r.length=k)(z:S w){L:Array Bool}{a:Act}(A:Region.noSelect ops=true)(D:∀c (a:Act) d v w,Q (.panic c) (a.put d v) w→Q (.panic c) a w)(E:qt md ops r L=true)
 (h:RT P ops S r L a (fun F G=>wpAnyH P md ops Q S n F G w)):wpAnyH P md ops Q S (n+k) L a w:=o▸vC A D z r n L a E h
end
open RowKit
abbrev kG:Array Value:= #[.int .i64 0,.int .i64 0,.int .u64 0,.int .u64 0,.int .u64 0,.int .u64 0,.int .u64 0,.int .u64 0,.int .u64 0,.int .u64 0,.int .u64 0,.int .u64 0,.int .u64 0,.int .u64 0,.int .u64 0,.int .u64 0,.int .i64 0,.int .i64 0,.int .i64 0,.int .i64 0,.int .i64 0,.int .i64 0,.int .i64 0,.int .i64 0,.int .i64 0,.int .i64 0,.int .i64 0,.int .u64 0,.int .i64 0,.int .i64 0,.int .i64 0,.slice none 0 0,.slice none 0 0]
abbrev o0:Array Value:= #[.int .i64 0,.int .i64 0,.int .i64 0,.int .i64 0,.int .u64 0,.int .i64 0,.slice none 0 0,.int .i64 0,.int .u64 0,.int .u64 0,.int .u64 0,.int .u64 0,.int .u64 0,.int .u64 0,.int .u64 0,.int .u64 0,.int .u64 0,.int .u64 0,.int .u64 0,.int .u64 0,.int .u64 0,.int .u64 0,.int .i64 0,.int .i64 0,.int .i64 0,.int .i64 0,.int .i64 0,.int .i64 0,.int .i64 0,.int .i64 0,.int .i64 0,.int .i64 0,.int .i64 0,.bool false]
abbrev jj:Array Value:= #[.int .u64 0,.int .u64 0,.int .u64 0,.int .i64 0,.int .i64 0,.int .i64 0]
abbrev jT:Array Value:= #[.int .u64 0,.int .u64 0,.int .u64 0,.int .i64 0]
abbrev sd:Array Value:= #[.int .u64 0,.int .u64 0,.int .u64 0,.int .u64 0,.int .u64 0,.int .u64 0,.int .u64 0,.int .u64 0,.int .u64 0,.int .u64 0,.int .u64 0,.int .u64 0,.int .u64 0,.int .u64 0,.int .i64 0,.int .i64 0,.int .i64 0,.int .i64 0,.int .i64 0,.int .i64 0,.int .i64 0,.int .i64 0,.int .i64 0,.int .i64 0]
abbrev zy:Array Value:= #[.int .i64 0,.int .i64 0,.bool false,.int .u64 0,.int .u64 0,.int .u64 0,.int .u64 0,.int .u64 0,.int .u64 0,.int .u64 0,.slice none 0 0,.slice none 0 0,.slice none 0 0,.slice none 0 0]
abbrev pL:Array Value:= #[.int .u64 0,.int .u64 0,.int .u64 0,.int .u64 0,.int .u64 0,.int .u64 0,.int .u64 0,.int .u64 0,.int .u64 0,.int .u64 0,.int .u64 0,.int .u64 0,.int .u64 0,.int .u64 0,.int .i64 0,.int .i64 0,.int .i64 0,.int .i64 0,.int .i64 0,.int .i64 0,.int .i64 0,.int .i64 0,.int .i64 0,.int .i64 0,.int .u64 0,.int .u64 0,.int .u64 0,.int .u64 0,.int .u64 0,.int .i64 0,.int .i64 0,.bool false,.slice none 0 0,.slice none 0 0,.slice none 0 0,.slice none 0 0,.slice none 0 0,.slice none 0 0,.slice none 0 0,.slice none 0 0,.slice none 0 0]
abbrev se:Array Value:= #[.int .u64 0,.int .u64 0,.int .u64 0,.int .u64 0,.int .u64 0]
theorem hE{f:Nat}{o:Array Value}{w':World}{v:Ending}{Q:Ending→World→Prop}(h:Calls P f o w fun e r=>e=v∧w'=r)(z:Q v w'):Calls P f o w Q:=h.mono fun _ _ h=>by obtain⟨rfl,rfl⟩:=h;exact z
theorem hI{f:Nat}{o:Array Value}{v:Ending}{r:World→Prop}{Q:Ending→World→Prop}(h:Calls P f o w fun e z=>e=v∧r z)(A:∀w',r w'→Q v w'):Calls P f o w Q:=h.mono fun _ _ x=>x.1▸A _ x.2
theorem g'{a:Prop}(h:a):Hid a:=h
theorem hg{a b:Prop}(o:a)(r:b):Hid a∧Hid b:=⟨o,r⟩
theorem hs{a b c:Prop}(o:a)(r:b)(c':c):Hid a∧Hid b∧Hid c:=⟨o,r,c'⟩
theorem h5{a b c d:Prop}(o:a)(r:b)(c':c)(d':d):Hid a∧Hid b∧Hid c∧Hid d:=⟨o,r,c',d'⟩
theorem jg{a b c d e:Prop}(o:a)(r:b)(c':c)(d':d)(z:e):Hid a∧Hid b∧Hid c∧Hid d∧Hid e:=⟨o,r,c',d',z⟩
theorem ku{a b c d e f:Prop}(o:a)(r:b)(c':c)(d':d)(z:e)(A:f):Hid a∧Hid b∧Hid c∧Hid d∧Hid e∧Hid f:=⟨o,r,c',d',z,A⟩
theorem k2{a b c d e f g:Prop}(o:a)(r:b)(c':c)(d':d)(z:e)(A:f)(D:g):Hid a∧Hid b∧Hid c∧Hid d∧Hid e∧Hid f∧Hid g:=⟨o,r,c',d',z,A,D⟩
theorem mI{a b c d e f g h:Prop}(o:a)(r:b)(c':c)(d':d)(z:e)(A:f)(D:g)(E:h):Hid a∧Hid b∧Hid c∧Hid d∧Hid e∧Hid f∧Hid g∧Hid h:=⟨o,r,c',d',z,A,D,E⟩
theorem og{a b c d e f g h j:Prop}(o:a)(r:b)(c':c)(d':d)(z:e)(A:f)(D:g)(E:h)(F:j):Hid a∧Hid b∧Hid c∧Hid d∧Hid e∧Hid f∧Hid g∧Hid h∧Hid j:=⟨o,r,c',d',z,A,D,E,F⟩
theorem ho{α:Type}(a:α):∃x,a=x:=⟨a,rfl⟩
theorem hk{α:Type}(a:α):∃x,x=a:=⟨a,rfl⟩
theorem hZ{p:Prop}[Decidable p](h:p):decide p=true:=decide_eq_true h
theorem h1{p:Prop}[Decidable p](h:¬p):decide p=false:=decide_eq_false h
theorem jU{α:Type}[BEq α][LawfulBEq α]{a b:α}(h:a=b):(a==b)=true:=beq_iff_eq.2 h
theorem iM{α:Type}[BEq α][LawfulBEq α]{a b:α}(h:¬a=b):(a==b)=false:=beq_eq_false_iff_ne.2 h
theorem pM{α:Type}[BEq α][LawfulBEq α]{a b:α}(h:¬a=b):(a !=b)=true:=bne_iff_ne.2 h
theorem tB{α:Type}[BEq α][LawfulBEq α]{a b:α}(h:a=b):(a !=b)=false:=by simp[h]
theorem iF(w:World)(o:Array Value)(T:TypeId):∃W,w.alloc (.cells o T)=W∧Below w.heap.size w W∧hf.ha W w.heap.size T o:=⟨_,rfl,(Below.refl _ _).alloc (Nat.le_refl _) _,hf.ha.new w _ _ _ rfl⟩
end Go.Proofs.YtffbipddbnkdjaaGreat
namespace Go.Proofs.YtffbipddbnkdjaaGreat
namespace hf
open RowKit
abbrev hh(w:World)(g j:Nat)(v:Value):Prop:=w.cell? ⟨g,j,none⟩=some v
def tC(w:World)(g:Nat):Nat→List Value→Prop
 |_,[]=>True
 |j,[v]=>hh w g j v
 |j,v::u::l=>hh w g j v∧tC w g (j+1) (u::l)
theorem vD:∀(l:List Value) (j:Nat),(∀i v,l[i]?=some v→w.cell? ⟨g,j+i,none⟩=some v)→tC w g j l
 |[],_,_=>trivial
 |[v],j,h=>h 0 v rfl
 |v::u::l,j,h=>⟨h 0 v rfl,vD (u::l) (j+1) fun i x e=>by have:=h (i+1) x e;rwa[show j+(i+1)=j+1+i by omega]at this⟩
theorem jX(h:ha w g t Q):tC w g 0 Q.toList:=vD _ _ fun i v e=>by rw[Nat.zero_add];exact h.cell (by rw[←Array.getElem?_toList];exact e)
class jP (cs:Array Value) (F:outParam (World→Nat→Prop)):Prop where
 of:∀{w:World} {g:Nat} {t:TypeId},ha w g t cs→F w g
theorem ha.all{F:World→Nat→Prop}[i:jP Q F](h:ha w g t Q):F w g:=i.of h
instance{a:Value}:jP #[a] fun o r=>(∀j,o.frozen? ⟨r,j,none⟩=false)∧hf.hh o r 0 (a):=⟨fun h=>⟨h.frozen,hf.jX h⟩⟩
instance{a b:Value}:jP #[a,b] fun o r=>(∀j,o.frozen? ⟨r,j,none⟩=false)∧hf.hh o r 0 (a)∧hf.hh o r 1 (b):=⟨fun h=>⟨h.frozen,hf.jX h⟩⟩
instance{a b c:Value}:jP #[a,b,c] fun o r=>(∀j,o.frozen? ⟨r,j,none⟩=false)∧hf.hh o r 0 (a)∧hf.hh o r 1 (b)∧hf.hh o r 2 (c):=⟨fun h=>⟨h.frozen,hf.jX h⟩⟩
instance{a b c d:Value}:jP #[a,b,c,d] fun o r=>(∀j,o.frozen? ⟨r,j,none⟩=false)∧hf.hh o r 0 (a)∧hf.hh o r 1 (b)∧hf.hh o r 2 (c)∧hf.hh o r 3 (d):=⟨fun h=>⟨h.frozen,hf.jX h⟩⟩
instance{a b c d e:Value}:jP #[a,b,c,d,e] fun o r=>(∀j,o.frozen? ⟨r,j,none⟩=false)∧hf.hh o r 0 (a)∧hf.hh o r 1 (b)∧hf.hh o r 2 (c)∧hf.hh o r 3 (d)∧hf.hh o r 4 (e):=⟨fun h=>⟨h.frozen,hf.jX h⟩⟩
instance{a b c d e f:Value}:jP #[a,b,c,d,e,f] fun o r=>(∀j,o.frozen? ⟨r,j,none⟩=false)∧hf.hh o r 0 (a)∧hf.hh o r 1 (b)∧hf.hh o r 2 (c)∧hf.hh o r 3 (d)∧hf.hh o r 4 (e)∧hf.hh o r 5 (f):=⟨fun h=>⟨h.frozen,hf.jX h⟩⟩
instance{a b c d e f h:Value}:jP #[a,b,c,d,e,f,h] fun o r=>(∀j,o.frozen? ⟨r,j,none⟩=false)∧hf.hh o r 0 (a)∧hf.hh o r 1 (b)∧hf.hh o r 2 (c)∧hf.hh o r 3 (d)∧hf.hh o r 4 (e)∧hf.hh o r 5 (f)∧hf.hh o r 6 (h):=⟨fun h=>⟨h.frozen,hf.jX h⟩⟩
instance{a b c d e f h i:Value}:jP #[a,b,c,d,e,f,h,i] fun o r=>(∀j,o.frozen? ⟨r,j,none⟩=false)∧hf.hh o r 0 (a)∧hf.hh o r 1 (b)∧hf.hh o r 2 (c)∧hf.hh o r 3 (d)∧hf.hh o r 4 (e)∧hf.hh o r 5 (f)∧hf.hh o r 6 (h)∧hf.hh o r 7 (i):=⟨fun h=>⟨h.frozen,hf.jX h⟩⟩
end hf
theorem tD:prog.follows .mixedOrders=true:=by kernel_rfl
def Rg(ops:Array Oper)(Q:Exit→Act→World→Prop):Prop:=Region.noSelect ops=true∧∀c (a:Act) d v w,Q (.panic c) (a.put d v) w→Q (.panic c) a w
def i'(i:Nat):Nat→List Nat→List Nat
 |0,r=>r
 |n+1,r=>i::i' (i+1) n r
section
variable {ops:Array Oper} {Q:Exit→Act→World→Prop} {S:World→Prop}
theorem j8{a:Act}(S:World→Prop)(o:Region.noSelect ops=true)(r:∀c (a:Act) d v w,Q (.panic c) (a.put d v) w→Q (.panic c) a w)(z:S w.drew)
 (h:Rg ops Q→S w.drew→wpAnyH prog .any ops Q S ops.size (Array.replicate ops.size false) a w.drew):(Code.region n ops true).wp prog Q a w:=wp_region_held_drew tD z (h ⟨o,r⟩)
theorem jn(z:Rg ops Q)(k:Nat)(r:List Nat)(A:S w){L:Array Bool}{a:Act}(o:(r.length==k&&qt .any ops r L)=true)
 (h:RT prog ops S r L a (fun D E=>wpAnyH prog .any ops Q S n D E w)):wpAnyH prog .any ops Q S (n+k) L a w:=by
 rw[Bool.and_eq_true,beq_iff_eq]at o;exact zx r k o.1 A z.1 z.2 o.2 h
theorem lQ(z:∀c (a:Act) d v w,Q (.panic c) (a.put d v) w→Q (.panic c) a w)(k:Nat)(r:List Nat)(A:S w){L:Array Bool}{a:Act}(o:(Region.noSelect ops&&(r.length==k&&qt .any ops r L))=true)
 (h:RT prog ops S r L a (fun D E=>wpAnyH prog .any ops Q S n D E w)):wpAnyH prog .any ops Q S (n+k) L a w:=by
 rw[Bool.and_eq_true]at o;exact jn ⟨o.1,z⟩ k r A o.2 h
theorem iu{r:List Nat}{L:Array Bool}{a:Act}{K:Array Bool→Act→Prop}{o:Oper}{v:Value}(z:ops[i]?=some o)(A:Region.wanted o (yielded ops a.tmps)=true)(D:∀w',S w'→(execOp a.eval o).run prog w'= .ok (.value v) w')
 (h:RT prog ops S r (L.setIfInBounds i true) (a.put o.dst v) K):RT prog ops S (i::r) L a K:=od v z A D h
theorem iD(i:Nat){o:Oper}{L:Array Bool}{a:Act}(z:ops[i]?=some o)(A:(Region.ready .any ops L==[i])=true)
 (h:∀r:Act→World→Prop,Shut (∀a w,S w→(S w→wpAnyH prog .any ops Q S n (L.setIfInBounds i true) a w)→r a w)→if Region.wanted o (yielded ops a.tmps)=true then Oper.wp prog o a w r Q else r (a.put o.dst undef) w):wpAnyH prog .any ops Q S (n+1) L a w:=
 wpAnyH_ready (rs:=[i]) (by simpa using A) (by simp) (AllReadyH.cons z h AllReadyH.nil)
end
open RowKit
theorem tE{w:World}{g:Nat}{t:TypeId}{M:Array Value}{L:List Value}(k:Nat)(h:hf.ha w g t M)(r:(M.toList.drop k).take L.length=L):w.rangeAt g k L:=fun j v o=>by
 refine h.cell ?_;rw[←r,List.getElem?_take]at o;split at o
 ·rw[List.getElem?_drop]at o
  rw[←Array.getElem?_toList];exact o
 ·cases o
section
variable {ops:Array Oper} {rest:List Oper} {o:Oper} {a:Act} {w:World} {Q:Exit→Act→World→Prop} {T t:TypeId} {x:Operand} {g:Nat} {cs M:Array Value} {d:TypeDesc}
theorem hR(r:hf.ha w g T cs)(z:prog.underlying T=some d)(A:(prog.info? T).map (·.size)=some cs.size)(D:o.guard=none)(E:o.op= .load T x)(F:a.eval x= .pointer (some ⟨g,0,none⟩))
 (G:d.isRow=true) (h:wpList prog ops Q rest (a.put o.dst (.agg cs)) w):wpList prog ops Q (o::rest) a w:=hf.pK D T x E g F T cs d r z (by cases d<;>first|rfl|cases G) A h
theorem iv(r:hf.ha w g T cs)(z:prog.underlying T=some d)(A:(prog.info? T).map (·.size)=some cs.size)(D:Region.wanted o (yielded ops a.tmps)=true)(E:o.op= .load T x)(F:a.eval x= .pointer (some ⟨g,0,none⟩))
 (G:d.isRow=true) (h:wpList prog ops Q rest (a.put o.dst (.agg cs)) w):wpList prog ops Q (o::rest) a w:=hf.zw D T x E g F T cs d r z (by cases d<;>first|rfl|cases G) A h
theorem mb(k:Nat)(L:List Value)(r:hf.ha w g t M)(z:(M.toList.drop k).take L.length=L)(A:prog.underlying T=some d)(D:(prog.info? T).map (·.size)=some L.length)(E:o.guard=none)(F:o.op= .load T x)(G:a.eval x= .pointer (some ⟨g,k,none⟩))
 (I:d.isRow=true) (h:wpList prog ops Q rest (a.put o.dst (.agg L.toArray)) w):wpList prog ops Q (o::rest) a w:=wpList_load_mid E T x F g k G L d (tE k r z) A I D h
theorem k3{S:World→Prop}{r:List Nat}{z:Array Bool}{K:Array Bool→Act→Prop}(k:Nat)(L:List Value)(A:∀w',S w'→hf.ha w' g t M)(D:(M.toList.drop k).take L.length=L)(E:prog.underlying T=some d)(F:(prog.info? T).map (·.size)=some L.length)
 (G:ops[i]?=some o) (I:Region.wanted o (yielded ops a.tmps)=true) (J:o.op= .load T x) (O:a.eval x= .pointer (some ⟨g,k,none⟩)) (Q:d.isRow=true)
 (h:RT prog ops S r (z.setIfInBounds i true) (a.put o.dst (.agg L.toArray)) K):RT prog ops S (i::r) z a K:=q9 _ G (yieldsIf_load_mid I T x J g k O L d (fun w' R=>tE k (A w' R) D) E Q F) h
end
end Go.Proofs.YtffbipddbnkdjaaGreat
namespace Go.Proofs.YtffbipddbnkdjaaGreat
namespace hB
open RowKit
open hG hf
structure hx where
 inc:Nat
 ix:Nat
 floor:Nat
 cap:Nat
 up:Nat
 down:Nat
 ih:Nat
 quot:Nat
 iR:Nat
 iS:Nat
 recover:Nat
 ig:Nat
 iT:Nat
 iU:Nat
 iV:Int
 ic:Int
 iE:Int
 iN:Int
 iI:Int
 iy:Int
 wait:Int
 iW:Int
 iK:Int
 iO:Int
def hx.cs(p:hx):Array Value:= #[int u64 p.inc,int u64 p.ix,int u64 p.floor,int u64 p.cap,int u64 p.up,int u64 p.down,int u64 p.ih,int u64 p.quot,int u64 p.iR,int u64 p.iS,int u64 p.recover,int u64 p.ig,int u64 p.iT,int u64 p.iU,int i64 p.iV,int i64 p.ic,int i64 p.iE,int i64 p.iN,int i64 p.iI,int i64 p.iy,int i64 p.wait,int i64 p.iW,int i64 p.iK,int i64 p.iO]
instance{p:hx}:hf.jP p.cs fun o r=>(∀j,o.frozen? ⟨r,j,none⟩=false)∧hf.hh o r 0 (int u64 p.inc)∧hf.hh o r 1 (int u64 p.ix)∧hf.hh o r 2 (int u64 p.floor)∧hf.hh o r 3 (int u64 p.cap)∧hf.hh o r 4 (int u64 p.up)∧hf.hh o r 5 (int u64 p.down)∧hf.hh o r 6 (int u64 p.ih)∧hf.hh o r 7 (int u64 p.quot)∧hf.hh o r 8 (int u64 p.iR)∧hf.hh o r 9 (int u64 p.iS)∧hf.hh o r 10 (int u64 p.recover)∧hf.hh o r 11 (int u64 p.ig)∧hf.hh o r 12 (int u64 p.iT)∧hf.hh o r 13 (int u64 p.iU)∧hf.hh o r 14 (int i64 p.iV)∧hf.hh o r 15 (int i64 p.ic)∧hf.hh o r 16 (int i64 p.iE)∧hf.hh o r 17 (int i64 p.iN)∧hf.hh o r 18 (int i64 p.iI)∧hf.hh o r 19 (int i64 p.iy)∧hf.hh o r 20 (int i64 p.wait)∧hf.hh o r 21 (int i64 p.iW)∧hf.hh o r 22 (int i64 p.iK)∧hf.hh o r 23 (int i64 p.iO):=⟨fun h=>⟨h.frozen,hf.jX h⟩⟩
structure hx.jE (p:hx):Prop where
 inc:p.inc<18446744073709551616
 ix:p.ix<18446744073709551616
 floor:p.floor<18446744073709551616
 cap:p.cap<18446744073709551616
 up:p.up<18446744073709551616
 down:p.down<18446744073709551616
 ih:p.ih<18446744073709551616
 quot:p.quot<18446744073709551616
 iR:p.iR<18446744073709551616
 iS:p.iS<18446744073709551616
 recover:p.recover<18446744073709551616
 ig:p.ig<18446744073709551616
 iT:p.iT<18446744073709551616
 iU:p.iU<18446744073709551616
 iV: -9223372036854775808≤p.iV∧p.iV≤9223372036854775807
 ic: -9223372036854775808≤p.ic∧p.ic≤9223372036854775807
 iE: -9223372036854775808≤p.iE∧p.iE≤9223372036854775807
 iN: -9223372036854775808≤p.iN∧p.iN≤9223372036854775807
 iI: -9223372036854775808≤p.iI∧p.iI≤9223372036854775807
 iy: -9223372036854775808≤p.iy∧p.iy≤9223372036854775807
 wait: -9223372036854775808≤p.wait∧p.wait≤9223372036854775807
 iW: -9223372036854775808≤p.iW∧p.iW≤9223372036854775807
 iK: -9223372036854775808≤p.iK∧p.iK≤9223372036854775807
 iO: -9223372036854775808≤p.iO∧p.iO≤9223372036854775807
theorem hx.one(p:hx):p.cs.all (·.oneCell')=true:=by simp[hx.cs,Value.oneCell']
theorem lR:(prog.info? 24).map (·.size)=some 24:=by kernel_rfl
theorem hJ{w':World}(h:Below w.heap.size w X)(o:Below X.heap.size X w'):Below w.heap.size w w':=h.trans (o.mono h.size)
theorem hD(h:Below w.heap.size w X)(o:Obj):Below w.heap.size w (X.alloc o):=h.alloc h.size o
def wi(n o r:Int):Bool:=decide (o≤n)&&decide (n≤r)
theorem mf(n r z:Int)(w:World):Calls prog 77 #[int u64 n,int u64 r,int u64 z] w fun e w'=>e= .returned (.bool (wi n r z))∧w=w':=by
 unfold wi;by_cases D:r≤n
 ·have o:=hZ D
  by_cases E:n≤z
  ·have A:=hZ E
   rw[o,A];go_enter func77,ntmps77;go_wp2;go_ret;exact⟨rfl,rfl⟩
  have A:=h1 E;rw[o,A];go_enter func77,ntmps77;go_wp2;go_ret;exact⟨rfl,rfl⟩
 have o:=h1 D;rw[o,Bool.false_and];go_enter func77,ntmps77;go_wp2;go_ret;exact⟨rfl,rfl⟩
theorem nN(n r z:Int)(w:World):Calls prog 78 #[int i64 n,int i64 r,int i64 z] w fun e w'=>e= .returned (.bool (wi n r z))∧w=w':=by
 unfold wi;by_cases D:r≤n
 ·have o:=hZ D
  by_cases E:n≤z
  ·have A:=hZ E
   rw[o,A];go_enter func78,ntmps78;go_wp2;go_ret;exact⟨rfl,rfl⟩
  have A:=h1 E;rw[o,A];go_enter func78,ntmps78;go_wp2;go_ret;exact⟨rfl,rfl⟩
 have o:=h1 D;rw[o,Bool.false_and];go_enter func78,ntmps78;go_wp2;go_ret;exact⟨rfl,rfl⟩
theorem sf(A:Option Addr)(n c L:Nat)(bs:List Bool)(w:World)(F:bs.length=n)(h:Rd w L A n (fun j=> .bool (bs.getD j true)))(Y:n≤1000)(b:Bool)(G:b=bs.all id):
 Calls prog 76 #[.slice A n c] w fun e w'=>e= .returned (.bool b)∧w=w':=by
 obtain⟨T,I,J⟩:=hs h G F;clear h G F;go_enter func76,ntmps76;go_wp2;go_loop [7] (fun E=>∃k:Nat,E=int i64 k∧k≤n∧∀j,j<k→bs.getD j true=true) (fun E=>n-(intOf E).toNat)
 case atStart=>exact⟨0,rfl,h6,fun j r=>by omega⟩
 case round=>
  obtain⟨k,rfl,Z,K⟩:=hrel;have O:=g' K;clear K;by_cases D:k<n
  ·have U:=hZ D
   obtain⟨aa,rfl,_,V⟩:=T k D;obtain⟨z,o⟩:=ho (bs.getD k true);have Q:=g' o;simp only[o]at V;clear o;cases z
   ·obtain rfl:b=false:=by
     rw[I.out,List.all_eq_false];have R:k<bs.length:=by rw[J.out];exact D
     refine⟨false,?_,by simp⟩;have:=Q.out;rw[iJ,List.getElem?_eq_getElem R]at this;have e:bs[k]=false:=this;rw[←e];exact List.getElem_mem R
    go_wp2;go_ret;exact⟨rfl,rfl⟩
   have W:=g' (show∀j,j<k+1→bs.getD j true=true from fun j r=>by
    rcases Nat.lt_or_ge j k with S|S
    ·exact O j S
    obtain rfl:j=k:=by omega
    exact Q)
   go_wp2;exact⟨⟨k+1,by go_num,by omega,W⟩,by simp[intOf];omega⟩
  have U:=h1 D;obtain rfl:b=true:=by
   rw[I.out,List.all_eq_true];intro z o;obtain⟨j,r⟩:=List.getElem?_of_mem o;have X:=(jh.1 r).1;have:=O.out j (by rw[J.out]at X;omega);rw[iJ,r]at this;simpa using this
  go_wp2;go_ret;exact⟨rfl,rfl⟩
theorem sg(W:World)(bs:List Bool)(o:Array Value)(r:o=(bs.map Value.bool).toArray)(n:Nat)(E:bs.length=n)(t:TypeId)(L g:Nat)(z:g=W.heap.size)(A:g<L):
 Rd (W.alloc (.cells o t)) L (some ⟨g,0,none⟩) n (fun j=> .bool (bs.getD j true)):=by
 subst r z;refine fun j F=>⟨_,rfl,A,?_⟩;rw[k1,World.cell?_alloc_at _ _ _ _ rfl];have D:j<bs.length:=by omega
 simp[List.getElem?_eq_getElem D]
def o1(p:hx):List Bool:=[wi p.ih 1 4294967296,wi p.iR p.ih 4294967296,wi p.quot 1 1099511627776,wi p.iS 1 p.quot,decide ((p.recover:Int)≤4294967296),wi p.ig 1 72057594037927936]
theorem sh(p:hx)(w:World)(b:Bool)(D:b=(o1 p).all id):
 Calls prog 44 #[.agg p.cs] w fun e w'=>e= .returned (.bool b)∧Below w.heap.size w w':=by
 obtain⟨z,G,E,I⟩:=iF w p.cs 24;obtain⟨J,O⟩:=hg I D;clear D;go_enter func44,ntmps44;go_upto_region 1 with(fail)
 clear G;refine j8 (fun w'=>ha w' w.heap.size 24 p.cs∧Below z.heap.size z w') (by kernel_rfl) (by rintro _ _ (_|_) _ _ h<;>exact h) ⟨J,hz.drew⟩ fun F o=>?_;refine jn F 17 (i' 0 2 (i' 3 4 (i' 8 2 (i' 11 4 (i' 16 5 []))))) o (by kernel_rfl) ?_;iterate 17(refine iu rfl rfl (fun w' A=>by try simp only[S3];have Q:=A.1.all;go_simp;try rfl) ?_;try simp only[S4,S3])
 refine il ?_;refine iD 2 rfl (by kernel_rfl) fun K r=>?_;(try simp only[S3])
 go_simp;refine hE (mf _ _ _ _) ?_;refine r.out _ _ o (fun o=>?_);(try simp only[S4,S3])
 refine iD 7 rfl (by kernel_rfl) fun K r=>?_;(try simp only[S3])
 go_simp;refine hE (mf _ _ _ _) ?_;refine r.out _ _ o (fun o=>?_);(try simp only[S4,S3])
 refine iD 10 rfl (by kernel_rfl) fun K r=>?_;(try simp only[S3])
 go_simp;refine hE (mf _ _ _ _) ?_;refine r.out _ _ o (fun o=>?_);(try simp only[S4,S3])
 refine iD 15 rfl (by kernel_rfl) fun K r=>?_;(try simp only[S3])
 go_simp;refine hE (mf _ _ _ _) ?_;refine r.out _ _ o (fun o=>?_);(try simp only[S4,S3])
 refine iD 21 rfl (by kernel_rfl) fun K r=>?_;(try simp only[S3])
 go_simp;refine hE (mf _ _ _ _) ?_;refine r.out _ _ o (fun o=>?_);(try simp only[S4,S3])
 refine iD 22 rfl (by kernel_rfl) fun K r=>?_;(try simp only[S3])
 go_simp;refine r.out _ _ ⟨o.1.alloc _,hD o.2 _⟩ (fun o=>?_);(try simp only[S4,S3])
 refine iD 23 rfl (by kernel_rfl) fun K r=>?_;(try simp only[S3])
 go_simp;refine(sf _ 6 6 (z.heap.size+1) (o1 p) _ rfl ?_ (by omega) b O).mono ?_
 ·exact sg z (o1 p) _ rfl 6 rfl _ _ _ rfl (by omega)
 rintro e w' ⟨rfl,rfl⟩;refine r.out _ _ o (fun o=>?_);(try simp only[S4,S3])
 refine jn F 1 [24] o (by kernel_rfl) ?_;iterate 1(refine iu rfl rfl (fun w' A=>by try simp only[S3];have Q:=A.1.all;go_simp;try rfl) ?_;try simp only[S4,S3])
 refine il ?_;have R:=o.2;clear o;refine wpAnyH_done (by kernel_rfl) ?_ _;go_wp2;go_ret;exact⟨rfl,E.trans (R.mono E.size)⟩
def qu(p:hx):List Bool:=[decide ((p.iT:Int)≤4294967296),decide ((p.iU:Int)≤1099511627776),wi p.iV 0 1000,wi p.wait 0 50,wi p.iK 0 1000,wi p.iW 1 1000,wi p.ic 0 64,wi p.iE 0 1000,wi p.iN 0 10000,wi p.iI 0 10000,wi p.iO 0 10000,wi p.iy 1 64]
theorem tF(p:hx)(w:World)(b:Bool)(D:b=(qu p).all id):
 Calls prog 45 #[.agg p.cs] w fun e w'=>e= .returned (.bool b)∧Below w.heap.size w w':=by
 obtain⟨z,G,E,I⟩:=iF w p.cs 24;obtain⟨J,O⟩:=hg I D;clear D;go_enter func45,ntmps45;go_upto_region 1 with(fail)
 clear G;refine j8 (fun w'=>ha w' w.heap.size 24 p.cs∧Below z.heap.size z w') (by kernel_rfl) (by rintro _ _ (_|_) _ _ h<;>exact h) ⟨J,hz.drew⟩ fun F o=>?_;refine jn F 26 [0,1,2,3,4,5,6,7,9,10,12,13,15,16,18,19,21,22,24,25,27,28,30,31,33,34] o (by kernel_rfl) ?_;iterate 26(refine iu rfl rfl (fun w' A=>by try simp only[S3];have Q:=A.1.all;go_simp;try rfl) ?_;try simp only[S4,S3])
 refine il ?_;refine iD 8 rfl (by kernel_rfl) fun K r=>?_;(try simp only[S3])
 go_simp;refine hE (nN _ _ _ _) ?_;refine r.out _ _ o (fun o=>?_);(try simp only[S4,S3])
 refine iD 11 rfl (by kernel_rfl) fun K r=>?_;(try simp only[S3])
 go_simp;refine hE (nN _ _ _ _) ?_;refine r.out _ _ o (fun o=>?_);(try simp only[S4,S3])
 refine iD 14 rfl (by kernel_rfl) fun K r=>?_;(try simp only[S3])
 go_simp;refine hE (nN _ _ _ _) ?_;refine r.out _ _ o (fun o=>?_);(try simp only[S4,S3])
 refine iD 17 rfl (by kernel_rfl) fun K r=>?_;(try simp only[S3])
 go_simp;refine hE (nN _ _ _ _) ?_;refine r.out _ _ o (fun o=>?_);(try simp only[S4,S3])
 refine iD 20 rfl (by kernel_rfl) fun K r=>?_;(try simp only[S3])
 go_simp;refine hE (nN _ _ _ _) ?_;refine r.out _ _ o (fun o=>?_);(try simp only[S4,S3])
 refine iD 23 rfl (by kernel_rfl) fun K r=>?_;(try simp only[S3])
 go_simp;refine hE (nN _ _ _ _) ?_;refine r.out _ _ o (fun o=>?_);(try simp only[S4,S3])
 refine iD 26 rfl (by kernel_rfl) fun K r=>?_;(try simp only[S3])
 go_simp;refine hE (nN _ _ _ _) ?_;refine r.out _ _ o (fun o=>?_);(try simp only[S4,S3])
 refine iD 29 rfl (by kernel_rfl) fun K r=>?_;(try simp only[S3])
 go_simp;refine hE (nN _ _ _ _) ?_;refine r.out _ _ o (fun o=>?_);(try simp only[S4,S3])
 refine iD 32 rfl (by kernel_rfl) fun K r=>?_;(try simp only[S3])
 go_simp;refine hE (nN _ _ _ _) ?_;refine r.out _ _ o (fun o=>?_);(try simp only[S4,S3])
 refine iD 35 rfl (by kernel_rfl) fun K r=>?_;(try simp only[S3])
 go_simp;refine hE (nN _ _ _ _) ?_;refine r.out _ _ o (fun o=>?_);(try simp only[S4,S3])
 refine iD 36 rfl (by kernel_rfl) fun K r=>?_;(try simp only[S3])
 go_simp;refine r.out _ _ ⟨o.1.alloc _,hD o.2 _⟩ (fun o=>?_);(try simp only[S4,S3])
 refine iD 37 rfl (by kernel_rfl) fun K r=>?_;(try simp only[S3])
 go_simp;refine(sf _ 12 12 (z.heap.size+1) (qu p) _ rfl ?_ (by omega) b O).mono ?_
 ·exact sg z (qu p) _ rfl 12 rfl _ _ _ rfl (by omega)
 rintro e w' ⟨rfl,rfl⟩;refine r.out _ _ o (fun o=>?_);(try simp only[S4,S3])
 refine jn F 1 [38] o (by kernel_rfl) ?_;iterate 1(refine iu rfl rfl (fun w' A=>by try simp only[S3];have Q:=A.1.all;go_simp;try rfl) ?_;try simp only[S4,S3])
 refine il ?_;have R:=o.2;clear o;refine wpAnyH_done (by kernel_rfl) ?_ _;go_wp2;go_ret;exact⟨rfl,E.trans (R.mono E.size)⟩
def nO(p:hx):List Bool:=[wi p.inc 1 2147483648,wi p.ix p.inc 1099511627776,decide (p.inc≤p.floor),decide (p.floor<p.cap),wi p.cap p.ix 1099511627776,wi p.up p.inc 1099511627776,decide ((p.down:Int)≤1099511627776)]
theorem zz{p:hx}(h:(nO p).all id=true):1≤p.inc:=by
 simp[nO,wi]at h;omega
def pN(p:hx):Bool:=(nO p).all id&&decide (p.ix%p.inc=0)
theorem q'(p:hx)(w:World)(b:Bool)(A:b=pN p):
 Calls prog 43 #[.agg p.cs] w fun e w'=>e= .returned (.bool b)∧Below w.heap.size w w':=by
 obtain⟨D,Q,R,U⟩:=iF w p.cs 24;have S:=g' U;obtain⟨l,F⟩:=hk ((nO p).all id);have T:=g' F;unfold pN at A;rw[←F]at A;cases l;focus
  obtain rfl:b=false:=by rw[A,Bool.false_and]
  clear A F;go_enter func43,ntmps43;go_upto_region 1 with(fail)
  clear Q;refine j8 (fun w'=>ha w' w.heap.size 24 p.cs∧Below D.heap.size D w') (by kernel_rfl) (by rintro _ _ (_|_) _ _ h<;>exact h) ⟨S,hz.drew⟩ fun G o=>?_;refine jn G 27 (i' 0 2 (i' 3 4 (i' 8 14 (i' 23 4 (i' 28 3 []))))) o (by kernel_rfl) ?_;iterate 27(refine iu rfl rfl (fun w' E=>by try simp only[S3];have I:=E.1.all;go_simp;try rfl) ?_;try simp only[S4,S3])
  refine il ?_;refine iD 2 rfl (by kernel_rfl) fun K z=>?_;(try simp only[S3])
  go_simp;refine hE (mf _ _ _ _) ?_;refine z.out _ _ o (fun o=>?_);(try simp only[S4,S3])
  refine iD 7 rfl (by kernel_rfl) fun K z=>?_;(try simp only[S3])
  go_simp;refine hE (mf _ _ _ _) ?_;refine z.out _ _ o (fun o=>?_);(try simp only[S4,S3])
  refine iD 22 rfl (by kernel_rfl) fun K z=>?_;(try simp only[S3])
  go_simp;refine hE (mf _ _ _ _) ?_;refine z.out _ _ o (fun o=>?_);(try simp only[S4,S3])
  refine iD 27 rfl (by kernel_rfl) fun K z=>?_;(try simp only[S3])
  go_simp;refine hE (mf _ _ _ _) ?_;refine z.out _ _ o (fun o=>?_);(try simp only[S4,S3])
  refine iD 31 rfl (by kernel_rfl) fun K z=>?_;(try simp only[S3])
  go_simp;refine z.out _ _ ⟨o.1.alloc _,hD o.2 _⟩ (fun o=>?_);(try simp only[S4,S3])
  refine iD 32 rfl (by kernel_rfl) fun K z=>?_;(try simp only[S3])
  go_simp;refine(sf _ 7 7 (D.heap.size+1) (nO p) _ rfl ?_ (by omega) false T).mono ?_
  ·exact sg D (nO p) _ rfl 7 rfl _ _ _ rfl (by omega)
  rintro e w' ⟨rfl,rfl⟩;refine z.out _ _ o (fun o=>?_);(try simp only[S4,S3])
  refine jn G 9 (i' 33 9 []) o (by kernel_rfl) ?_;iterate 9((first|(refine iu rfl rfl (fun w' E=>by try simp only[S3];have I:=E.1.all;go_simp;try rfl) ?_)|(refine oe rfl rfl ?_));try simp only[S4,S3])
 rotate_left;focus
  have W:=zz F.symm;have X:¬p.inc=0:=by omega
  obtain⟨r,J⟩:=ho (p.ix%p.inc);have Y:(p.ix:Int).tmod (p.inc:Int)=(r:Int):=by rw[←Int.ofNat_tmod,J]
  rw[Bool.true_and,J]at A;by_cases O:r=0;focus
   obtain rfl:b=true:=by rw[A];simpa using O
   subst O
  rotate_left;focus
   obtain rfl:b=false:=by rw[A];simpa using O
   have Z:((r:Int)==0)=false:=by rw[beq_eq_false_iff_ne];omega
  all_goals
   clear A F J;go_enter func43,ntmps43;go_upto_region 1 with(fail)
   clear Q;refine j8 (fun w'=>ha w' w.heap.size 24 p.cs∧Below D.heap.size D w') (by kernel_rfl) (by rintro _ _ (_|_) _ _ h<;>exact h) ⟨S,hz.drew⟩ fun G o=>?_;refine jn G 27 (i' 0 2 (i' 3 4 (i' 8 14 (i' 23 4 (i' 28 3 []))))) o (by kernel_rfl) ?_;iterate 27(refine iu rfl rfl (fun w' E=>by try simp only[S3];have I:=E.1.all;go_simp;try rfl) ?_;try simp only[S4,S3])
   refine il ?_;refine iD 2 rfl (by kernel_rfl) fun K z=>?_;(try simp only[S3])
   go_simp;refine hE (mf _ _ _ _) ?_;refine z.out _ _ o (fun o=>?_);(try simp only[S4,S3])
   refine iD 7 rfl (by kernel_rfl) fun K z=>?_;(try simp only[S3])
   go_simp;refine hE (mf _ _ _ _) ?_;refine z.out _ _ o (fun o=>?_);(try simp only[S4,S3])
   refine iD 22 rfl (by kernel_rfl) fun K z=>?_;(try simp only[S3])
   go_simp;refine hE (mf _ _ _ _) ?_;refine z.out _ _ o (fun o=>?_);(try simp only[S4,S3])
   refine iD 27 rfl (by kernel_rfl) fun K z=>?_;(try simp only[S3])
   go_simp;refine hE (mf _ _ _ _) ?_;refine z.out _ _ o (fun o=>?_);(try simp only[S4,S3])
   refine iD 31 rfl (by kernel_rfl) fun K z=>?_;(try simp only[S3])
   go_simp;refine z.out _ _ ⟨o.1.alloc _,hD o.2 _⟩ (fun o=>?_);(try simp only[S4,S3])
   refine iD 32 rfl (by kernel_rfl) fun K z=>?_;(try simp only[S3])
   go_simp;refine(sf _ 7 7 (D.heap.size+1) (nO p) _ rfl ?_ (by omega) true T).mono ?_
   ·exact sg D (nO p) _ rfl 7 rfl _ _ _ rfl (by omega)
   rintro e w' ⟨rfl,rfl⟩;refine z.out _ _ o (fun o=>?_);(try simp only[S4,S3])
   refine jn G 9 (i' 33 9 []) o (by kernel_rfl) ?_;iterate 9(refine iu rfl rfl (fun w' E=>by try simp only[S3];have I:=E.1.all;go_simp;try rfl) ?_;try simp only[S4,S3])
 all_goals
  refine il ?_;have V:=o.2;clear o;refine wpAnyH_done (by kernel_rfl) ?_ _;go_wp2;go_ret;exact⟨rfl,R.trans (V.mono R.size)⟩
end hB
end Go.Proofs.YtffbipddbnkdjaaGreat
