/- What functions compute at any arguments, and plain facts: The walks of the pool, ninth part: a deposit more, of both sides; two lists compared; The walks of the pool, eleventh part: Insert at any place and others. Conditions: those that each theorem names. -/
import Derived.Test.YtffbipddbnkdjaaGreatZ06
import Derived.Deep.RegionLaw
import Derived.Lib.AppendZerosOnto
import Derived.Lib.Overlaps
import Derived.Shelf.RegionOpenPlain
set_option maxRecDepth 100000
set_option maxHeartbeats 40000000
set_option linter.all false
open Go Go.Proofs.Tryz
open Go.Value(int)
open Go.IntKind(i64 u64)
variable{A T:Option Addr}{n g b L k B i x a m j q c p s r d h u N y:Nat}{E z:Int}{P:Program}{w W X Z:World}{e t:TypeId}{f:Nat→Value}{l:List Bool}{V U:Value}{Y:List Nat}{S:List Value}{R:List Int}{Q:Array Value}{O:List (List Nat)}{M:Bool}{K:Ending}{J:Addr}{I:Nat→Nat}{H:Option Nat}
namespace Go.Proofs.YtffbipddbnkdjaaGreat
namespace hU
open RowKit
open hG kd h0
theorem qA(A:Option Addr)(n c:Nat)(ds:List h')(w:World)(h:hV w w.heap.size A n 4 (flat h'.enc ds))(V:n≤1000000)(z:A=none→n=0∧c=0):
 Calls prog 34 #[.slice A n c] w fun e w'=>∃v,e= .returned v∧w'.ownsRow w.heap.size 102 4 v n (flat h'.enc ds)∧Below w.heap.size w w':=by
 obtain⟨D,E,F,G,I⟩:=info_parts wk;rcases A with _|o
 ·obtain⟨rfl,rfl⟩:=z rfl
  have J:ds=[]:=List.eq_nil_of_length_eq_zero (h.len h'.len (by omega));subst J;have K:=fun w=>Lib.run_eql_slice_nil (P:=prog) w 41 102 none 0 0 0 0 nV;go_enter func34,ntmps34;go_wp2;go_ret;exact⟨_,rfl,World.ownsRow_nil _ _ _ _,hz⟩
 have K:=fun w=>Lib.run_eql_slice_nil (P:=prog) w 41 102 (some o) n c 0 0 nV;have O:=h.to (show Below w.heap.size w (w.alloc (.cells #[] 102))from hz.alloc hj _);go_enter func34,ntmps34;go_wp2_with (at_builtin;refine mK _ rfl _ _ 41 rfl w.heap.size 102 D _ 4 32 nV E F G I rfl (by decide) _ _ _ rfl (nS w 102 w.heap.size 4 hj) (some o) n c _ rfl O (h'.one ds) ?_ ?_ (by simp) ?_)
 ·unfold maxLen;omega
 ·omega
 intro v r Q R;have S:r.ownsRow w.heap.size 102 4 v n (flat h'.enc ds):=by simpa using Q
 have T:Below w.heap.size w r:=(hz.alloc hj (.cells #[] 102)).grown R (by simp) (fun k U=>by cases U;exact hj);go_wp2;go_ret;exact⟨_,rfl,S,T⟩
def pg(d:h'):Prop:=0≤d.ac∧d.ac≤63∧0≤d.me∧d.me≤127∧(d.nw=true→d.me=0)
def qF(d:h'):Prop:=1≤d.am∧d.am≤4611686018427387904
theorem Cr{d:h'}(h:¬pg d):(d.ac<0∨63<d.ac)∨(0≤d.ac∧d.ac≤63∧(d.me<0∨127<d.me))∨(0≤d.ac∧d.ac≤63∧0≤d.me∧d.me≤127∧d.nw=true∧d.me≠0):=by
 by_cases o:0≤d.ac∧d.ac≤63
 ·by_cases r:0≤d.me∧d.me≤127
  ·refine .inr (.inr ⟨o.1,o.2,r.1,r.2,?_⟩)
   by_cases A:d.nw=true
   ·exact⟨A,fun z=>h ⟨o.1,o.2,r.1,r.2,fun _=>z⟩⟩
   exact absurd ⟨o.1,o.2,r.1,r.2,fun z=>absurd z A⟩ h
  exact .inr (.inl ⟨o.1,o.2,by omega⟩)
 exact .inl (by omega)
theorem xw(A:Option Addr)(n c:Nat)(d:h')(w:World)(h:¬pg d):
 Calls prog 163 #[.slice A n c,.agg #[int i64 d.ac,int i64 d.me,int u64 d.am,.bool d.nw]] w (fun e w'=>e= .returned (.tuple #[.slice none 0 0,int i64 2])∧Below w.heap.size w w'):=by
 rcases Cr h with o|⟨o,z,D⟩|⟨o,z,D,F,G,I⟩;focus
  have r:=g' (tR d.ac 0 63 o);go_enter func163,ntmps163;go_wp2_with fail;refine hE (r _) ?_
 rotate_left;focus
  have r:=g' (lf d.ac 0 63 o z);have E:=g' (tR d.me 0 127 D);go_enter func163,ntmps163;go_wp2_with fail;refine hE (r _) ?_;go_wp2_with fail;refine hE (E _) ?_
 rotate_left;focus
  have r:=g' (lf d.ac 0 63 o z);have E:=g' (lf d.me 0 127 D F);have J:(d.me !=0)=true:=by simpa using I
  rw[G];go_enter func163,ntmps163;go_wp2_with fail;refine hE (r _) ?_;go_wp2_with fail;refine hE (E _) ?_
 all_goals
  go_wp2;go_ret2;exact⟨rfl,hz.alloc hj _⟩
theorem xx(A:Option Addr)(n c:Nat)(d:h')(w:World)(h:pg d)(E:¬qF d):
 Calls prog 163 #[.slice A n c,.agg #[int i64 d.ac,int i64 d.me,int u64 d.am,.bool d.nw]] w (fun e w'=>e= .returned (.tuple #[.slice none 0 0,int i64 2])∧Below w.heap.size w w'):=by
 have J:decide ((d.am:Int)<1)=true∨decide ((d.am:Int)<1)=false∧decide ((4611686018427387904:Int)<d.am)=true:=by
  by_cases r:1≤d.am
  ·refine .inr ⟨by rw[decide_eq_false_iff_not];omega,?_⟩
   rw[decide_eq_true_iff];have o:¬d.am≤4611686018427387904:=fun o=>E ⟨r,o⟩;omega
  exact .inl (by rw[decide_eq_true_iff];omega)
 clear E;obtain⟨r,o,F,G,I⟩:=h;obtain⟨K,O⟩:=hg (lf d.ac 0 63 r o) (lf d.me 0 127 F G);have Q:(d.nw=true∧(d.me !=0)=false)∨d.nw=false:=by
  by_cases z:d.nw=true
  ·exact .inl ⟨z,by rw[I z];rfl⟩
  exact .inr (by simpa using z)
 rcases Q with⟨D,d1⟩|D;all_goals
  rw[D];clear r o F G I D;rcases J with R|⟨R,S⟩;rotate_left;all_goals
   go_enter func163,ntmps163;go_wp2_with fail;refine hE (K _) ?_;go_wp2_with fail;refine hE (O _) ?_;go_wp2;go_ret2;exact⟨rfl,hz.alloc hj _⟩
theorem Cs(A:Option Addr)(n c:Nat)(d:h')(w:World)(h:pg d)(o:qF d)(Q:256≤n):
 Calls prog 163 #[.slice A n c,.agg #[int i64 d.ac,int i64 d.me,int u64 d.am,.bool d.nw]] w (fun e w'=>e= .returned (.tuple #[.slice none 0 0,int i64 161])∧Below w.heap.size w w'):=by
 have R:decide ((d.am:Int)<1)=false:=by rw[decide_eq_false_iff_not];have:=o.1;omega
 have S:decide ((4611686018427387904:Int)<d.am)=false:=by rw[decide_eq_false_iff_not];have:=o.2;omega
 clear o;have T:decide ((256:Int)≤n)=true:=by simp;omega
 obtain⟨D,E,F,G,I⟩:=h;obtain⟨J,K⟩:=hg (lf d.ac 0 63 D E) (lf d.me 0 127 F G);have O:(d.nw=true∧(d.me !=0)=false)∨d.nw=false:=by
  by_cases r:d.nw=true
  ·exact .inl ⟨r,by rw[I r];rfl⟩
  exact .inr (by simpa using r)
 rcases O with⟨z,d1⟩|z;all_goals
  rw[z];clear D E F G I z;go_enter func163,ntmps163;go_wp2_with fail;refine hE (J _) ?_;go_wp2_with fail;refine hE (K _) ?_;go_wp2;go_ret2;exact⟨rfl,hz.alloc hj _⟩
def rJ(w:World)(t:TypeId)(es:List h')(e:Ending)(w':World):Prop:=
 ∃v,e= .returned (.tuple #[v,int i64 0])∧w'.ownsRow w.heap.size t 4 v es.length (flat h'.enc es)∧Below w.heap.size w w'
theorem rJ.mk{es:List h'}{e:Ending}{w':World}(v:Value)(o:e= .returned (.tuple #[v,int i64 0]))(r:w'.ownsRow w.heap.size t 4 v es.length (flat h'.enc es))(z:Below w.heap.size w w'):rJ w t es e w':=⟨v,o,r,z⟩
theorem xy(A:Option Addr)(n c:Nat)(ds:List h')(d:h')(w:World)(U:hV w w.heap.size A n 4 (flat h'.enc ds))(ad:A=none→n=0∧c=0)(h:pg d)(aj:qF d)(aP:n<256):
 Calls prog 163 #[.slice A n c,.agg #[int i64 d.ac,int i64 d.me,int u64 d.am,.bool d.nw]] w (rJ w 102 (ds++[d])):=by
 obtain⟨ae,af,ag,ah,ai⟩:=info_parts wk;have aQ:decide ((d.am:Int)<1)=false:=by rw[decide_eq_false_iff_not];have:=aj.1;omega
 have aR:decide ((4611686018427387904:Int)<d.am)=false:=by rw[decide_eq_false_iff_not];have:=aj.2;omega
 clear aj;have aS:decide ((256:Int)≤n)=false:=by simp;omega
 have aH:=g' (U.len h'.len (by omega));obtain⟨ak,al,an,ao,ap⟩:=h;obtain⟨aI,aJ⟩:=hg (lf d.ac 0 63 ak al) (lf d.me 0 127 an ao);have aK:(d.nw=true∧(d.me !=0)=false)∨d.nw=false:=by
  by_cases aq:d.nw=true
  ·exact .inl ⟨aq,by rw[ap aq];rfl⟩
  exact .inr (by simpa using aq)
 rcases aK with⟨O,d1⟩|O
 ·have ar:=g' O
  rw[O];clear ak al an ao ap O;obtain⟨o,z⟩:=ho (w.alloc (.cells #[int i64 d.ac,int i64 d.me,int u64 d.am,.bool true] 102));have Q:Below w.heap.size w o:=by rw[←z];exact hz.alloc hj _
  have I:w.heap.size<o.heap.size:=by rw[←z];simp
  have au:o.cell? ⟨w.heap.size,0,none⟩=some (int i64 d.ac):=by rw[←z,World.cell?_alloc_at _ _ _ _ rfl];rfl
  have av:o.cell? ⟨w.heap.size,1,none⟩=some (int i64 d.me):=by rw[←z,World.cell?_alloc_at _ _ _ _ rfl];rfl
  have aw:o.cell? ⟨w.heap.size,2,none⟩=some (int u64 d.am):=by rw[←z,World.cell?_alloc_at _ _ _ _ rfl];rfl
  have ax:o.cell? ⟨w.heap.size,3,none⟩=some (.bool true):=by rw[←z,World.cell?_alloc_at _ _ _ _ rfl];rfl
  obtain⟨V,ay,az⟩:=hs (U.to Q) z (show flat h'.enc [d]=[int i64 d.ac,int i64 d.me,int u64 d.am,.bool true] by rw[mi,h'.enc,ar.out]);clear U z;go_enter func163,ntmps163;go_wp2_with fail;rw[ay.out];refine hE (aI _) ?_;go_wp2_with fail;refine hE (aJ _) ?_;go_wp2;have aA:=g' (kp o [int i64 d.ac,int i64 d.me,int u64 d.am,.bool true] 102 o.heap.size rfl);have W:∀u∈[Value.int i64 d.ac,int i64 d.me,int u64 d.am,.bool true],u.oneCell'=true:=by simp[Value.oneCell']
  have X:n+1≤maxLen:=by unfold maxLen;omega
  have Y:(n+1)*32≤140737488355328:=by omega
  go_region_law (first
   |(go_simp;go_at_call 34;refine(qA A n c ds _ (V.to (show Below o.heap.size o o.drew from hz.drew)) (by omega) ad).mono ?_;rintro e D ⟨v,rfl,G,E⟩;have r:Below o.heap.size o D:=(show Below o.heap.size o o.drew from hz.drew).trans E;have F:=mL G hj;have J:=r.size;have aL:=jt r I au;have aM:=jt r I av;have aN:=jt r I aw;have aO:=jt r I ax;clear E G)
   |(go_simp;go_at_call 34;refine(qA A n c ds _ (V.to (show Below o.heap.size o (o.alloc (.cells #[int i64 d.ac,int i64 d.me,int u64 d.am,.bool true] 102)).drew from(hz.alloc hj _).drew)) (by omega) ad).mono ?_;rintro e D ⟨v,rfl,G,E⟩;have r:Below o.heap.size o D:=(show Below o.heap.size o (o.alloc (.cells #[int i64 d.ac,int i64 d.me,int u64 d.am,.bool true] 102)).drew from(hz.alloc hj _).drew).trans (E.mono (by simp));have aB:∀j u,[Value.int i64 d.ac,int i64 d.me,int u64 d.am,.bool true][j]?=some u→D.cell? ((⟨o.heap.size,0,none⟩:Addr).add j)=some u:=fun j u aC=>(E.cell (by rw[block_add];simp)).trans (aA j u aC);have F:=mL G (b:=o.heap.size) (by simp);have J:=r.size;clear E G)
   |(refine step_append_lies _ (by rfl) _ _ _ (by rfl) o.heap.size 102 ae _ 4 32 nV af ag ah ai rfl (by omega) v n (flat h'.enc ds) (by rfl) F ⟨o.heap.size,0,none⟩ 1 1 [int i64 d.ac,int i64 d.me,int u64 d.am,.bool true] (by rfl) (by rfl) aB W (by omega) X Y J D.heap.size rfl ?_;intro Z aa R S K aD aE)
   |(refine step_append_lies _ (by rfl) _ _ _ (by rfl) o.heap.size 102 ae _ 4 32 nV af ag ah ai rfl (by omega) v n (flat h'.enc ds) (by rfl) (F.alloc _) ⟨D.heap.size,0,none⟩ 1 1 [int i64 d.ac,int i64 d.me,int u64 d.am,.bool true] (by rfl) (by rfl) (kp _ _ _ _ rfl) W (by omega) X Y (by simp;omega) (D.heap.size+1) (by simp) ?_;intro Z aa R S K aD aE))
  all_goals
   have ab:Below o.heap.size o R:=by
    first
     |exact r.grown K J (fun j T=>(F.lt j T).1)
     |exact(r.alloc J _).grown K (by simp;omega) (fun j T=>(F.lt j T).1)
   have aF:=g' (Q.trans (ab.mono Q.size));have aG:=g' (show R.ownsRow w.heap.size 102 4 (.slice (some ⟨Z,0,none⟩) (n+1) aa) (ds++[d]).length (flat h'.enc (ds++[d])) by
    rw[List.length_append,aH.out,ld,az.out];exact mL S (by omega))
   clear K S ab F r;go_wp2;go_ret2;exact rJ.mk _ rfl aG aF.out
 have ar:=g' O;rw[O];clear ak al an ao ap O;obtain⟨o,z⟩:=ho (w.alloc (.cells #[int i64 d.ac,int i64 d.me,int u64 d.am,.bool false] 102));have Q:Below w.heap.size w o:=by rw[←z];exact hz.alloc hj _
 have I:w.heap.size<o.heap.size:=by rw[←z];simp
 have au:o.cell? ⟨w.heap.size,0,none⟩=some (int i64 d.ac):=by rw[←z,World.cell?_alloc_at _ _ _ _ rfl];rfl
 have av:o.cell? ⟨w.heap.size,1,none⟩=some (int i64 d.me):=by rw[←z,World.cell?_alloc_at _ _ _ _ rfl];rfl
 have aw:o.cell? ⟨w.heap.size,2,none⟩=some (int u64 d.am):=by rw[←z,World.cell?_alloc_at _ _ _ _ rfl];rfl
 have ax:o.cell? ⟨w.heap.size,3,none⟩=some (.bool false):=by rw[←z,World.cell?_alloc_at _ _ _ _ rfl];rfl
 obtain⟨V,ay,az⟩:=hs (U.to Q) z (show flat h'.enc [d]=[int i64 d.ac,int i64 d.me,int u64 d.am,.bool false] by rw[mi,h'.enc,ar.out]);clear U z;go_enter func163,ntmps163;go_wp2_with fail;rw[ay.out];refine hE (aI _) ?_;go_wp2_with fail;refine hE (aJ _) ?_;go_wp2;have aA:=g' (kp o [int i64 d.ac,int i64 d.me,int u64 d.am,.bool false] 102 o.heap.size rfl);have W:∀u∈[Value.int i64 d.ac,int i64 d.me,int u64 d.am,.bool false],u.oneCell'=true:=by simp[Value.oneCell']
 have X:n+1≤maxLen:=by unfold maxLen;omega
 have Y:(n+1)*32≤140737488355328:=by omega
 go_region_law (first
  |(go_simp;go_at_call 34;refine(qA A n c ds _ (V.to (show Below o.heap.size o o.drew from hz.drew)) (by omega) ad).mono ?_;rintro e D ⟨v,rfl,G,E⟩;have r:Below o.heap.size o D:=(show Below o.heap.size o o.drew from hz.drew).trans E;have F:=mL G hj;have J:=r.size;have aL:=jt r I au;have aM:=jt r I av;have aN:=jt r I aw;have aO:=jt r I ax;clear E G)
  |(go_simp;go_at_call 34;refine(qA A n c ds _ (V.to (show Below o.heap.size o (o.alloc (.cells #[int i64 d.ac,int i64 d.me,int u64 d.am,.bool false] 102)).drew from(hz.alloc hj _).drew)) (by omega) ad).mono ?_;rintro e D ⟨v,rfl,G,E⟩;have r:Below o.heap.size o D:=(show Below o.heap.size o (o.alloc (.cells #[int i64 d.ac,int i64 d.me,int u64 d.am,.bool false] 102)).drew from(hz.alloc hj _).drew).trans (E.mono (by simp));have aB:∀j u,[Value.int i64 d.ac,int i64 d.me,int u64 d.am,.bool false][j]?=some u→D.cell? ((⟨o.heap.size,0,none⟩:Addr).add j)=some u:=fun j u aC=>(E.cell (by rw[block_add];simp)).trans (aA j u aC);have F:=mL G (b:=o.heap.size) (by simp);have J:=r.size;clear E G)
  |(refine step_append_lies _ (by rfl) _ _ _ (by rfl) o.heap.size 102 ae _ 4 32 nV af ag ah ai rfl (by omega) v n (flat h'.enc ds) (by rfl) F ⟨o.heap.size,0,none⟩ 1 1 [int i64 d.ac,int i64 d.me,int u64 d.am,.bool false] (by rfl) (by rfl) aB W (by omega) X Y J D.heap.size rfl ?_;intro Z aa R S K aD aE)
  |(refine step_append_lies _ (by rfl) _ _ _ (by rfl) o.heap.size 102 ae _ 4 32 nV af ag ah ai rfl (by omega) v n (flat h'.enc ds) (by rfl) (F.alloc _) ⟨D.heap.size,0,none⟩ 1 1 [int i64 d.ac,int i64 d.me,int u64 d.am,.bool false] (by rfl) (by rfl) (kp _ _ _ _ rfl) W (by omega) X Y (by simp;omega) (D.heap.size+1) (by simp) ?_;intro Z aa R S K aD aE))
 all_goals
  have ab:Below o.heap.size o R:=by
   first
    |exact r.grown K J (fun j T=>(F.lt j T).1)
    |exact(r.alloc J _).grown K (by simp;omega) (fun j T=>(F.lt j T).1)
  have aF:=g' (Q.trans (ab.mono Q.size));have aG:=g' (show R.ownsRow w.heap.size 102 4 (.slice (some ⟨Z,0,none⟩) (n+1) aa) (ds++[d]).length (flat h'.enc (ds++[d])) by
   rw[List.length_append,aH.out,ld,az.out];exact mL S (by omega))
  clear K S ab F r;go_wp2;go_ret2;exact rJ.mk _ rfl aG aF.out
section
variable {P:Program}
theorem xz(w:World)(F Q R A:TypeId)(D m g o G S:Nat)(a:Addr)(I T:Nat)(z:Array Value)(t:TypeId)(r:List Value)
 (U:P.underlying F=some (.slice A)) (J:(P.info? A).map (·.size)=some D)
 (V:w.heap[g]?=some (.cells z t (0,0))) (W:m=Nat.min I G) (K:r.length=m*D)
 (X:∀j v,r[j]?=some v→w.cell? (a.add j)=some v) (Y:o+r.length≤z.size) (Z:∀v∈r,v.oneCell'=true):
 (Builtin.copy_ #[F,Q] R #[.slice (some ⟨g,o,none⟩) G S,.slice (some a) I T]).run P w=
   .ok (goInt m) (w.setRow g (z.toList.take o++r++z.toList.drop (o+r.length)).toArray):=by
 have O:=run_loadCells_list (P:=P) w a r X;have aa:=run_storeCells_at P g o t r 0 z w V (by simpa using Y) Z;cases E:P.info? A with
 |none=>simp[E]at J
 |some i=>
  have ab:i.size=D:=by simpa[E]using J
  rw[K]at O;simp[Builtin.copy_,run_underlying U,Builtin.lenOf,Builtin.firstCells,sizeOf,typeInfo,E,ab,←W,O,aa,K]
theorem xA{O:Array Oper}{R:List Oper}{o:Oper}{a:Act}{Q:Exit→Act→World→Prop}(X:o.guard=none)(d s:Operand)(D S:TypeId)
 (Y:o.op= .call {callee:= .builtin .copy,args:= #[d,s],argTypes:= #[D,S]}) (E:TypeId) (Z:P.underlying D=some (.slice E)) (F:Nat) (aa:(P.info? E).map (·.size)=some F)
 (g z G T:Nat) (I:Addr) (J U:Nat) (ab:a.eval d= .slice (some ⟨g,z,none⟩) G T) (ac:a.eval s= .slice (some I) J U)
 (A:List Value) (t:TypeId) (V:w.heap[g]?=some (.cells A.toArray t (0,0))) (m:Nat) (ad:m=Nat.min J G) (r:List Value) (ae:r.length=m*F)
 (af:∀j v,r[j]?=some v→w.cell? (I.add j)=some v)
 (ag:z+r.length≤A.length) (ah:∀v∈r,v.oneCell'=true) (B:Nat) (W:World) (ai:Below B W w) (aj:B≤g)
 (h:∀w',Hid (w'.heap[g]?=some (.cells (splice A z r).toArray t (0,0)))→Below B W w'→(∀k,k≠g→w'.heap[k]?=w.heap[k]?)→wpList P O Q R (a.put o.dst (goInt m)) w'):
 wpList P O Q (o::R) a w:=by
 refine wpList_plain X fun K ak=>?_;have al:=xz (P:=P) w D S o.type E F m g z G T I J U A.toArray t r Z aa V ad ae af (by simpa using ag) ah;unfold Oper.wp;simp[execOp,Y,resolve,invoke,builtin,ab,ac,al,Result.andThen];exact ak _ _ (h _ (show _=_ by simpa[splice]using setRow_heap w g _ _ t _ V) (below_setRow ai aj _) (fun k am=>setRow_other w g k _ am))
theorem xB{R:Array Oper}{o:Oper}{a:Act}{K:Act→World→Prop}{Q:Exit→Act→World→Prop}{E:Prop}(X:o.guard=none)(d s:Operand)(D S:TypeId)
 (Y:o.op= .call {callee:= .builtin .copy,args:= #[d,s],argTypes:= #[D,S]}) (F:TypeId) (Z:P.underlying D=some (.slice F)) (G:Nat) (aa:(P.info? F).map (·.size)=some G)
 (g z I T:Nat) (J:Addr) (O U:Nat) (ab:a.eval d= .slice (some ⟨g,z,none⟩) I T) (ac:a.eval s= .slice (some J) O U)
 (A:List Value) (t:TypeId) (V:w.heap[g]?=some (.cells A.toArray t (0,0))) (m:Nat) (ad:m=Nat.min O I) (r:List Value) (ae:r.length=m*G)
 (af:∀j v,r[j]?=some v→w.cell? (J.add j)=some v)
 (ag:z+r.length≤A.length) (ah:∀v∈r,v.oneCell'=true) (B:Nat) (W:World) (ai:Below B W w) (aj:B≤g)
 (h:∀w',Hid (w'.heap[g]?=some (.cells (splice A z r).toArray t (0,0)))→Below B W w'→(∀k,k≠g→w'.heap[k]?=w.heap[k]?)→K (a.put o.dst (goInt m)) w'):
 if Region.wanted o (yielded R a.tmps)=true then Oper.wp P o a w K Q else E:=by
 have ak:Region.wanted o (yielded R a.tmps)=true:=by simp[Region.wanted,X]
 rw[if_pos ak];have al:=xz (P:=P) w D S o.type F G m g z I T J O U A.toArray t r Z aa V ad ae af (by simpa using ag) ah;unfold Oper.wp;simp[execOp,Y,resolve,invoke,builtin,ab,ac,al,Result.andThen];exact h _ (show _=_ by simpa[splice]using setRow_heap w g _ _ t _ V) (below_setRow ai aj _) (fun k am=>setRow_other w g k _ am)
end
theorem Ct(o Y X:List Value)(n p:Nat)(r:Y.length=3)(A:X.length=n*3)(D:p≤n)(E:(n+1)*3≤o.length)(z:o.take (n*3)=X):
 (splice (splice o ((p+1)*3) (X.drop (p*3))) (p*3) Y).take ((n+1)*3)=X.take (p*3)++(Y++X.drop (p*3)):=by
 subst z;apply List.ext_getElem?;intro j;unfold splice;simp only[List.getElem?_take,List.getElem?_append,List.length_take,List.length_append,List.length_drop,List.getElem?_drop,r];repeat' split
 all_goals first|rfl|(exfalso;omega)|(congr 1;omega)|(simp;omega)|skip
theorem Cu(o Y X:List Value)(n p:Nat)(r:Y.length=3)(E:X.length=n*3)(F:p≤n)(G:(n+1)*3≤o.length)(z:o.take (p*3)=X.take (p*3)):
 (splice (splice o (p*3) Y) ((p+1)*3) (X.drop (p*3))).take ((n+1)*3)=X.take (p*3)++(Y++X.drop (p*3)):=by
 have A:∀j,j<p*3→o[j]?=X[j]? :=fun j D=>by
  have:=congrArg (fun l=>l[j]?) z;simpa[List.getElem?_take,D]using this
 apply List.ext_getElem?;intro j;unfold splice;simp only[List.getElem?_take,List.getElem?_append,List.length_take,List.length_append,List.length_drop,List.getElem?_drop,r];repeat' split
 all_goals first|rfl|(exfalso;omega)|(congr 1;omega)|(simp;omega)|(exact A _ (by omega))|skip
theorem Cv(w:World):(Go.sizeOf 57).run prog w= .ok 3 w:=by
 obtain⟨z,o,A,r,D⟩:=info_parts qz;simp[Go.sizeOf,typeInfo,o,r]
theorem sS:(prog.info? 57).map (·.size)=some 3:=by
 obtain⟨z,o,A,r,D⟩:=info_parts qz;rw[o];simp[r]
theorem Cw(w:World)(a b:Addr)(z A lb D:Nat)(G:a.block≠b.block)(E F:TypeId)(o r:Nat)(I:w.shape? a.block=some (E,o))(J:w.shape? b.block=some (F,r))(K:r≠0)
 (O:w.frozen? a=false) (Q:w.frozen? {block:=a.block,off:=o}=false):
 (callFunc 271 #[.slice (some a) z A,.slice (some b) lb D]).run prog w= .ok (.value (.bool false)) w:=by
 rw[run_callFunc_extern func271 (by kernel_rfl) (by kernel_rfl) (by kernel_rfl) (e:=Extern.SlicesOverlaps.overlaps #[42,42] #[4]) (by kernel_rfl),
  Lib.run_overlaps_apart w 42 4 57 lT 3 Cv a b z A lb D G E F o r I J K O Q]
 rfl
theorem xC(x:Du):∀v∈Du.enc x,v.oneCell'=true:=fun v o=>by
 simp[Du.enc]at o;rcases o with rfl|rfl|rfl<;>rfl
theorem xD{α:Type}{enc:α→List Value}(h:∀d,(enc d).length=n)(es:List α)(p:Nat)(r:p≤es.length):flat enc (es.take p)=(flat enc es).take (p*n):=by
 have o:=ld enc (es.take p) (es.drop p);have z:(flat enc (es.take p)).length=p*n:=by rw[mh h,List.length_take,Nat.min_eq_left r]
 rw[List.take_append_drop]at o;rw[o,←z,List.take_left]
theorem xE{α:Type}{enc:α→List Value}(h:∀d,(enc d).length=n)(es:List α)(p:Nat)(r:p≤es.length):flat enc (es.drop p)=(flat enc es).drop (p*n):=by
 have o:=ld enc (es.take p) (es.drop p);have z:(flat enc (es.take p)).length=p*n:=by rw[mh h,List.length_take,Nat.min_eq_left r]
 rw[List.take_append_drop]at o;rw[o,←z,List.drop_left]
theorem alloc_old(W:World)(o:Obj)(h:g<W.heap.size):(W.alloc o).heap[g]?=W.heap[g]? :=by
 show(W.heap.push o)[g]?=_;rw[Array.getElem?_push_lt h,Array.getElem?_eq_getElem h]
theorem um(W:World)(o:Obj):(W.alloc o).heap[W.heap.size]?=some o:=by
 show(W.heap.push o)[W.heap.size]?=_;exact Array.getElem?_push_size
theorem Cx(x:Du)(es:List Du)(p:Nat)(ax:p<es.length)(ay:es.length≤1000000)(W:World)(F g c:Nat)(K:Array Value)(V:F≤g)(ah:W.heap[g]?=some (.cells K 57 (0,0)))
 (az:es.length+1≤c) (aA:c≤maxLen) (ai:K.size=c*3) (A:K.toList.take (es.length*3)=flat Du.enc es):
 Calls prog 265 #[.slice (some ⟨g,0,none⟩) es.length c,int i64 p,.slice (some ⟨W.heap.size,0,none⟩) 1 1] (W.alloc (.cells #[int i64 x.ac,int i64 x.ti,int u64 x.am] 57)) (pe F W es x p):=by
 obtain⟨n,O⟩:=ho es.length;have aB:=g' O;have Q:(flat Du.enc es).length=n*3:=by rw[mh Du.len,O]
 rw[O]at ax ay az A⊢;obtain⟨X,G⟩:=hk (flat Du.enc es);have aj:∀v∈X,v.oneCell'=true:=by rw[G];exact Du.one es
 rw[←G]at A Q;obtain⟨r,D⟩:=hk (X.drop (p*3));have aC:∀v∈r,v.oneCell'=true:=fun v ak=>aj v (by rw[D]at ak;exact List.mem_of_mem_drop ak);have al:r.length=(n-p)*3:=by rw[D,List.length_drop,Q];omega
 obtain⟨o,R⟩:=hk K.toList;have S:W.heap[g]?=some (.cells o.toArray 57 (0,0)):=by rw[R];simpa using ah
 have aD:o.length=c*3:=by rw[R];simpa using ai
 rw[←R]at A;have aE:g<W.heap.size:=by
  rcases Nat.lt_or_ge g W.heap.size with h|h
  ·exact h
  rw[Array.getElem?_eq_none h]at S;cases S
 obtain⟨z,I⟩:=hk (W.alloc (.cells #[int i64 x.ac,int i64 x.ti,int u64 x.am] 57));have an:Below F W z:=by rw[I];exact hz.alloc (by omega) _
 have T:z.heap[g]?=some (.cells o.toArray 57 (0,0)):=by
  rw[I,alloc_old _ _ aE,S]
 have J:z.heap[W.heap.size]?=some (.cells #[int i64 x.ac,int i64 x.ti,int u64 x.am] 57 (0,0)):=by
  rw[I];exact um _ _
 have ao:∀lb Z,(callFunc 271 #[.slice (some ⟨W.heap.size,0,none⟩) 1 1,.slice (some ⟨g,(p+1)*3,none⟩) lb Z]).run prog z= .ok (.value (.bool false)) z:=fun lb Z=>
  Cw z ⟨W.heap.size,0,none⟩ ⟨g,(p+1)*3,none⟩ 1 1 lb Z (by show W.heap.size≠g;omega) 57 57 3 o.length (by simp[World.shape?,J]) (by simp[World.shape?,T]) (by omega) (by simp[World.frozen?,J]) (by simp[World.frozen?,J])
 have ap:∀w':World,w'.heap[g]?=some (.cells o.toArray 57 (0,0))→∀j v,r[j]?=some v→w'.cell? ((⟨g,p*3,none⟩:Addr).add j)=some v:=fun w' aa j v U=>by
  have E:X[p*3+j]?=some v:=by rw[D,List.getElem?_drop]at U;exact U
  have ab:o[p*3+j]?=some v:=by
   rw[←A,List.getElem?_take]at E;split at E
   ·exact E
   cases E
  rw[Addr.add_lit];simp[World.cell?,aa,ab]
 have aq:∀w':World,w'.heap[W.heap.size]?=some (.cells #[int i64 x.ac,int i64 x.ti,int u64 x.am] 57 (0,0))→∀j v,(Du.enc x)[j]?=some v→w'.cell? ((⟨W.heap.size,0,none⟩:Addr).add j)=some v:=fun w' aa j v U=>by
  have aF:(#[int i64 x.ac,int i64 x.ti,int u64 x.am]:Array Value)[j]?=some v:=by simpa[Du.enc]using U
  rw[Addr.add_lit];simp[World.cell?,aa,aF]
 have ad:=Ct o (Du.enc x) X n p rfl Q (by omega) (by omega) A;rw[←D]at ad;unfold maxLen at aA;have ar:=g' ad;have ae:=g' (show flat Du.enc (es.take p++x::es.drop p)=X.take (p*3)++(Du.enc x++r) by
  have E:flat Du.enc (es.take p)=X.take (p*3):=by rw[G];exact xD Du.len es p (by omega)
  have ab:flat Du.enc (es.drop p)=r:=by rw[D,G];exact xE Du.len es p (by omega)
  rw[ld,E,show x::es.drop p=[x]++es.drop p from rfl,ld,mi,ab])
 obtain⟨Y,af⟩:=hk (Du.enc x);have au:=xC x;have aG:Y.length=3:=by rw[af];rfl
 rw[←af]at aq ar ae au;rw[←I];have aP:((p:Int)==(n:Int))=false:=by rw[beq_eq_false_iff_ne];omega
 have aQ:i64.wrap ((n:Int)+1)=(n:Int)+1:=by rw[IntKind.wrap_i64];omega
 have aR:i64.wrap ((p:Int)+1)=(p:Int)+1:=by rw[IntKind.wrap_i64];omega
 have aS:¬((c:Int)<(n:Int)+1):=by omega
 have aT:(p:Int)≤(n:Int):=by omega
 have aU:¬(c=p+1):=by omega
 have aV:¬(c=p):=by omega
 have aW:((p:Int)+1).toNat=p+1:=by omega
 have aX:((n:Int)+1).toNat=n+1:=by omega
 have aY:(p:Int)≤(n:Int)+1:=by omega
 have aZ:(0:Int)≤(p:Int)+1:=by omega
 have a0:prog.follows Departure.mixedOrders=true:=by kernel_rfl
 clear I G D af O ah ai A R ad aj S;go_enter func265,ntmps265;go_wp2_with (simp only[ao]);go_region_law_o (refine xB rfl (.tmp 73) (.tmp 76) 42 42 rfl 57 lT 3 sS g ((p+1)*3) (n+1-(p+1)) (c-(p+1)) ⟨g,p*3,none⟩ (n+1-p) (c-p) (by simp[Act.eval,Act.put]) (by simp[Act.eval,Act.put]) o 57 T (n-p) (by simp only[Nat.min_def];split<;>omega) r al (ap _ T) (by omega) aC F W an.drew V ?_;intro aH aI aJ av)
 have aw:∀k,k≠g→aH.heap[k]?=z.heap[k]? :=av;have aK:=(aw W.heap.size (by omega)).trans J;have ag:=g' (length_splice o ((p+1)*3) r (by omega));clear ao av aw J T an ap;go_wp2_with (refine xA rfl (.tmp 80) (.tmp 81) 42 42 rfl 57 lT 3 sS g (p*3) _ _ ⟨W.heap.size,0,none⟩ _ _ rfl rfl _ 57 aI 1 (by simp only[Nat.min_def];split<;>omega) Y (by omega) (aq _ aK) (by rw[ag.out];omega) au F W aJ V ?_;intro a1 aL aM a2);go_ret;have aN:=aB.out;have aO:=length_splice (splice o ((p+1)*3) r) (p*3) Y (by rw[ag.out];omega);refine pe.mk _ rfl (by
  rw[aN];refine⟨?_,.inr ⟨g,c,_,rfl,V,aL,by omega,by unfold maxLen;omega,?_,?_⟩⟩
  ·rw[ae.out]
   simp only[List.length_append,List.length_take,Q,aG,al];omega
  ·rw[List.size_toArray,aO,ag.out,aD]
  rw[ae.out,←ar.out]) aM
theorem xF(z:Array Value)(k:Nat)(o:z.size=3):(Builtin.zeroCells z k).size=k*3:=by
 simp[Builtin.zeroCells,o]
theorem Cy(X:List Value)(Z:Array Value)(n p G:Nat)(r:X.length=n*3)(E:p≤n)(F:n+1≤G)(z:Z.size=3):
 ∃o:List Value,o.toArray=(X.take (p*3)).toArray++Builtin.zeroCells Z (n+1-p)++Builtin.zeroCells Z (G-(n+1))∧o.length=G*3∧o.take (p*3)=X.take (p*3):=by
 refine⟨((X.take (p*3)).toArray++Builtin.zeroCells Z (n+1-p)++Builtin.zeroCells Z (G-(n+1))).toList,by simp,?_,?_⟩
 ·have A:=xF Z (n+1-p) z
  have D:=xF Z (G-(n+1)) z;simp only[Array.length_toList,Array.size_append,A,D,List.size_toArray,List.length_take,r];omega
 simp only[Array.toList_append,List.append_assoc];rw[List.take_append_of_le_length (by simp[r];omega),List.take_of_length_le (by simp;omega)]
theorem Cz(x:Du)(es:List Du)(p:Nat)(aK:p<es.length)(aL:es.length≤1000000)(W:World)(z g:Nat)(Q:Array Value)(an:W.heap[g]?=some (.cells Q 57 (0,0)))
 (aa:Q.size=es.length*3) (R:Q.toList.take (es.length*3)=flat Du.enc es) (aM:z≤W.heap.size):
 Calls prog 265 #[.slice (some ⟨g,0,none⟩) es.length es.length,int i64 p,.slice (some ⟨W.heap.size,0,none⟩) 1 1] (W.alloc (.cells #[int i64 x.ac,int i64 x.ti,int u64 x.am] 57)) (pe z W es x p):=by
 obtain⟨n,S⟩:=ho es.length;have aN:=g' S;have J:(flat Du.enc es).length=n*3:=by rw[mh Du.len,S]
 rw[S]at aK aL R aa⊢;obtain⟨X,K⟩:=hk (flat Du.enc es);have ao:∀v∈X,v.oneCell'=true:=by rw[K];exact Du.one es
 rw[←K]at R J;obtain⟨A,D⟩:=hk (X.drop (p*3));have aO:∀v∈A,v.oneCell'=true:=fun v ap=>ao v (by rw[D]at ap;exact List.mem_of_mem_drop ap);have aq:A.length=(n-p)*3:=by rw[D,List.length_drop,J];omega
 have ar:Q.toList=X:=by rw[←R,List.take_of_length_le (by simp[aa])]
 have T:W.heap[g]?=some (.cells X.toArray 57 (0,0)):=by rw[←ar];simpa using an
 have aP:g<W.heap.size:=by
  rcases Nat.lt_or_ge g W.heap.size with h|h
  ·exact h
  rw[Array.getElem?_eq_none h]at T;cases T
 obtain⟨o,E⟩:=hk (W.alloc (.cells #[int i64 x.ac,int i64 x.ti,int u64 x.am] 57));have au:Below z W o:=by rw[E];exact hz.alloc aM _
 have av:o.heap.size=W.heap.size+1:=by rw[E];simp
 have ab:o.heap[g]?=some (.cells X.toArray 57 (0,0)):=by
  rw[E,alloc_old _ _ aP,T]
 have aw:o.heap[W.heap.size]?=some (.cells #[int i64 x.ac,int i64 x.ti,int u64 x.am] 57 (0,0)):=by
  rw[E];exact um _ _
 have ad:∀w':World,w'.heap[g]?=some (.cells X.toArray 57 (0,0))→∀q,∀j v,(X.drop (q*3))[j]?=some v→w'.cell? ((⟨g,q*3,none⟩:Addr).add j)=some v:=fun w' O q j v r=>by
  have ae:X[q*3+j]?=some v:=by rw[List.getElem?_drop]at r;exact r
  rw[Addr.add_lit];simp[World.cell?,O,ae]
 have ax:∀w':World,w'.heap[W.heap.size]?=some (.cells #[int i64 x.ac,int i64 x.ti,int u64 x.am] 57 (0,0))→∀j v,(Du.enc x)[j]?=some v→w'.cell? ((⟨W.heap.size,0,none⟩:Addr).add j)=some v:=fun w' O j v r=>by
  have aQ:(#[int i64 x.ac,int i64 x.ti,int u64 x.am]:Array Value)[j]?=some v:=by simpa[Du.enc]using r
  rw[Addr.add_lit];simp[World.cell?,O,aQ]
 obtain⟨ay,az,aA,aB,af⟩:=info_parts qz;have aC:(Builtin.firstCells ay.size p (.slice (some ⟨g,0,none⟩) p n)).run prog o.drew= .ok (X.take (p*3)).toArray o.drew:=by
  rw[aB];exact run_firstCells_some o.drew 3 p ⟨g,0,none⟩ p n (X.take (p*3)) (by rw[List.length_take];omega) (fun j v r=>by
   rw[List.getElem?_take]at r;split at r
   ·simpa using ad o.drew ab 0 j v (by simpa using r)
   cases r)
 have ag:p+(n+1-p)=n+1:=by omega
 have aD:(n:Int)+1-(p:Int)=((n+1-p:Nat):Int):=by omega
 obtain⟨G,U⟩:=hk (grownCap o (n+1) n 57);have aR:n+1≤G:=by rw[U];exact grownCap_ge o _ _ _
 have a9:G≤9223372036854775807:=by
  have:=grownCap_le_maxLen o (n+1) n 57 (by unfold maxLen;omega);rw[←U]at this;unfold maxLen at this;omega
 obtain⟨F,aE,aF,aG⟩:=Cy X (Value.agg #[int i64 0,int i64 0,int u64 0]).cells n p G J (by omega) aR rfl;have aH:∀ah,(Builtin.append_ #[42,3] ah #[.slice (some ⟨g,0,none⟩) p n,int i64 ((n:Int)+1-(p:Int))]).run prog o=
  .ok (.slice (some ⟨W.heap.size+1,0,none⟩) (n+1) G) (o.drew.alloc (.cells F.toArray 57)):=fun ah=>by
  have h:=Lib.run_append_grow_zeros o 42 3 ah 57 ay _ i64 i64 lT j9 az aA (some ⟨g,0,none⟩) p n (X.take (p*3)) aC (n+1-p) (by omega) (by omega) (by omega) (by omega) (by rw[af];omega) (by rw[af,ag];exact growslice_fits (by omega) (by omega));rw[ag,av,←U]at h;rw[aD,aE];exact h
 obtain⟨V,I⟩:=hk (o.drew.alloc (.cells F.toArray 57));rw[←I]at aH;have aS:Below z W V:=by rw[I];exact au.drew.alloc (by show z≤o.heap.size;omega) _
 have aT:V.heap[W.heap.size+1]?=some (.cells F.toArray 57 (0,0)):=by rw[I,←av];exact um o.drew _
 have aU:V.heap[g]?=some (.cells X.toArray 57 (0,0)):=by rw[I];exact(alloc_old o.drew _ (by show g<o.heap.size;omega)).trans ab
 have aV:V.heap[W.heap.size]?=some (.cells #[int i64 x.ac,int i64 x.ti,int u64 x.am] 57 (0,0)):=by rw[I];exact(alloc_old o.drew _ (by show W.heap.size<o.heap.size;omega)).trans aw
 have ai:=Cu F (Du.enc x) X n p rfl J (by omega) (by omega) aG;rw[←D]at ai;have aI:=g' ai;have aj:=g' (show flat Du.enc (es.take p++x::es.drop p)=X.take (p*3)++(Du.enc x++A) by
  have ae:flat Du.enc (es.take p)=X.take (p*3):=by rw[K];exact xD Du.len es p (by omega)
  have aW:flat Du.enc (es.drop p)=A:=by rw[D,K];exact xE Du.len es p (by omega)
  rw[ld,ae,show x::es.drop p=[x]++es.drop p from rfl,ld,mi,aW])
 obtain⟨Y,ak⟩:=hk (Du.enc x);have aJ:=xC x;have aX:Y.length=3:=by rw[ak];rfl
 rw[←ak]at ax aI aj aJ;obtain⟨aY,al,Z⟩:=hs (fun w' O=>D▸ad w' O p) (length_splice F (p*3) Y (by omega)) aF;rw[←E];have a':((p:Int)==(n:Int))=false:=by rw[beq_eq_false_iff_ne];omega
 have ba:i64.wrap ((n:Int)+1)=(n:Int)+1:=by rw[IntKind.wrap_i64];omega
 have bb:i64.wrap ((p:Int)+1)=(p:Int)+1:=by rw[IntKind.wrap_i64];omega
 have bc:i64.wrap ((n:Int)+1-(p:Int))=(n:Int)+1-(p:Int):=by rw[IntKind.wrap_i64];omega
 have bd:(n:Int)<(n:Int)+1:=by omega
 have be:(p:Int)≤(n:Int):=by omega
 have bf:¬(G=p+1):=by omega
 have bg:¬(n=p):=by omega
 have bh:¬(G=p):=by omega
 have bi:((p:Int)+1).toNat=p+1:=by omega
 have bj:(0:Int)≤(p:Int)+1:=by omega
 have bk:(p:Int)≤(n:Int)+1:=by omega
 have bl:prog.follows Departure.mixedOrders=true:=by kernel_rfl
 clear E K D ak S an aa R aE ai ao T ar ad aC ag aD U aF aG I ab aw az aA aB af au;go_enter func265,ntmps265;go_wp2_with (first
  |(at_builtin;refine Lib.wpList_append_run _ rfl _ _ _ _ rfl _ _ rfl rfl _ _ (aH _) ?_)
  |(refine xA rfl (.tmp 43) (.tmp 44) 42 42 rfl 57 lT 3 sS (W.heap.size+1) (p*3) _ _ ⟨W.heap.size,0,none⟩ _ _ rfl rfl _ 57 aT 1 (by simp only[Nat.min_def];split<;>omega) Y (by omega) (ax _ aV) (by rw[Z.out];omega) aJ z W aS (by omega) ?_;intro aZ a0 a1 a2))
 have a3:=(a2 g (by omega)).trans aU;have a4:=aY.out aZ a3;go_region_law_o (refine xB rfl (.tmp 50) (.tmp 53) 42 42 rfl 57 lT 3 sS (W.heap.size+1) ((p+1)*3) (n+1-(p+1)) (G-(p+1)) ⟨g,p*3,none⟩ (n-p) (n-p) (by simp[Act.eval,Act.put]) (by simp[Act.eval,Act.put]) _ 57 a0 (n-p) (by simp only[Nat.min_def];split<;>omega) A aq a4 (by rw[al.out,Z.out];omega) aO z W a1.drew (by omega) ?_;intro bm a5 a6 bn)
 go_wp2;go_ret;have a7:=aN.out;have a8:=length_splice (splice F (p*3) Y) ((p+1)*3) A (by rw[al.out,Z.out];omega);refine pe.mk _ rfl (by
  rw[a7];refine⟨?_,.inr ⟨W.heap.size+1,G,_,rfl,by omega,a5,by omega,by unfold maxLen;omega,?_,?_⟩⟩
  ·rw[aj.out]
   simp only[List.length_append,List.length_take,J,aX,aq];omega
  ·rw[List.size_toArray,a8,al.out,Z.out]
  rw[aj.out,←aI.out]) a6
theorem CA(x:Du)(es:List Du)(o:es.length≤1000000)(p:Nat)(O:p≤es.length):uj x es p:=by
 rcases Nat.lt_or_ge p es.length with r|Q
 ·intro W z v G I
  rcases G.2 with⟨rfl,R⟩|⟨g,c,cur,rfl,J,A,S,K,D,E⟩
  ·omega
  rcases Nat.lt_or_ge es.length c with F|F
  ·exact Cx x es p r o W z g c cur J A F K D E
  obtain rfl:c=es.length:=by omega
  exact Cz x es p r o W z g cur A D E I
 obtain rfl:p=es.length:=by omega
 exact Ch x es o
def rp(o:Int)(ds:List Du):List Du:=ds.filter fun d=>decide (d.ti≤o)
def rs(o:Int)(ds:List Du):List Du:=ds.filter fun d=> !decide (d.ti≤o)
theorem CB{ds:List Du}{d:Du}(o:ds[k]?=some d)(h:d.ti≤E):rp E (ds.take (k+1))=rp E (ds.take k)++[d]:=by
 rw[List.take_add_one,o,rp,rp,List.filter_append];simp[h]
theorem CC{ds:List Du}{d:Du}(o:ds[k]?=some d)(h:d.ti≤E):rs E (ds.take (k+1))=rs E (ds.take k):=by
 rw[List.take_add_one,o,rs,rs,List.filter_append];simp[h]
theorem CD{ds:List Du}{d:Du}(o:ds[k]?=some d)(h:¬d.ti≤E):rs E (ds.take (k+1))=rs E (ds.take k)++[d]:=by
 rw[List.take_add_one,o,rs,rs,List.filter_append];simp;omega
theorem CE{ds:List Du}{d:Du}(o:ds[k]?=some d)(h:¬d.ti≤E):rp E (ds.take (k+1))=rp E (ds.take k):=by
 rw[List.take_add_one,o,rp,rp,List.filter_append];simp;omega
theorem CF(o:Int)(ds:List Du)(k:Nat):(rp o (ds.take k)).length≤k:=Nat.le_trans (List.length_filter_le _ _) (by simp;omega)
theorem CG(o:Int)(ds:List Du)(k:Nat):(rs o (ds.take k)).length≤k:=Nat.le_trans (List.length_filter_le _ _) (by simp;omega)
theorem xG(w:World)(a b:Obj):((w.alloc a).alloc b).heap.size=w.heap.size+1+1:=by simp
theorem uo(A:Option Addr)(n c:Nat)(ds:List Du)(o:Int)(w:World)(h:hV w w.heap.size A n 3 (flat Du.enc ds))(aD:n≤900000):
 Calls prog 120 #[.slice A n c,int i64 o] w fun e w'=>∃v u,e= .returned (.tuple #[v,u])∧w'.ownsRow w.heap.size 57 3 v (rp o ds).length (flat Du.enc (rp o ds))∧w'.ownsRow w.heap.size 57 3 u (rs o ds).length (flat Du.enc (rs o ds))∧Below w.heap.size w w':=by
 obtain⟨ao,ap,aq,ar,au⟩:=info_parts qz;obtain⟨ak,av⟩:=hg (h.len Du.len (by omega)) (fun(W:World) (aw:Below w.heap.size w W)=>h.below aw);clear h;go_enter func120,ntmps120;go_wp2;go_loopw [4,5,10] (fun v u af wr=>∃k:Nat,af=int i64 k∧k≤n∧wr.ownsRow w.heap.size 57 3 v (rp o (ds.take k)).length (flat Du.enc (rp o (ds.take k)))∧wr.ownsRow w.heap.size 57 3 u (rs o (ds.take k)).length (flat Du.enc (rs o (ds.take k)))∧(∀g,v.ownBlock=some g→u.ownBlock≠some g)∧Below w.heap.size w wr) (fun _ _ af _=>n-(intOf af).toNat)
 case atStart=>exact⟨0,rfl,h6,World.ownsRow_nil _ _ _ _,World.ownsRow_nil _ _ _ _,(fun g ax=>by cases ax),hz⟩
 case round=>
  obtain⟨k,rfl,aE,E,F,Y,K⟩:=hrel;by_cases Z:k<n
  ·have ay:=hZ Z
   obtain⟨d,G⟩:∃d,ds[k]?=some d:=⟨_,iB (by rw[ak.out];exact Z)⟩;obtain⟨O,rfl,_,aa⟩:=(av wr K).cell Du.len Z G (by omega);have aF:wr.cell? (O.add (k*3))=some (int i64 d.ac):=by have:=aa 0 _ rfl;rwa[hG.add_zero]at this
   have aG:wr.cell? ⟨(O.add (k*3)).block,(O.add (k*3)).off+1,none⟩=some (int i64 d.ti):=aa 1 _ rfl;have aH:wr.cell? ⟨(O.add (k*3)).block,(O.add (k*3)).off+2,none⟩=some (int u64 d.am):=aa 2 _ rfl;have az:=K.size;have ag:=K.alloc az (.cells #[int i64 d.ac,int i64 d.ti,int u64 d.am] 57);by_cases I:d.ti≤o;focus
    have aA:=hZ I;have J:=E.alloc (.cells #[int i64 d.ac,int i64 d.ti,int u64 d.am] 57);have ab:=J.alloc (.cells #[int i64 d.ac,int i64 d.ti,int u64 d.am] 57);have Q:=F.alloc (.cells #[int i64 d.ac,int i64 d.ti,int u64 d.am] 57);have D:=Q.alloc (.cells #[int i64 d.ac,int i64 d.ti,int u64 d.am] 57);obtain⟨R,S⟩:=hg (CB G I) (CC G I);have aB:=(CF o ds k)
   rotate_left;focus
    have aA:=h1 I;have J:=F.alloc (.cells #[int i64 d.ac,int i64 d.ti,int u64 d.am] 57);have ab:=J.alloc (.cells #[int i64 d.ac,int i64 d.ti,int u64 d.am] 57);have Q:=E.alloc (.cells #[int i64 d.ac,int i64 d.ti,int u64 d.am] 57);have D:=Q.alloc (.cells #[int i64 d.ac,int i64 d.ti,int u64 d.am] 57);obtain⟨R,S⟩:=hg (CD G I) (CE G I);have aB:=(CG o ds k)
   rotate_left;all_goals
    clear aa G E F K;go_wp2_with (at_builtin;refine wpList_append_lies _ rfl _ _ 42 rfl w.heap.size 57 ao _ 3 24 lT ap aq ar au rfl (by decide) _ _ _ rfl ab ⟨wr.heap.size+1,0,none⟩ 1 1 (Du.enc d) rfl rfl (kp _ _ _ _ (by simp)) (fun x aC=>Du.one [d] x (by rw[mi];exact aC)) (by omega) (by unfold maxLen;omega) (by omega) (by simp;omega) _ rfl ?_);intro g al ad ae T z aI;have an:=nt ag J T
   ·have ah:u5.ownBlock≠some g:=by
     rcases z with z|z
     ·exact Y g z
     intro r;have ai:=(D.lt g r).2;rw[xG]at ai;omega
    have U:=g' (show ad.ownsRow w.heap.size 57 3 (.slice (some ⟨g,0,none⟩) ((rp o (ds.take k)).length+1) al) (rp o (ds.take (k+1))).length (flat Du.enc (rp o (ds.take (k+1)))) by rw[R.out,List.length_append,ld,mi];exact ae);have V:=g' (show ad.ownsRow w.heap.size 57 3 u5 (rs o (ds.take (k+1))).length (flat Du.enc (rs o (ds.take (k+1)))) by rw[S.out];exact D.kept T (by
     rcases aj:u5.ownBlock with _|q
     ·exact .inl rfl
     right
     intro r;exact Y q r.symm aj))
    clear T J ab Q D ag ae R S;go_wp2;exact⟨⟨k+1,by go_num,by omega,U,V,fun q X=>by injection X with X;subst X;exact ah,an⟩,by simp[intOf];omega⟩
   have ah:u4.ownBlock≠some g:=by
    rcases z with z|z
    ·exact fun r=>Y g r z
    intro r;have ai:=(D.lt g r).2;rw[xG]at ai;omega
   have U:=g' (show ad.ownsRow w.heap.size 57 3 (.slice (some ⟨g,0,none⟩) ((rs o (ds.take k)).length+1) al) (rs o (ds.take (k+1))).length (flat Du.enc (rs o (ds.take (k+1)))) by rw[R.out,List.length_append,ld,mi];exact ae);have V:=g' (show ad.ownsRow w.heap.size 57 3 u4 (rp o (ds.take (k+1))).length (flat Du.enc (rp o (ds.take (k+1)))) by rw[S.out];exact D.kept T (by
    rcases aj:u4.ownBlock with _|q
    ·exact .inl rfl
    right
    intro r;exact Y q aj r.symm))
   clear T J ab Q D ag ae R S;go_wp2;exact⟨⟨k+1,by go_num,by omega,V,U,fun q X r=>by injection r with r;subst r;exact ah X,an⟩,by simp[intOf];omega⟩
  have ay:=h1 Z;obtain rfl:k=n:=by omega
  rw[List.take_of_length_le (by rw[ak.out];exact hj)]at E F;obtain⟨U,V⟩:=hg E F;clear E F;go_wp2;go_ret2;exact⟨_,_,rfl,U,V,K⟩
theorem CH(us:List Nat):sm us us.length=us.sum:=by
 suffices h:∀(l us:List Nat),sm (us++l) (us++l).length=sm us us.length+l.sum by
  have:=h us [];simpa[sm]using this
 intro l;induction l with
 |nil=>intro us;simp
 |cons x l r=>
  intro us;have o:=r (us++[x]);have z:sm (us++[x]) (us++[x]).length=sm us us.length+x:=by
   have:=wj us [x] 1;rw[List.length_append];simpa[sm,un]using this
  rw[List.append_assoc]at o;rw[show us++x::l=us++([x]++l)from rfl,o,z,List.sum_cons];omega
theorem CI(ds:List Du)(d:Du):∃p,Place ds d p:=by
 suffices h:∀m,m≤ds.length→(∀(j:Nat) (y:Du),m≤j→ds[j]?=some y→d.ti<y.ti)→∃p,Place ds d p from
  h ds.length hj (fun j y A o=>by rw[List.getElem?_eq_none A]at o;cases o)
 intro m;induction m with
 |zero=>exact fun _ h=>⟨0,h6,h,.inl rfl⟩
 |succ m E=>
  intro F h;obtain⟨y,o⟩:∃y,ds[m]?=some y:=⟨_,iB (by omega)⟩;by_cases G:d.ti<y.ti
  ·refine E (by omega) fun j z A r=>?_
   rcases Nat.lt_or_ge m j with D|D
   ·exact h j z D r
   obtain rfl:j=m:=by omega
   rw[o]at r;injection r with r;subst r;exact G
  exact⟨m+1,F,h,.inr ⟨y,o,by omega⟩⟩
theorem CK(p:Du→Bool)(ds:List Du):(∃k x,ds[k]?=some x∧p x=true∧∀(j:Nat) (y:Du),j<k→ds[j]?=some y→p y=false)∨∀(j:Nat) (y:Du),ds[j]?=some y→p y=false:=by
 suffices h:∀m,(∃k x,ds[k]?=some x∧p x=true∧∀(j:Nat) (y:Du),j<k→ds[j]?=some y→p y=false)∨∀(j:Nat) (y:Du),j<m→ds[j]?=some y→p y=false by
  rcases h ds.length with h|h
  ·exact .inl h
  exact .inr fun j y o=>h j y (jh.1 o).1 o
 intro m;induction m with
 |zero=>exact .inr fun j y A=>by omega
 |succ m E=>
  rcases E with h|h
  ·exact .inl h
  rcases z:ds[m]? with _|x
  ·refine .inr fun j y A o=>?_
   rcases Nat.lt_or_ge j m with r|r
   ·exact h j y r o
   obtain rfl:j=m:=by omega
   rw[z]at o;cases o
  rcases D:p x with _|_
  ·refine .inr fun j y A o=>?_
   rcases Nat.lt_or_ge j m with r|r
   ·exact h j y r o
   obtain rfl:j=m:=by omega
   rw[z]at o;injection o with o;subst o;exact D
  exact .inl ⟨m,x,z,D,h⟩
end hU
namespace hq
open RowKit
open hG jQ
def nB(xs bs o:List Nat)(k:Nat):Prop:=o.length=xs.length∧ko o∧∀j,iA o j=if j<k then iA xs j|||iA bs j else iA xs j
theorem nB.start{xs bs:List Nat}(h:ko xs):nB xs bs xs 0:=⟨rfl,h,fun j=>by simp⟩
theorem nB.step{xs bs:List Nat}(h:nB xs bs Y k)(A:ko bs)(E:k<xs.length):nB xs bs (Y.set k (iA Y k|||iA bs k)) (k+1):=by
 obtain⟨D,o,r⟩:=h;refine⟨by rw[List.length_set,D],vE o (vF (o.iA _) (A.iA _)),fun j=>?_⟩;rw[zC (by omega)];by_cases e:j=k
 ·subst e;rw[if_pos rfl,if_pos (by omega),r,if_neg (by omega)]
 rw[if_neg e,r];by_cases z:j<k
 ·rw[if_pos z,if_pos (by omega)]
 rw[if_neg z,if_neg (by omega)]
theorem nB.bits{xs bs:List Nat}(h:nB xs bs Y k)(r:bs.length≤k)(i:Nat):bit Y i=(bit xs i||bit bs i):=by
 unfold bit;rw[h.2.2];by_cases o:i/8<k
 ·rw[if_pos o,Nat.testBit_or]
 rw[if_neg o,tG (bs:=bs) (by omega)];simp
end hq
namespace hf
open RowKit
open hG
def splice(z:Array Value):Nat→List Value→Array Value
 |_,[]=>z
 |o,v::r=>splice (z.setIfInBounds o v) (o+1) r
theorem x2:∀(A:List Value) (z:Array Value) (o j:Nat),o+A.length≤z.size→(splice z o A)[j]?=if o≤j∧j<o+A.length then A[j-o]? else z[j]?
 |[],z,o,j,_=>by rw[splice,if_neg (by simp only[List.length_nil];omega)]
 |v::r,z,o,j,h=>by
  simp only[List.length_cons]at h;rw[splice,x2 r _ _ _ (by simp;omega)];simp only[List.length_cons];by_cases E:j=o
  ·subst E
   rw[if_neg (by omega),if_pos (by omega),Nat.sub_self];simp only[List.getElem?_cons_zero];rw[Array.getElem?_setIfInBounds_self_of_lt (by omega)]
  rw[Array.getElem?_setIfInBounds_ne (by omega)];by_cases D:o+1≤j∧j<o+1+r.length
  ·rw[if_pos D,if_pos (by omega),show j-o=(j-(o+1))+1 by omega,List.getElem?_cons_succ]
  rw[if_neg D,if_neg (by omega)]
theorem ha.setCells:∀(z:List Value) (o:Nat) (w:World) (A:Array Value),ha w g t A→ha (w.setCells g o z) g t (splice A o z)
 |[],_,_,_,h=>h
 |v::r,o,_,_,h=>ha.setCells r (o+1) _ _ (h.set o v)
theorem hn.setCells{a:World}:∀(z:List Value) (o:Nat) (w:World),hn g a w→hn g a (w.setCells g o z)
 |[],_,_,h=>h
 |v::r,o,_,h=>hn.setCells r (o+1) _ (h.setCell (p:=⟨g,o,none⟩) (.inl rfl) v)
section
variable {P:Program}
theorem ha.there(h:ha w g t Q)(o n:Nat)(r:o+n≤Q.size):w.there g o n:=fun j z=>
 ⟨by rw[h.cell (j:=o+j) (v:=Q[o+j]) (Array.getElem?_eq_getElem (by omega))];rfl,h.frozen _⟩
theorem Dw{E:Array Oper}{F:List Oper}{z:Oper}{a:Act}{Q:Exit→Act→World→Prop}(I:z.guard=none)(A:TypeId)(x y:Operand)(J:z.op= .store A x y)
 (g o:Nat) (r:Array Value) (K:a.eval x= .pointer (some ⟨g,o,none⟩)) (O:a.eval y= .agg r)
 (t:TypeId) (D:Array Value) (G:ha w g t D) (R:(P.info? A).map (·.size)=some r.size) (S:o+r.size≤D.size) (T:r.all (·.oneCell')=true)
 (h:∀w',ha w' g t (splice D o r.toList)→hn g w w'→wpList P E Q F (a.put z.dst undef) w'):wpList P E Q (z::F) a w:=
 wpList_store_mid I A x y J g o r K O (G.there o _ S) R T (h _ (ha.setCells _ _ _ _ G) (hn.setCells _ _ _ (hn.refl _ _)))
end
end hf
end Go.Proofs.YtffbipddbnkdjaaGreat
