/- What functions compute at any arguments, and plain facts: Plain lemmas on bytes and bits: a field of bits as a list of bytes; Size, spot, own, Pack; the document's Pack; the comparison of bytes and others. Conditions: those that each theorem names. -/
import Derived.Test.YtffbipddbnkdjaaGreatZ01
import Derived.Laws.CopyOwn
import Derived.Shelf.Spec.BitsCarry
set_option maxRecDepth 100000
set_option maxHeartbeats 40000000
set_option linter.all false
open Go Go.Proofs.Tryz
open Go.Value(int)
open Go.IntKind(i64 u64)
variable{A T:Option Addr}{n g b L k B i x a m j q c p s r d h u N y:Nat}{E z:Int}{P:Program}{w W X Z:World}{e t:TypeId}{f:Nat→Value}{l:List Bool}{V U:Value}{Y:List Nat}{S:List Value}{R:List Int}{Q:Array Value}{O:List (List Nat)}{M:Bool}{K:Ending}{J:Addr}{I:Nat→Nat}{H:Option Nat}
namespace Go.Proofs.YtffbipddbnkdjaaGreat
namespace jQ
def iA(bs:List Nat)(k:Nat):Nat:=bs.getD k 0
def ko(bs:List Nat):Prop:=∀b∈bs,b<256
def bit(bs:List Nat)(i:Nat):Bool:=(iA bs (i/8)).testBit (i%8)
def bo(l:List Bool)(i:Nat):Bool:=l.getD i false
theorem pO{bs:List Nat}(h:k<bs.length):iA bs k=bs[k]:=by
 unfold iA;rw[iJ,List.getElem?_eq_getElem h];rfl
theorem tG{bs:List Nat}(h:bs.length≤k):iA bs k=0:=by
 unfold iA;rw[iJ,List.getElem?_eq_none h];rfl
theorem ko.iA{bs:List Nat}(h:ko bs)(k:Nat):iA bs k<256:=by
 by_cases o:k<bs.length
 ·rw[pO o];exact h _ (List.getElem_mem _)
 ·rw[tG (by omega)];omega
theorem zA(h:k<l.length):bo l k=l[k]:=by
 unfold bo;rw[iJ,List.getElem?_eq_getElem h];rfl
theorem zB(h:l.length≤k):bo l k=false:=by
 unfold bo;rw[iJ,List.getElem?_eq_none h];rfl
theorem tH{bs:List Nat}(h:bs.length≤i/8):bit bs i=false:=by
 unfold bit;rw[tG h];simp
theorem vE{bs:List Nat}(h:ko bs)(r:x<256):ko (bs.set k x):=fun d o=>by
 rcases List.mem_or_eq_of_mem_set o with o|o
 ·exact h d o
 ·omega
theorem zC{bs:List Nat}(o:k<bs.length)(j:Nat):iA (bs.set k x) j=if j=k then x else iA bs j:=by
 unfold iA;simp only[iJ,List.getElem?_set];by_cases e:k=j
 ·subst e;simp[o]
 ·rw[if_neg e,if_neg (by omega)]
theorem tI(h:k<8):2^k<256:=Nat.lt_of_lt_of_le (Nat.pow_lt_pow_right (by omega) h) (by decide)
theorem vF(o:a<256)(r:b<256):a|||b<256:=Nat.or_lt_two_pow (n:=8) o r
theorem zD(x k:Nat):x&&&2^k=if x.testBit k then 2^k else 0:=by
 apply Nat.eq_of_testBit_eq;intro j;rw[Nat.testBit_and,Nat.testBit_two_pow];by_cases e:k=j
 ·subst e;cases x.testBit k<;>simp
 ·rw[decide_eq_false e]
  cases x.testBit k
  ·simp
  ·rw[if_pos rfl,Nat.testBit_two_pow,decide_eq_false e];simp
theorem zE(x k:Nat):decide (x&&&2^k≠0)=x.testBit k:=by
 rw[zD];have:=Nat.pow_pos (n:=k) (show 0<2 by omega);cases x.testBit k<;>simp
theorem zF(o:a<256)(r:b<256)(h:∀t,t<8→a.testBit t=b.testBit t):a=b:=by
 apply Nat.eq_of_testBit_eq;intro t;by_cases z:t<8
 ·exact h t z
 ·have A:a.testBit t=false:=Nat.testBit_lt_two_pow (Nat.lt_of_lt_of_le o (by rw[show(256:Nat)=2^8 from rfl];exact Nat.pow_le_pow_right (by omega) (by omega)))
  have D:b.testBit t=false:=Nat.testBit_lt_two_pow (Nat.lt_of_lt_of_le r (by rw[show(256:Nat)=2^8 from rfl];exact Nat.pow_le_pow_right (by omega) (by omega)));rw[A,D]
theorem zG{bs:List Nat}(o:Y.length=bs.length)(r:ko Y)(z:ko bs)(h:∀i,i<8*Y.length→bit Y i=bit bs i):Y=bs:=by
 apply List.ext_getElem o;intro k A D;rw[←pO A,←pO D];refine zF (r.iA k) (z.iA k) fun t E=>?_;have:=h (8*k+t) (by omega);unfold bit at this;rw[show(8*k+t)/8=k by omega,show(8*k+t)%8=t by omega]at this;exact this
def ra(l:List Bool)(bs:List Nat):Prop:=bs.length=(l.length+7)/8∧ko bs∧∀i,bit bs i=bo l i
theorem ra.one{bs:List Nat}(h:ra l Y)(k:ra l bs):Y=bs:=
 zG (h.1.trans k.1.symm) h.2.1 k.2.1 fun i _=>(h.2.2 i).trans (k.2.2 i).symm
def nP(f:Nat→Bool):Nat→Nat
 |0=>0
 |t+1=>(if f 0 then 1 else 0)+2*nP (fun s=>f (s+1)) t
theorem zH(f:Nat→Bool):∀(t:Nat),nP f t<2^t:=by
 intro t;induction t generalizing f with
 |zero=>simp[nP]
 |succ t o=>
  have:=o (fun s=>f (s+1));simp only[nP];rw[Nat.pow_succ];split<;>omega
theorem zI(f:Nat→Bool)(t s:Nat):(nP f t).testBit s=(decide (s<t)&&f s):=by
 induction t generalizing f s with
 |zero=>simp[nP]
 |succ t o=>
  simp only[nP];cases s with
  |zero=>
   rw[Nat.testBit_zero];cases f 0<;>simp<;>omega
  |succ s=>
   rw[Nat.testBit_succ,show((if f 0=true then 1 else 0)+2*nP (fun s=>f (s+1)) t)/2=nP (fun s=>f (s+1)) t by split<;>omega,o];simp
def pk(l:List Bool)(b:Nat):Nat:=nP (fun t=>bo l (8*b+t)) 8
theorem zJ(l:List Bool)(b:Nat):pk l b<256:=zH _ 8
theorem zK{t:Nat}(o:t<8):(pk l b).testBit t=bo l (8*b+t):=by
 unfold pk;rw[zI,decide_eq_true o];simp
def o2(l:List Bool):List Nat:=(List.range ((l.length+7)/8)).map (pk l)
theorem zL(o:b<(l.length+7)/8):iA (o2 l) b=pk l b:=by
 rw[pO (by simpa[o2]using o)];simp[o2]
theorem vG(l:List Bool):ra l (o2 l):=by
 refine⟨by simp[o2],?_,fun i=>?_⟩
 ·intro d o
  simp only[o2,List.mem_map]at o;obtain⟨b,_,rfl⟩:=o;exact zJ l b
 ·by_cases r:i/8<(l.length+7)/8
  ·unfold bit
   rw[zL r,zK (Nat.mod_lt _ (by omega)),show 8*(i/8)+i%8=i by omega]
  ·rw[tH (by simp only[o2,List.length_map,List.length_range];omega),zB (by omega)]
theorem zM{t:Nat}(o:b<256)(r:8≤t):b.testBit t=false:=
 Nat.testBit_lt_two_pow (Nat.lt_of_lt_of_le o (by rw[show(256:Nat)=2^8 from rfl];exact Nat.pow_le_pow_right (by omega) r))
theorem zN{bs:List Nat}{t:Nat}(o:t<8):bit bs (8*k+t)=(iA bs k).testBit t:=by
 unfold bit;rw[show(8*k+t)/8=k by omega,show(8*k+t)%8=t by omega]
def jd(bs:List Nat)(n:Int):Prop:=0≤n∧n≤256∧bs.length=(n.toNat+7)/8∧∀i:Nat,n≤i→bit bs i=false
theorem jd.top{bs:List Nat}(o:ko bs)(h:jd bs m)(D:0<m%8):iA bs (bs.length-1)/2^(m%8)=0:=by
 obtain⟨_,_,r,z⟩:=h;simp only[Int.toNat_natCast]at r;apply Nat.div_eq_of_lt;apply Nat.lt_pow_two_of_testBit;intro t E;by_cases A:t<8
 ·rw[←zN A];exact z _ (by omega)
 ·exact zM (o.iA _) (by omega)
theorem jd.back{bs:List Nat}(D:m≤256)(r:bs.length=(m+7)/8)(h:0<m%8→iA bs (bs.length-1)/2^(m%8)=0):jd bs m:=by
 refine⟨by omega,by omega,by simpa using r,fun i E=>?_⟩;by_cases F:i/8<bs.length
 ·have z:0<m%8:=by omega
  have G:=h z;have e:i/8=bs.length-1:=by omega
  have A:iA bs (bs.length-1)<2^(m%8):=by
   rcases Nat.lt_or_ge (iA bs (bs.length-1)) (2^(m%8))with o|o
   ·exact o
   ·have I:=Nat.div_pos o (Nat.pow_pos (by omega))
    omega
  unfold bit;rw[e];exact Nat.testBit_lt_two_pow (Nat.lt_of_lt_of_le A (Nat.pow_le_pow_right (by omega) (by omega)))
 ·exact tH (by omega)
end jQ
namespace hq
open RowKit
open hG jQ
def ie(w:World)(B:Nat)(A:Option Addr)(n:Nat)(bs:List Nat):Prop:=bs.length=n∧ko bs∧Rd w B A n (fun j=> .int .u8 (iA bs j))
theorem ie.below{w':World}{bs:List Nat}(h:ie w B A n bs)(o:Below B w w'):ie w' B A n bs:=⟨h.1,h.2.1,h.2.2.below o⟩
theorem ie.more{B':Nat}{bs:List Nat}(h:ie w B A n bs)(o:B≤B'):ie w B' A n bs:=⟨h.1,h.2.1,h.2.2.more o⟩
theorem ie.to{w':World}{bs:List Nat}(h:ie w w.heap.size A n bs)(o:Below w.heap.size w w'):ie w' w'.heap.size A n bs:=⟨h.1,h.2.1,h.2.2.to o⟩
def jq(b:Nat):Value:= .int .u8 b
theorem rb{bs:List Nat}(h:j<bs.length):(bs.map jq)[j]?=some (.int .u8 (iA bs j)):=by
 rw[List.getElem?_map,List.getElem?_eq_getElem h,pO h];rfl
theorem re{v:Value}{bs:List Nat}(r:bs.length=n)(z:ko bs)(h:w.ownsRow g e 1 v n (bs.map jq)):
 ∃A c,v= .slice A n c∧n≤c∧c≤maxLen∧(∀o,A=some o→g≤o.block)∧ie w w.heap.size A n bs:=by
 obtain⟨A,c,D,E,F,G,I⟩:=Rd.own h (fun j J=>rb (by omega));exact⟨A,c,D,E,F,G,r,z,I⟩
theorem tJ{v:Value}{xs:List Value}(h:w.ownsRow g e b v n xs)(q:Nat):(w.drewN q).ownsRow g e b v n xs:=h
theorem si:(prog.info? 5).map (fun i=>(i.zero,i.size,i.bytes))=some (some (.int .u8 0),1,1):=by kernel_rfl
theorem rf(n:Nat)(o:n≤1000000)(w:World):Calls prog 86 #[.int .i64 n] w fun e w'=>e= .returned (.int .i64 ((n+7)/8:Nat))∧w=w':=by
 by_cases h:n<1
 ·obtain rfl:n=0:=by omega
  clear h;go_enter func86,ntmps86;go_wp2;go_ret;exact⟨rfl,rfl⟩
 have r:decide (n<1)=false:=by simp;omega
 have e:(((n+7)/8:Nat):Int)=((n:Int) -1)/8+1:=by omega
 have E:=g' e;clear e;go_enter func86,ntmps86;go_wp2;go_ret;exact⟨by rw[E.out];rfl,rfl⟩
theorem vH(A:Option Addr)(n c:Nat)(i:Int)(z:i≤9223372036854775807)(h:i<0∨(n:Int)≤i/8)(w:World):
 Calls prog 158 #[.slice A n c,.int .i64 i] w fun e w'=>e= .returned (.tuple #[.int .i64 0,.int .u8 0,.bool false])∧w=w':=by
 by_cases o:i<0
 ·have r:=hZ o
  clear h;go_enter func158,ntmps158;go_wp2;go_ret3;exact⟨rfl,rfl⟩
 have r:=h1 o;have D:0≤i:=by omega
 have E:decide ((n:Int)≤i/8)=true:=by simp;omega
 clear h o;go_enter func158,ntmps158;go_wp2;go_ret3;exact⟨rfl,rfl⟩
theorem zO(A:Option Addr)(n c i:Nat)(z:n≤1000000)(h:i/8<n)(w:World):
 Calls prog 158 #[.slice A n c,.int .i64 i] w fun e w'=>e= .returned (.tuple #[.int .i64 (i/8:Nat),.int .u8 (2^(i%8):Nat),.bool true])∧∃q,w'=w.drewN q:=by
 have D:decide ((i:Int)<0)=false:=by simp
 have E:i≤8000008:=by omega
 have F:decide ((n:Int)≤(i:Int)/8)=false:=by simp;omega
 go_enter func158,ntmps158;go_wp2;go_quiet (fail)
 go_wp2;go_ret3;have o:(2:Int)^(i%8)%256=((2^(i%8):Nat):Int):=by
  have:=tI (k:=i%8) (by omega);have r:(2:Int)^(i%8)=((2^(i%8):Nat):Int):=by rw[Int.natCast_pow];rfl
  rw[r];generalize 2^(i%8)=p at*;omega
 exact⟨by rw[←o];rfl,nq,rfl⟩
theorem rh(A:Option Addr)(n c:Nat)(bs:List Nat)(w:World)(h:ie w w.heap.size A n bs)(V:n≤1000000):
 Calls prog 269 #[.slice A n c] w fun e w'=>∃v,e= .returned v∧w'.ownsRow w.heap.size 5 1 v n (bs.map jq)∧Below w.heap.size w w':=by
 obtain⟨F,G,I,J,K⟩:=info_parts si;obtain⟨o,O,Q⟩:=h;have r:(List.range n).map (fun j=>Value.int .u8 (iA bs j))=bs.map jq:=by
  apply List.ext_getElem (by simp[o]);intro j R z;simp at R z;simp[jq,pO z]
 have S:=g' r;clear o O r;go_enter func269,ntmps269;go_wp2_with (at_builtin;refine pI _ rfl _ _ 222 rfl w.heap.size 5 F (.int .u8 0) 1 underlying222 G I J K rfl _ _ _ rfl (World.ownsRow_nil _ _ _ _) A n c _ rfl Q (fun _=>rfl) ?_ ?_ hj ?_)
 ·unfold maxLen;omega
 ·omega
 intro W T D E;rw[S.out]at D;have U:Below w.heap.size w T:=hz.grown E hj (fun _ h=>by cases h);clear E;go_wp2;go_ret;exact⟨_,rfl,D,U⟩
theorem vI(A:Option Addr)(n c i p:Nat)(o:p=2^(i%8))(r:n≤1000000)(h:i/8<n)(w:World):
 Calls prog 158 #[.slice A n c,.int .i64 i] w fun e w'=>e= .returned (.tuple #[.int .i64 (i/8:Nat),.int .u8 p,.bool true])∧∃q,w'=w.drewN q:=by
 subst o;exact zO A n c i r h w
end hq
namespace hG
open RowKit
def flat{α:Type}(enc:α→List Value)(ds:List α):List Value:=ds.flatMap enc
theorem mh{α:Type}{enc:α→List Value}(h:∀d,(enc d).length=n):∀ds:List α,(flat enc ds).length=ds.length*n
 |[]=>by simp[flat]
 |d::ds=>by
  have:=mh h ds;unfold flat at this⊢;rw[List.flatMap_cons,List.length_append,this,h,List.length_cons,Nat.add_mul];omega
theorem mJ{α:Type}{enc:α→List Value}(h:∀d,(enc d).length=n):∀(ds:List α) (i j:Nat) (d:α),ds[i]?=some d→j<n→(flat enc ds)[i*n+j]?=(enc d)[j]?
 |[],i,j,d,hd,_=>by simp at hd
 |e::ds,0,j,d,hd,o=>by
  simp at hd;subst hd;unfold flat;rw[List.flatMap_cons,List.getElem?_append_left (by rw[h];omega),Nat.zero_mul,Nat.zero_add]
 |e::ds,i+1,j,d,hd,o=>by
  have:=mJ h ds i j d (by simpa using hd) o;unfold flat at this⊢;rw[List.flatMap_cons,List.getElem?_append_right (by rw[h,Nat.add_mul];omega),h,←this];congr 1;rw[Nat.add_mul];omega
theorem ld{α:Type}(enc:α→List Value)(ds es:List α):flat enc (ds++es)=flat enc ds++flat enc es:=by simp[flat]
theorem mi{α:Type}(enc:α→List Value)(d:α):flat enc [d]=enc d:=by simp[flat]
def kN(xs:List Value)(j:Nat):Value:=(xs[j]?).getD (.bool false)
theorem vJ{xs:List Value}(h:j<xs.length):xs[j]?=some (kN xs j):=by
 rw[kN,List.getElem?_eq_getElem h];rfl
def hV(w:World)(B:Nat)(A:Option Addr)(n o:Nat)(xs:List Value):Prop:=xs.length=n*o∧Rd w B A (n*o) (kN xs)
theorem hV.to{w w':World}{xs:List Value}(h:hV w w.heap.size A n g xs)(o:Below w.heap.size w w'):hV w' w'.heap.size A n g xs:=⟨h.1,h.2.to o⟩
theorem hV.below{w w':World}{xs:List Value}(h:hV w B A n g xs)(o:Below B w w'):hV w' B A n g xs:=⟨h.1,h.2.below o⟩
theorem hV.more{w:World}{B':Nat}{xs:List Value}(h:hV w B A n g xs)(o:B≤B'):hV w B' A n g xs:=⟨h.1,h.2.more o⟩
theorem hV.nil(w:World)(B:Nat)(A:Option Addr)(o:Nat):hV w B A 0 o []:=⟨by simp,fun j r=>by simp at r⟩
theorem hV.own{w:World}{v:Value}{xs:List Value}(h:w.ownsRow b e L v n xs):
 ∃A c,v= .slice A n c∧n≤c∧c≤maxLen∧(∀o,A=some o→b≤o.block)∧hV w w.heap.size A n L xs:=by
 have E:=fun g F=>World.ownsRow.cells h (g:=g) F;have r:=h.lt;have z:=h.1;rcases h.2 with⟨rfl,rfl⟩|⟨g,cap,cur,rfl,_,_,G,I,_⟩
 ·refine⟨none,0,rfl,by omega,by unfold maxLen;omega,fun o h=>(by cases h),z,fun j D=>by simp at D⟩
 refine⟨some ⟨g,0,none⟩,cap,rfl,G,I,fun o h=>?_,z,fun j D=>⟨⟨g,0,none⟩,rfl,(r g rfl).2,E g rfl j _ (vJ (by omega))⟩⟩;injection h with h;subst h;exact(r g rfl).1
theorem hV.cell{w:World}{α:Type}{enc:α→List Value}{ds:List α}(h:hV w B A n g (flat enc ds))(z:∀d,(enc d).length=g)(F:i<n){d:α}(G:ds[i]?=some d)(I:0<g):
 ∃o,A=some o∧o.block<B∧∀j v,(enc d)[j]?=some v→w.cell? ((o.add (i*g)).add j)=some v:=by
 have D:∀j,j<g→i*g+j<n*g:=fun j r=>by
  have:(i+1)*g≤n*g:=Nat.mul_le_mul_right _ F;rw[Nat.add_mul]at this;omega
 obtain⟨o,rfl,J,_⟩:=h.2 _ (D 0 I);refine⟨o,rfl,J,fun j v E=>?_⟩;have r:j<g:=by
  have:=(jh.1 E).1;rwa[z]at this
 obtain⟨O,e,_,K⟩:=h.2 _ (D j r);cases e;rw[add_add,K,kN,mJ z ds i j d G r,E];rfl
theorem hV.len{w:World}{α:Type}{enc:α→List Value}{ds:List α}(h:hV w B A n g (flat enc ds))(o:∀d,(enc d).length=g)(r:0<g):ds.length=n:=by
 have:=h.1;rw[mh o]at this;exact Nat.eq_of_mul_eq_mul_right r this
section
variable {P:Program} (w:World)
theorem vK(D:Nat)(t Q e:TypeId)(i:TypeInfo)(z:Value)(o G:Nat)(I:P.underlying t=some (.slice e))(J:P.info? e=some i)(U:i.zero=some z)
 (V:i.size=o) (W:i.bytes=G) (X:z.cells.size=o) (R:0<o) (v:Value) (n:Nat) (xs:List Value) (K:w.ownsRow D e o v n xs)
 (A:Option Addr) (m c:Nat) (r:List Value) (E:hV w w.heap.size A m o r) (Y:∀u∈r,u.oneCell'=true)
 (Z:n+m≤maxLen) (aa:(n+m)*G≤140737488355328) (ab:D≤w.heap.size):
 ∃F w',(Builtin.append_ #[t,t] Q #[v,.slice A m c]).run P w= .ok F w'∧w'.ownsRow D e o F (n+m) (xs++r)∧w.grownBy w' v.ownBlock:=by
 obtain⟨S,E⟩:=E;cases A with
 |none=>
  obtain rfl:m=0:=by
   rcases Nat.eq_zero_or_pos m with h|h
   ·exact h
   obtain⟨_,ac,_⟩:=E 0 (Nat.mul_pos h R);cases ac
  obtain rfl:r=[]:=List.eq_nil_of_length_eq_zero (by simpa using S);refine⟨v,w,?_,by simpa using K,World.grownBy.refl w _⟩;rcases K.2 with⟨rfl,rfl⟩|⟨g,cap,cur,rfl,_,_,ad,_⟩
  ·simp[Builtin.append_,run_underlying I,sizeOf,typeInfo,J,Builtin.lenOf,Builtin.firstCells]
  simp[Builtin.append_,run_underlying I,sizeOf,typeInfo,J,Builtin.lenOf,Builtin.firstCells,ad,storeCells]
 |some ae=>
  obtain⟨F,w',af,ag,ah,_⟩:=run_append_own_at (P:=P) w D t Q e i z o G I J U V W X R v n xs K ae m c r S
   (fun j u T=>by
     have aj:j<r.length:=(jh.1 T).1;obtain⟨ak,O,_,ai⟩:=E j (by omega);injection O with O;rw[O,ai,kN,T];rfl) Y Z aa ab
  exact⟨F,w',af,ag,ah⟩
theorem mK{I:Array Oper}{J:List Oper}{o:Oper}{a:Act}{Q:Exit→Act→World→Prop}(O:o.guard=none)(s x:Operand)(t:TypeId)
 (R:o.op= .call {callee:= .builtin .append,args:= #[s,x],argTypes:= #[t,t]})
 (D:Nat) (e:TypeId) (i:TypeInfo) (z:Value) (r G:Nat) (S:P.underlying t=some (.slice e)) (T:P.info? e=some i) (U:i.zero=some z)
 (V:i.size=r) (W:i.bytes=G) (X:z.cells.size=r) (Y:0<r) (v:Value) (n:Nat) (xs:List Value) (Z:a.eval s=v) (aa:w.ownsRow D e r v n xs)
 (A:Option Addr) (m c:Nat) (E:List Value) (ab:a.eval x= .slice A m c) (ac:hV w w.heap.size A m r E) (ad:∀u∈E,u.oneCell'=true)
 (ae:n+m≤maxLen) (af:(n+m)*G≤140737488355328) (ag:D≤w.heap.size)
 (h:∀F w',w'.ownsRow D e r F (n+m) (xs++E)→w.grownBy w' v.ownBlock→wpList P I Q J (a.put o.dst F) w'):wpList P I Q (o::J) a w:=by
 obtain⟨F,w',ah,ai,aj⟩:=vK (P:=P) w D t o.type e i z r G S T U V W X Y v n xs aa A m c E ac ad ae af ag;refine wpList_plain O fun K ak=>?_;unfold Oper.wp;simp[execOp,R,resolve,invoke,builtin,Z,ab,ah,Result.andThen];exact ak _ _ (h F w' ai aj)
end
end hG
end Go.Proofs.YtffbipddbnkdjaaGreat
namespace Go.Proofs
open Shelf
def Tryz.zP:Go.Shelf.Ren:=⟨fun|25=>157|n=>n,fun|22=>22|n=>n,fun|n=>n⟩
theorem Tryz.vL:Lays7.n25 Tryz.prog Tryz.zP:={
 mixed:=by kernel_rfl
 f25:=Tryz.func157.trans (congrArg some rfl)
 t22:=Tryz.underlying22
 a22:=Tryz.isAgg22
 z22:=Tryz.sizeOf22
 v22:=Tryz.zeroValue22
 i22:=by kernel_rfl}
def Tryz.zQ:Go.Shelf.Ren:=⟨fun|26=>234|n=>n,fun|22=>22|n=>n,fun|n=>n⟩
theorem Tryz.vM:Lays7.n26 Tryz.prog Tryz.zQ:={
 mixed:=by kernel_rfl
 f26:=Tryz.func234.trans (congrArg some rfl)
 t22:=Tryz.underlying22
 a22:=Tryz.isAgg22
 z22:=Tryz.sizeOf22
 v22:=Tryz.zeroValue22
 i22:=by kernel_rfl}
end Go.Proofs
namespace Go.Proofs.YtffbipddbnkdjaaGreat
namespace h0
open RowKit
open hG
def un(us:List Nat)(j:Nat):Nat:=us.getD j 0
def uw(b:Nat):Value:=int u64 b
theorem pP{us:List Nat}(h:k<us.length):un us k=us[k]:=by
 unfold un;rw[iJ,List.getElem?_eq_getElem h];rfl
theorem vN{us:List Nat}(h:j<us.length):(us.map uw)[j]?=some (int u64 (un us j)):=by
 rw[List.getElem?_map,List.getElem?_eq_getElem h,pP h];rfl
def Wd(us:List Nat):Prop:=∀b∈us,b<18446744073709551616
theorem Wd.un{us:List Nat}(h:Wd us)(k:Nat):un us k<18446744073709551616:=by
 by_cases o:k<us.length
 ·rw[pP o];exact h _ (List.getElem_mem o)
 unfold h0.un;rw[iJ,List.getElem?_eq_none (by omega)];decide
theorem Wd.set{us:List Nat}(h:Wd us)(z:s<18446744073709551616):Wd (us.set k s):=fun b r=>by
 rcases List.mem_or_eq_of_mem_set r with o|o
 ·exact h b o
 omega
def jk(w:World)(B:Nat)(A:Option Addr)(n:Nat)(us:List Nat):Prop:=us.length=n∧Wd us∧Rd w B A n (fun j=>int u64 (un us j:Nat))
theorem jk.to{w':World}{us:List Nat}(h:jk w w.heap.size A n us)(o:Below w.heap.size w w'):jk w' w'.heap.size A n us:=⟨h.1,h.2.1,h.2.2.to o⟩
theorem nu:(prog.info? 22).map (fun i=>(i.zero,i.size,i.bytes))=some (some (int u64 0),1,8):=by kernel_rfl
theorem zR(x y s:Nat)(o:s=x+y)(h:s<18446744073709551616)(w:World):(callFunc 157 #[int u64 x,int u64 y,int u64 0]).run prog w= .ok (.value (.tuple #[int u64 s,int u64 0])) w:=by
 refine(Any7.bits_Add64 Tryz.vL x y 0 (by omega) w).trans ?_;rw[show(x+y+0)%18446744073709551616=s by omega,show(x+y+0)/18446744073709551616=0 by omega];rfl
theorem zS(x y s:Nat)(o:s+18446744073709551616=x+y)(h:s<18446744073709551616)(w:World):(callFunc 157 #[int u64 x,int u64 y,int u64 0]).run prog w= .ok (.value (.tuple #[int u64 s,int u64 1])) w:=by
 refine(Any7.bits_Add64 Tryz.vL x y 0 (by omega) w).trans ?_;rw[show(x+y+0)%18446744073709551616=s by omega,show(x+y+0)/18446744073709551616=1 by omega];rfl
theorem zT(x y d:Nat)(o:x=y+d)(h:x<18446744073709551616)(w:World):(callFunc 234 #[int u64 x,int u64 y,int u64 0]).run prog w= .ok (.value (.tuple #[int u64 d,int u64 0])) w:=by
 refine(Any7.bits_Sub64 Tryz.vM x y 0 (by omega) w).trans ?_;rw[if_neg (by omega),show(x+18446744073709551616-y-0)%18446744073709551616=d by omega];rfl
theorem zU(x y d:Nat)(o:x+18446744073709551616=y+d)(h:x<y)(r:y<18446744073709551616)(w:World):(callFunc 234 #[int u64 x,int u64 y,int u64 0]).run prog w= .ok (.value (.tuple #[int u64 d,int u64 1])) w:=by
 refine(Any7.bits_Sub64 Tryz.vM x y 0 (by omega) w).trans ?_;rw[if_pos (by omega),show(x+18446744073709551616-y-0)%18446744073709551616=d by omega];rfl
theorem mj(x y s:Nat)(o:s=x+y)(h:s<18446744073709551616)(w:World):Calls prog 85 #[int u64 x,int u64 y] w fun e w'=>e= .returned (.tuple #[int u64 s,int i64 0])∧w=w':=by
 have H:=g' (zR x y s o h);clear o h;go_enter func85,ntmps85;go_wp2_with (simp only[H.out]);go_ret2;exact⟨rfl,rfl⟩
theorem pQ(x y:Nat)(r:x<18446744073709551616)(z:y<18446744073709551616)(h:18446744073709551616≤x+y)(w:World):Calls prog 85 #[int u64 x,int u64 y] w fun e w'=>e= .returned (.tuple #[int u64 0,int i64 10])∧w=w':=by
 obtain⟨s,o⟩:∃s,s+18446744073709551616=x+y:=⟨x+y-18446744073709551616,by omega⟩;have H:=g' (zS x y s o (by omega));go_enter func85,ntmps85;go_wp2_with (simp only[H.out]);go_ret2;exact⟨rfl,rfl⟩
theorem sj(x y d:Nat)(o:x=y+d)(h:x<18446744073709551616)(w:World):Calls prog 184 #[int u64 x,int u64 y] w fun e w'=>e= .returned (.tuple #[int u64 d,int i64 0])∧w=w':=by
 have H:=g' (zT x y d o h);clear o h;go_enter func184,ntmps184;go_wp2_with (simp only[H.out]);go_ret2;exact⟨rfl,rfl⟩
theorem tK(x y:Nat)(h:x<y)(o:y<18446744073709551616)(w:World):Calls prog 184 #[int u64 x,int u64 y] w fun e w'=>e= .returned (.tuple #[int u64 0,int i64 11])∧w=w':=by
 obtain⟨d,r⟩:∃d,x+18446744073709551616=y+d:=⟨x+18446744073709551616-y,by omega⟩;have H:=g' (zU x y d r h o);go_enter func184,ntmps184;go_wp2_with (simp only[H.out]);go_ret2;exact⟨rfl,rfl⟩
theorem tL(A:Option Addr)(n c i:Nat)(h:i<n)(w:World):Calls prog 246 #[.slice A n c,int i64 i] w fun e w'=>e= .returned (.bool true)∧w=w':=by
 go_enter func246,ntmps246;go_wp2;go_ret;exact⟨rfl,rfl⟩
theorem tM(A:Option Addr)(n c:Nat)(i:Int)(h:i<0∨(n:Int)≤i)(w:World):Calls prog 246 #[.slice A n c,int i64 i] w fun e w'=>e= .returned (.bool false)∧w=w':=by
 by_cases r:i<0
 ·have o:decide (0≤i)=false:=by simp;omega
  go_enter func246,ntmps246;go_wp2;go_ret;exact⟨rfl,rfl⟩
 obtain⟨k,rfl⟩:∃k:Nat,i=k:=⟨i.toNat,by omega⟩;have o:decide (k<n)=false:=by simp;omega
 go_enter func246,ntmps246;go_wp2;go_ret;exact⟨rfl,rfl⟩
theorem vO(A:Option Addr)(n c:Nat)(i:Int)(h:i<0∨(n:Int)≤i)(w:World):Calls prog 230 #[.slice A n c,int i64 i] w fun e w'=>e= .returned (.tuple #[int u64 0,int i64 170])∧w=w':=by
 have H:=g' (tM A n c i h w);go_enter func230,ntmps230;go_wp2_with fail;refine H.mono ?_;rintro e w' ⟨rfl,rfl⟩;go_wp2;go_ret2;exact⟨rfl,rfl⟩
theorem vP(A:Option Addr)(n c i L:Nat)(us:List Nat)(h:i<n)(w:World)(o:jk w L A n us):Calls prog 230 #[.slice A n c,int i64 i] w fun e w'=>e= .returned (.tuple #[int u64 (un us i),int i64 0])∧w=w':=by
 obtain⟨r,rfl,_,z⟩:=o.2.2 i h;have D:w.cell? (r.add i)=some (int u64 (un us i)):=z;clear z o;generalize un us i=x at D⊢;go_enter func230,ntmps230;go_wp2_with fail;refine hE (tL (some r) n c i h w) ?_;go_wp2;go_ret2;exact⟨rfl,rfl⟩
theorem zV(A B:Option Addr)(n c d L:Nat)(us:List Nat)(w:World)(h:jk w L A n us)(r:jk w L B n us)(I:n≤1000000):
 Calls prog 17 #[.slice A n c,.slice B n d] w fun e w'=>e= .returned (.bool true)∧∃q,w'=w.drewN q:=by
 have z:=h.2.2;have D:=r.2.2;go_enter func17,ntmps17;go_wp2;go_loopw [5] (fun v wr=>∃(k q:Nat),v=int i64 k∧k≤n∧wr=w.drewN q) (fun v _=>n-(intOf v).toNat)
 case atStart=>exact⟨0,0,rfl,h6,rfl⟩
 case round=>
  obtain⟨k,q,rfl,J,rfl⟩:=hrel;by_cases o:k<n
  ·have E:=hZ o
   obtain⟨a,rfl,_,F⟩:=z k o;obtain⟨b,rfl,_,G⟩:=D k o;have K:w.cell? (a.add k)=some (int u64 (un us k)):=F;have O:w.cell? (b.add k)=some (int u64 (un us k)):=G;generalize un us k=x at*;go_wp2;go_quiet (fail)
   go_wp2;exact⟨⟨k+1,_,by go_num,by omega,rfl⟩,by simp[intOf];omega⟩
  have E:=h1 o;go_wp2;go_ret;exact⟨rfl,q,rfl⟩
theorem zW{xs:List Value}(h:w.ownsRow b e 1 (.slice (some ⟨g,0,none⟩) n n) n xs):w.heap[g]?=some (.cells xs.toArray e (0,0)):=by
 rcases h.2 with⟨hv,_⟩|⟨A,cap,cur,hv,_,r,_,_,z,o⟩
 ·cases hv
 cases hv;rw[r];rw[List.take_of_length_le (by simp[z])]at o;rw[←o]
theorem zX{us:List Nat}(A:us.length=n)(h:Rd w B (some J) n (fun j=>int u64 (un us j:Nat))):∀j v,(us.map uw)[j]?=some v→w.cell? (J.add j)=some v:=fun j v o=>by
 by_cases r:j<n
 ·rw[vN (by omega)]at o
  obtain⟨D,e,_,z⟩:=h j r;cases e;exact z.trans o
 rw[List.getElem?_eq_none (by simp;omega)]at o;cases o
theorem vQ(A:Option Addr)(n c i s:Nat)(us:List Nat)(w:World)(h:jk w w.heap.size A n us)(W:i<n)(af:n≤1000000):
 Calls prog 231 #[.slice A n c,int i64 i,int u64 s] w fun e w'=>∃v,e= .returned v∧w'.ownsRow w.heap.size 22 1 v n ((us.set i s).map uw)∧Below w.heap.size w w':=by
 obtain⟨X,Y,Z,aa,ag⟩:=info_parts nu;obtain⟨o,ah,r⟩:=h;obtain⟨F,rfl,_,_⟩:=r i W;go_enter func231,ntmps231;go_wp2_with (at_make;refine wpList_make_full _ rfl _ _ 25 rfl w.heap.size 22 X (int u64 0) 1 kO Y Z aa _ _ _ _ n rfl rfl (by omega) (by omega) ?_ (by unfold maxLen;omega) hj ?_)
 ·omega
 intro G I J;have z:Below w.heap.size w G:=hz.grown J hj (fun _ h=>by cases h);have K:G.heap[w.heap.size]?=some (.cells (List.replicate n (Value.int u64 0)).toArray 22 (0,0)):=by
  have e:(madeCells #[Value.int u64 0] n).toList=List.replicate n (Value.int u64 0):=toList_madeCells_one _ _;rw[←e];exact zW I
 clear I J;have O:=r.below z;have Q:=zX o O;have R:splice (List.replicate n (Value.int u64 0)) 0 (us.map uw)=us.map uw:=by
  unfold splice;simp[o]
 have ab:=g' R;clear R O r;go_wp2_with (refine wpList_copy_splice rfl (.tmp 11) (.tmp 12) 25 25 rfl 22 kO rfl (some ⟨w.heap.size,0,none⟩) (some F) n n n c rfl rfl w.heap.size 0 (List.replicate n (Value.int u64 0)) 22 K (us.map uw) (by simp[o]) (fun _=>⟨rfl,F,rfl,Q⟩) (by simp[o]) (fun v S=>by rw[List.mem_map]at S;obtain⟨b,_,rfl⟩:=S;rfl) w.heap.size w z hj ?_);intro T U ac;have D:=U.out;rw[ab.out]at D;have E:T.ownsRow w.heap.size 22 1 (.slice (some ⟨w.heap.size,0,none⟩) n n) n (us.map uw):=
  ⟨by simp[o],.inr ⟨_,n,_,rfl,hj,D,hj,by unfold maxLen;omega,by simp[o],by rw[List.take_of_length_le (by simp[o])]⟩⟩
 have ad:=(E.cellAt i (by omega)).trans (vN (by omega));have ai:=E.frozenAt i;clear U D K Q z;generalize un us i=old at ad;go_wp2;go_ret;have V:=(E.stored i (int u64 s)).1;rw[show(us.map uw).set i (int u64 s)=(us.set i s).map uw by rw[List.map_set];rfl]at V;have ae:Below w.heap.size w (T.setCell ⟨w.heap.size,i,none⟩ (int u64 s)):=ac.setCell hj _;exact⟨_,rfl,V,ae⟩
def rj(us:List Nat)(i:Int)(x:Nat):List Nat×Int:=
 if i<0∨(us.length:Int)≤i then([],170)else if un us i.toNat<x then([],171)else(us.set i.toNat (un us i.toNat-x),0)
def kU(us:List Nat)(i:Int)(x:Nat):List Nat×Int:=
 if i<0∨(us.length:Int)≤i then([],170)else if un us i.toNat+x≤4611686018427387904 then(us.set i.toNat (un us i.toNat+x),0)else([],10)
def lD(w:World)(r:List Nat×Int)(e:Ending)(w':World):Prop:=∃v,e= .returned (.tuple #[v,.int .i64 r.2])∧w'.ownsRow w.heap.size 22 1 v r.1.length (r.1.map uw)∧Wd r.1∧Below w.heap.size w w'
theorem lD.nil{w':World}{e:Ending}(h:e= .returned (.tuple #[.slice none 0 0,.int .i64 E]))(o:Below w.heap.size w w'):lD w ([],E) e w':=⟨_,h,World.ownsRow_nil _ _ _ _,(fun b o=>by cases o),o⟩
theorem lD.row{w':World}{L:List Nat}{v:Value}{e:Ending}(o:L.length=n)(h:e= .returned (.tuple #[v,.int .i64 E]))(r:w'.ownsRow w.heap.size 22 1 v n (L.map uw))(z:Wd L)(A:Below w.heap.size w w'):lD w (L,E) e w':=by
 subst o;exact⟨v,h,r,z,A⟩
theorem zY(A:Option Addr)(n c:Nat)(i:Int)(x:Nat)(us:List Nat)(w:World)(h:jk w w.heap.size A n us)(G:n≤1000000)(I:x<18446744073709551616)(S: -9223372036854775808≤i∧i≤9223372036854775807):
 Calls prog 210 #[.slice A n c,.int .i64 i,.int .u64 x] w (lD w (rj us i x)):=by
 unfold rj;by_cases o:i<0∨(us.length:Int)≤i
 ·rw[if_pos o]
  rw[h.1]at o;have H:=g' (vO A n c i o w);clear o h;go_enter func210,ntmps210;go_wp2_with fail;refine H.mono ?_;rintro e w' ⟨rfl,rfl⟩;go_wp2;go_ret2;exact lD.nil rfl hz
 rw[if_neg o];obtain⟨k,rfl⟩:∃k:Nat,i=k:=⟨i.toNat,by omega⟩;rw[Int.toNat_natCast];have E:k<n:=by have:=h.1;omega
 have D:=g' (vP A n c k _ us E w h);by_cases r:un us k<x
 ·rw[if_pos r]
  have z:=g' (tK (un us k) x r I w);clear h o r;generalize un us k=y at D z;go_enter func210,ntmps210;go_wp2_with fail;refine D.mono ?_;rintro e w' ⟨rfl,rfl⟩;go_wp2_with fail;refine z.mono ?_;rintro e w' ⟨rfl,rfl⟩;go_wp2;go_ret2;exact lD.nil rfl hz
 rw[if_neg r];obtain⟨d,F⟩:=hk (un us k-x);rw[←F];obtain⟨z,J,K,O⟩:=h5 (sj (un us k) x d (by omega) (h.2.1.un k) w) (vQ A n c k d us w h E G) (h.2.1.set (k:=k) (s:=d) (by have:=h.2.1.un k;omega)) (show(us.set k d).length=n by rw[List.length_set];exact h.1);clear h o r F;generalize un us k=y at D z;go_enter func210,ntmps210;go_wp2_with fail;refine D.mono ?_;rintro e w' ⟨rfl,rfl⟩;go_wp2_with fail;refine z.mono ?_;rintro e w' ⟨rfl,rfl⟩;go_wp2_with fail;refine J.mono ?_;rintro e w' ⟨v,rfl,Q,R⟩;go_wp2;go_ret2;exact lD.row O.out rfl Q K R
theorem vR(A:Option Addr)(n c:Nat)(i:Int)(x:Nat)(us:List Nat)(w:World)(h:jk w w.heap.size A n us)(I:n≤1000000)(J:x<18446744073709551616)(U: -9223372036854775808≤i∧i≤9223372036854775807):
 Calls prog 181 #[.slice A n c,.int .i64 i,.int .u64 x] w (lD w (kU us i x)):=by
 unfold kU;by_cases o:i<0∨(us.length:Int)≤i
 ·rw[if_pos o]
  rw[h.1]at o;have H:=g' (vO A n c i o w);clear o h;go_enter func181,ntmps181;go_wp2_with fail;refine H.mono ?_;rintro e w' ⟨rfl,rfl⟩;go_wp2;go_ret2;exact lD.nil rfl hz
 rw[if_neg o];obtain⟨k,rfl⟩:∃k:Nat,i=k:=⟨i.toNat,by omega⟩;rw[Int.toNat_natCast];have F:k<n:=by have:=h.1;omega
 have D:=g' (vP A n c k _ us F w h);obtain⟨s,z⟩:=hk (un us k+x);rw[←z];by_cases E:s≤4611686018427387904
 ·rw[if_pos E]
  obtain⟨r,K,O,Q⟩:=h5 (mj (un us k) x s z (by omega) w) (vQ A n c k s us w h F I) (h.2.1.set (k:=k) (s:=s) (by have:=h.2.1.un k;omega)) (show(us.set k s).length=n by rw[List.length_set];exact h.1);have R:decide ((4611686018427387904:Int)<s)=false:=by simp;omega
  clear h o E z;generalize un us k=y at D r;go_enter func181,ntmps181;go_wp2_with fail;refine D.mono ?_;rintro e w' ⟨rfl,rfl⟩;go_wp2_with fail;refine r.mono ?_;rintro e w' ⟨rfl,rfl⟩;go_wp2_with fail;refine K.mono ?_;rintro e w' ⟨v,rfl,S,T⟩;go_wp2;go_ret2;exact lD.row Q.out rfl S O T
 rw[if_neg E];by_cases G:s<18446744073709551616;focus
  have r:=g' (mj (un us k) x s z G w);have R:decide ((4611686018427387904:Int)<s)=true:=by simp;omega
 rotate_left;focus
  have r:=g' (pQ (un us k) x (h.2.1.un k) J (by omega) w)
 all_goals
  clear h o E z G;generalize un us k=y at D r;go_enter func181,ntmps181;go_wp2_with fail;refine D.mono ?_;rintro e w' ⟨rfl,rfl⟩;go_wp2_with fail;refine r.mono ?_;rintro e w' ⟨rfl,rfl⟩;go_wp2;go_ret2;exact lD.nil rfl hz
end h0
namespace rk
def val(f:Nat→Nat):Nat→Nat
 |0=>0
 |n+1=>val f n+f n*10^n
def dg(ds:List Nat)(i:Nat):Nat:=ds.getD i 0
def dv(ds:List Nat):Nat:=val (dg ds) ds.length
def ji(ds:List Nat):Prop:=∀d∈ds,d<10
def nv(ds:List Nat):Prop:=ji ds∧(0<ds.length→0<dg ds (ds.length-1))
theorem val_congr{f g:Nat→Nat}:∀{n:Nat},(∀i,i<n→f i=g i)→val f n=val g n
 |0,_=>rfl
 |n+1,h=>by
  have e:=h n (by omega);have o:=val_congr (n:=n) fun i r=>h i (by omega);simp only[val,e,o]
theorem sk{f:Nat→Nat}:∀{n:Nat},(∀i,i<n→f i<10)→val f n<10^n
 |0,_=>by simp[val]
 |n+1,h=>by
  have o:=sk (n:=n) fun i r=>h i (by omega);have z:=h n (by omega);have A:f n*10^n≤9*10^n:=Nat.mul_le_mul_right _ (by omega);have D:10^(n+1)=9*10^n+10^n:=by rw[Nat.pow_succ];omega
  simp only[val];omega
theorem vS{f:Nat→Nat}(h:∀i,n≤i→f i=0):∀{m:Nat},n≤m→val f m=val f n:=by
 intro m;induction m with
 |zero=>intro o;have:n=0:=by omega
        subst this;rfl
 |succ m r=>
  intro o;by_cases e:n=m+1
  ·rw[e]
  ·simp only[val]
   rw[h m (by omega),r (by omega)];simp
theorem o3{ds:List Nat}(h:ds.length≤i):dg ds i=0:=by
 unfold dg;rw[iJ,List.getElem?_eq_none h];rfl
theorem vT{ds:List Nat}(h:i<ds.length):dg ds i=ds[i]:=by
 unfold dg;rw[iJ,List.getElem?_eq_getElem h];rfl
theorem ji.dg{ds:List Nat}(h:ji ds)(i:Nat):dg ds i<10:=by
 by_cases o:i<ds.length
 ·rw[vT o];exact h _ (List.getElem_mem _)
 ·rw[o3 (by omega)];omega
theorem pR{ds:List Nat}(h:ds.length≤m):val (dg ds) m=dv ds:=vS (fun _ o=>o3 o) h
theorem zZ{ds:List Nat}(h:ji ds):dv ds<10^ds.length:=sk fun i _=>h.dg i
theorem z1{ds es:List Nat}(h:i<ds.length):dg (ds++es) i=dg ds i:=by
 unfold dg;simp only[iJ];rw[List.getElem?_append_left h]
theorem vU(ds:List Nat)(d:Nat):dg (ds++[d]) ds.length=d:=by
 unfold dg;simp[iJ]
theorem z6(ds:List Nat)(d:Nat):dv (ds++[d])=dv ds+d*10^ds.length:=by
 unfold dv;rw[show(ds++[d]).length=ds.length+1 by simp];simp only[val];rw[vU,val_congr fun i o=>z1 o]
theorem vV{ds:List Nat}(h:ji ds)(r:d<10):ji (ds++[d]):=by
 intro x o;rcases List.mem_append.1 o with o|o
 ·exact h x o
 ·simp at o;omega
theorem vW:ji []:=fun _ h=>by simp at h
theorem z7:nv []:=⟨vW,fun h=>by simp at h⟩
theorem z8{ds:List Nat}(h:ji ds)(o:d<10)(r:0<d):nv (ds++[d]):=
 ⟨vV h o,fun _=>by rw[show(ds++[d]).length-1=ds.length by simp,vU];exact r⟩
theorem z'{ds:List Nat}(h:ji ds)(n:Nat):ji (ds.take n):=fun d o=>h d (List.mem_of_mem_take o)
theorem tN{ds:List Nat}(h:i<n):dg (ds.take n) i=dg ds i:=by
 unfold dg;simp only[iJ];rw[List.getElem?_take_of_lt h]
theorem vX{ds:List Nat}(r:n≤ds.length)(h:∀i,n≤i→i<ds.length→dg ds i=0):dv (ds.take n)=dv ds:=by
 have z:(ds.take n).length=n:=by simp;omega
 have A:∀i,n≤i→dg ds i=0:=fun i o=>by
  by_cases D:i<ds.length
  ·exact h i o D
  ·exact o3 (by omega)
 unfold dv;rw[vS A r,z];exact val_congr fun i o=>tN o
theorem vY{ds:List Nat}(r:ji ds)(A:n≤ds.length)(h:0<n→0<dg ds (n-1)):nv (ds.take n):=by
 have z:(ds.take n).length=n:=by simp;omega
 refine⟨z' r n,fun o=>?_⟩;rw[z]at o⊢;rw[tN (by omega)];exact h o
theorem nv.len{ds:List Nat}(h:nv ds)(A:dv ds<10^k):ds.length≤k:=by
 rcases Nat.lt_or_ge k ds.length with D|z
 ·exfalso
  have o:=h.2 (by omega);obtain⟨n,r⟩:∃n,ds.length=n+1:=⟨ds.length-1,by omega⟩;rw[r]at o;have E:dv ds=val (dg ds) n+dg ds n*10^n:=by unfold dv;rw[r];rfl
  have F:1*10^n≤dg ds n*10^n:=Nat.mul_le_mul_right _ o;have G:10^k≤10^n:=Nat.pow_le_pow_right (by omega) (by omega);omega
 ·exact z
theorem Aa{f g:Nat→Nat}(D:∀i,f i<10):∀{n:Nat},i<n→(∀j,i<j→j<n→f j=g j)→f i<g i→val f n<val g n:=by
 intro n;induction n with
 |zero=>intro h;omega
 |succ n E=>
  intro F z A;by_cases e:i=n
  ·subst e
   have r:val f i<10^i:=sk fun j _=>D j;have o:(f i+1)*10^i≤g i*10^i:=Nat.mul_le_mul_right _ A;rw[Nat.add_mul]at o;simp only[val];omega
  ·have r:=E (by omega) (fun j r o=>z j r (by omega)) A
   have o:=z n (by omega) (by omega);simp only[val,o];omega
theorem Ab{f g:Nat→Nat}(o:∀i,i≠j→f i=g i):∀{n:Nat},j<n→val f n+g j*10^j=val g n+f j*10^j:=by
 intro n;induction n with
 |zero=>intro h;omega
 |succ n r=>
  intro z;simp only[val];by_cases e:j=n
  ·subst e
   rw[val_congr fun i A=>o i (by omega)];omega
  ·have D:=r (by omega)
   rw[o n (by omega)];omega
theorem vZ{ds:List Nat}(o:j<ds.length)(i:Nat):dg (ds.set j x) i=if i=j then x else dg ds i:=by
 unfold dg;simp only[iJ,List.getElem?_set];by_cases e:j=i
 ·subst e;simp[o]
 ·rw[if_neg e,if_neg (by omega)]
theorem Ac{ds:List Nat}(o:j<ds.length):dv (ds.set j x)+dg ds j*10^j=dv ds+x*10^j:=by
 unfold dv;rw[List.length_set];have h:=Ab (f:=dg (ds.set j x)) (g:=dg ds) (j:=j) (fun i r=>by rw[vZ o,if_neg r]) o;rw[vZ o,if_pos rfl]at h;exact h
theorem Ad{ds:List Nat}(h:ji ds)(r:x<10):ji (ds.set j x):=fun d o=>by
 rcases List.mem_or_eq_of_mem_set o with o|o
 ·exact h d o
 ·omega
theorem Ae(n:Nat):dv (List.replicate n 0)=0:=by
 unfold dv;have h:∀m,val (dg (List.replicate n 0)) m=0:=by
  intro m;induction m with
  |zero=>rfl
  |succ m o=>
   simp only[val,o];have:dg (List.replicate n 0) m=0:=by
    unfold dg;rw[iJ,List.getElem?_replicate];split<;>rfl
   rw[this];simp
 exact h _
theorem Af(n:Nat):ji (List.replicate n 0):=fun d o=>by
 have:=List.eq_of_mem_replicate o;omega
def oh(o bs d:List Nat)(r i k:Nat):Prop:=
 ji d∧d.length=o.length+bs.length+1∧r≤9∧dv d+r*10^(i+k)=val (dg o) i*dv bs+dg o i*val (dg bs) k*10^i∧(k≤bs.length∨k=bs.length+1∧r=0)
def nQ(o bs d:List Nat)(i:Nat):Prop:=ji d∧d.length=o.length+bs.length+1∧dv d=val (dg o) i*dv bs
theorem nQ.start(o bs:List Nat):nQ o bs (List.replicate (o.length+bs.length+1) 0) 0:=
 ⟨Af _,by simp,by rw[Ae];simp[val]⟩
theorem nQ.row{bs d:List Nat}(h:nQ Y bs d i):oh Y bs d 0 i 0:=
 ⟨h.1,h.2.1,by omega,by rw[h.2.2];simp[val],.inl (by omega)⟩
theorem oh.place{bs d:List Nat}(h:oh Y bs d n i k)(o:i<Y.length):i+k<d.length:=by
 obtain⟨_,r,_,_,z⟩:=h;omega
theorem qv(o:a≤9)(r:b≤9):a*b≤81:=Nat.le_trans (Nat.mul_le_mul o r) (by omega)
theorem oh.step{bs d:List Nat}(z:ji Y)(A:ji bs)(h:oh Y bs d n i k)(E:i<Y.length)(S:k<bs.length∨0<n):
 oh Y bs (d.set (i+k) ((dg d (i+k)+dg Y i*dg bs k+n)%10)) ((dg d (i+k)+dg Y i*dg bs k+n)/10) i (k+1):=by
 have F:=h.place E;obtain⟨D,G,T,U,V⟩:=h;have W:=z.dg i;have X:=A.dg k;have Z:=D.dg (i+k);have aa:=qv (a:=dg Y i) (b:=dg bs k) (by omega) (by omega);have ac:=Ac (ds:=d) (x:=(dg d (i+k)+dg Y i*dg bs k+n)%10) F;have o:dv (d.set (i+k) ((dg d (i+k)+dg Y i*dg bs k+n)%10))+(dg d (i+k)+dg Y i*dg bs k+n)/10*10^(i+(k+1))=val (dg Y) i*dv bs+dg Y i*val (dg bs) (k+1)*10^i:=by
  have I:dg Y i*val (dg bs) (k+1)*10^i=dg Y i*val (dg bs) k*10^i+dg Y i*dg bs k*10^(i+k):=by
   simp only[val];rw[Nat.mul_add,Nat.add_mul];congr 1;rw[Nat.pow_add,←Nat.mul_assoc,Nat.mul_assoc (dg Y i*dg bs k),Nat.mul_comm (10^k),←Nat.mul_assoc]
  rw[I,show i+(k+1)=i+k+1 by omega,Nat.pow_succ];generalize dg Y i*dg bs k=ab at*;generalize dg d (i+k)=x at*;generalize 10^(i+k)=p at*;have J:(x+ab+n)*p=(x+ab+n)%10*p+(x+ab+n)/10*(p*10):=by
   rw[Nat.mul_comm p 10,←Nat.mul_assoc,←Nat.add_mul];congr 1;omega
  rw[Nat.add_mul,Nat.add_mul]at J;omega
 refine⟨Ad D (by omega),by rw[List.length_set,G],by omega,o,?_⟩;rcases Nat.lt_or_ge k bs.length with K|K
 ·exact .inl (by omega)
 ·obtain rfl:k=bs.length:=by omega
  refine .inr ⟨rfl,?_⟩;rw[pR (Nat.le_succ _)]at o;have O:val (dg Y) i*dv bs+dg Y i*dv bs*10^i=val (dg Y) (i+1)*dv bs:=by
   simp only[val];rw[Nat.add_mul,Nat.mul_assoc (dg Y i),Nat.mul_comm (dv bs) (10^i),←Nat.mul_assoc]
  have Q:val (dg Y) (i+1)<10^(i+1):=sk fun j _=>z.dg j;have R:=zZ A;have ad:val (dg Y) (i+1)*dv bs<10^(i+(bs.length+1)):=by
   rw[show i+(bs.length+1)=i+1+bs.length by omega,Nat.pow_add];exact Nat.mul_lt_mul_of_lt_of_le Q (Nat.le_of_lt R) (Nat.pow_pos (by omega))
  rw[O]at o;rcases Nat.eq_zero_or_pos ((dg d (i+bs.length)+dg Y i*dg bs bs.length+n)/10)with r|r
  ·exact r
  ·have:=Nat.mul_le_mul_right (10^(i+(bs.length+1))) r
   omega
theorem oh.done{bs d:List Nat}(h:oh Y bs d 0 i k)(o:bs.length≤k):nQ Y bs d (i+1):=by
 obtain⟨r,z,_,A,_⟩:=h;refine⟨r,z,?_⟩;rw[pR o]at A;simp only[val];rw[Nat.add_mul,Nat.mul_assoc (dg Y i),Nat.mul_comm (10^i),←Nat.mul_assoc];omega
theorem nQ.done{bs d:List Nat}(h:nQ Y bs d Y.length):dv d=dv Y*dv bs:=by rw[h.2.2,pR hj]
end rk
namespace kd
open RowKit
open hG rk
def ke(w:World)(B:Nat)(A:Option Addr)(n:Nat)(ds:List Nat):Prop:=ds.length=n∧Rd w B A n (fun j=> .int .i64 (dg ds j))
theorem lE(A:Option Addr)(n c:Nat)(ds:List Nat)(i B:Nat)(w:World)(h:ke w B A n ds):
 Calls prog 252 #[.slice A n c,.int .i64 i] w fun e w'=>e= .returned (.int .i64 (dg ds i))∧w=w':=by
 obtain⟨D,h⟩:=h;by_cases o:i<n
 ·obtain⟨E,rfl,_,F⟩:=h i o
  have r:=hZ o;go_enter func252,ntmps252;go_wp2;go_ret;exact⟨rfl,rfl⟩
 have r:=h1 o;have z:=g' (o3 (ds:=ds) (i:=i) (by omega));go_enter func252,ntmps252;go_wp2;go_ret;exact⟨by rw[z.out];rfl,rfl⟩
theorem tO(A:Option Addr)(n c:Nat)(ds:List Nat)(w:World)(h:ke w w.heap.size A n ds)(D:ji ds)(S:n≤c)(T:n≤2000010):
 Calls prog 253 #[.slice A n c] w fun e w'=>∃m,e= .returned (.agg #[.slice A m c])∧m≤n∧nv (ds.take m)∧dv (ds.take m)=dv ds∧Below w.heap.size w w':=by
 obtain⟨E,h⟩:=h;have G:Rd (w.alloc (.cells #[.slice none 0 0] 280)) w.heap.size A n (fun j=> .int .i64 (dg ds j)):=h.below (hz.alloc hj _);have U:=Nat.le_of_eq E;have V:=Nat.le_of_eq E.symm;go_enter func253,ntmps253;go_wp2;go_loop [3] (fun v=>∃m:Nat,m≤n∧v= .int .i64 m∧∀i,m≤i→i<ds.length→dg ds i=0) (fun v=>(intOf v).toNat)
 case atStart=>exact⟨n,hj,rfl,fun i o F=>absurd o (by omega)⟩
 case round=>
  obtain⟨m,W,rfl,I⟩:=hrel;have r:=g' I;by_cases J:m=0
  ·subst J
   go_wp2;refine bodyPost_ret (v:= .agg #[.slice A 0 c]) (by simp[results,results253,go_sem]) rfl ?_;exact⟨0,rfl,by omega,vY D (by omega) (fun h=>by omega),vX (by omega) r,(hz.alloc hj _)⟩
  obtain⟨K,rfl,_,X⟩:=G (m-1) (by omega);have o:1≤m:=by omega
  by_cases z:dg ds (m-1)=0
  ·have O:((dg ds (m-1):Int)==0)=true:=by simp[z]
   have Q:∀i,m-1≤i→i<ds.length→dg ds i=0:=fun i o F=>by
    by_cases e:i=m-1
    ·rw[e];exact z
    exact r i (by omega) F
   have R:=g' Q;go_wp2;exact⟨⟨m-1,by omega,by go_num,R⟩,by simp[intOf];omega⟩
  have O:((dg ds (m-1):Int)==0)=false:=by simp[z]
  go_wp2;refine bodyPost_ret (v:= .agg #[.slice (some K) m c]) (by simp[results,results253,go_sem]) rfl ?_;exact⟨m,rfl,by omega,vY D (by omega) (fun h=>by omega),vX (by omega) r,(hz.alloc hj _)⟩
def kf(r:Nat)(w:World)(v:Value)(N:Nat):Prop:=
 ∃(A:Option Addr) (n c:Nat) (ds:List Nat),v= .agg #[.slice A n c]∧n≤c∧ke w w.heap.size A n ds∧nv ds∧dv ds=N∧∀o,A=some o→r≤o.block
def o4(d:Nat):Value:= .int .i64 d
theorem tP{ds:List Nat}(h:j<ds.length):(ds.map o4)[j]?=some (.int .i64 (dg ds j)):=by
 rw[List.getElem?_map,List.getElem?_eq_getElem h,vT h];rfl
theorem Ag{v:Value}{ds:List Nat}(h:w.ownsRow n e 1 v ds.length (ds.map o4)):
 ∃A c,v= .slice A ds.length c∧ds.length≤c∧(∀o,A=some o→n≤o.block)∧ke w w.heap.size A ds.length ds:=by
 obtain⟨A,c,r,z,_,D,E⟩:=Rd.own h (fun j F=>tP F);exact⟨A,c,r,z,D,rfl,E⟩
theorem ke.set{ds:List Nat}(h:ke w B A n ds){p:Addr}(r:∀o,A=some o→o.block≠p.block)(u:Value):ke (w.setCell p u) B A n ds:=⟨h.1,h.2.set r u⟩
theorem ke.more{B':Nat}{ds:List Nat}(h:ke w B A n ds)(o:B≤B'):ke w B' A n ds:=⟨h.1,h.2.more o⟩
theorem ke.below{w':World}{ds:List Nat}(h:ke w B A n ds)(o:Below B w w'):ke w' B A n ds:=⟨h.1,h.2.below o⟩
theorem ke.to{w':World}{ds:List Nat}(h:ke w w.heap.size A n ds)(o:Below w.heap.size w w'):ke w' w'.heap.size A n ds:=⟨h.1,h.2.to o⟩
theorem Ah{ds:List Nat}(h:ke w B A n ds)(o:m≤n):ke w B A m (ds.take m):=
 ⟨by rw[List.length_take,h.1];omega,(h.2.take o).congr fun j r=>by rw[tN r]⟩
def nx(a b:Nat)(ds:List Nat):Prop:=ji ds∧dv ds+b*10^ds.length=a∧(b=0→nv ds)
theorem nx.start(a:Nat):nx a a []:=⟨vW,by simp[dv,val],fun _=>z7⟩
theorem nx.step{ds:List Nat}(h:nx a b ds)(D:0<b):nx a (b/10) (ds++[b%10]):=by
 obtain⟨o,r,_⟩:=h;refine⟨vV o (by omega),?_,fun E=>z8 o (by omega) (by omega)⟩;rw[z6,List.length_append,List.length_singleton,Nat.pow_succ,←r];have e:b=b%10+10*(b/10):=by omega
 have z:b*10^ds.length=b%10*10^ds.length+10*(b/10)*10^ds.length:=by rw[←Nat.add_mul,←e]
 have A:b/10*(10^ds.length*10)=10*(b/10)*10^ds.length:=by rw[Nat.mul_comm (10^ds.length) 10,←Nat.mul_assoc,Nat.mul_comm (b/10) 10]
 rw[z,A];omega
theorem nx.len{ds:List Nat}(h:nx a b ds)(z:a<18446744073709551616)(r:0<b):ds.length<20:=by
 rcases Nat.lt_or_ge ds.length 20 with o|o
 ·exact o
 have A:10^20≤10^ds.length:=Nat.pow_le_pow_right (by omega) o;have D:1*10^ds.length≤b*10^ds.length:=Nat.mul_le_mul_right _ r;have E:=h.2.1;omega
theorem nx.le{ds:List Nat}(h:nx a b ds):b≤a:=by
 have o:b*1≤b*10^ds.length:=Nat.mul_le_mul_left _ (Nat.pow_pos (by omega));have r:=h.2.1;omega
theorem pS:(prog.info? 3).map (fun i=>(i.zero,i.size,i.bytes))=some (some (.int .i64 0),1,8):=by kernel_rfl
theorem rm(a:Nat)(O:a<18446744073709551616)(w:World):
 Calls prog 215 #[.int .u64 a] w fun e w'=>∃v,e= .returned v∧kf w.heap.size w' v a∧Below w.heap.size w w':=by
 obtain⟨Q,R,S,T,U⟩:=info_parts pS;obtain⟨o,D⟩:=ho (w.alloc (.cells #[.slice none 0 0] 280));have V:Below w.heap.size w o:=by rw[←D];exact hz.alloc hj _
 have G:w.heap.size<o.heap.size:=by rw[←D];simp
 have W:o.cell? ⟨w.heap.size,0,none⟩=some (.slice none 0 0):=by rw[←D];rw[World.cell?_alloc_at _ _ _ _ rfl];rfl
 have X:o.frozen? ⟨w.heap.size,0,none⟩=false:=by rw[←D];exact World.frozen?_alloc_at _ _ _ _ rfl
 go_enter func215,ntmps215;go_wp2;go_loopw [0,3] (fun x v wr=>∃(b:Nat) (ds:List Nat),x= .int .u64 b∧nx a b ds∧wr.ownsRow o.heap.size 3 1 v ds.length (ds.map o4)∧Below o.heap.size o wr) (fun x _ _=>(intOf x).toNat)
 case atStart=>exact⟨a,[],rfl,nx.start a,World.ownsRow_nil _ _ _ _,hz⟩
 case round=>
  obtain⟨b,ds,rfl,r,F,z⟩:=hrel;by_cases I:0<b
  ·have am:=r.len O I
   have Y:=g' (r.step I);have an:b≤18446744073709551615:=by have:=r.le;omega
   go_wp2_with (at_builtin;refine wpList_append_own _ rfl _ _ 40 rfl o.heap.size 3 Q (.int .i64 0) 1 8 kB R S T U rfl (by decide) _ _ _ rfl (F.alloc _) ⟨wr.heap.size,0,none⟩ 1 1 [.int .i64 ((b%10:Nat):Int)] rfl rfl ?Z ?aa ?ab ?ac ?ad ?_)
   case Z=>exact cell_one_new _ _ _
   case aa=>intro u J;simp at J;subst J;rfl
   case ab=>unfold maxLen;omega
   case ac=>omega
   case ad=>have:=z.size;simp;omega
   intro ao ap ae af _;have ag:=nt z F af;go_wp2;exact⟨⟨b/10,ds++[b%10],by go_num,Y.out,by rw[List.length_append,List.map_append];exact ae,ag⟩,by simp[intOf];omega⟩
  obtain rfl:b=0:=by omega
  have ah:=r.2.2 rfl;have ai:=g' r.2.1;obtain⟨A,c,rfl,aj,K,ak⟩:=Ag F;have al:=jt z G W;have aq:wr.frozen? ⟨w.heap.size,0,none⟩=false:=(z.frozen G).trans X;go_wp2;refine bodyPost_ret (v:= .agg #[.slice A ds.length c]) (by simp[results,results215,go_sem,World.cell?_setCell_same _ _ _ al]) rfl ?_;refine⟨_,rfl,⟨A,_,c,ds,rfl,aj,?_,ah,by have:=ai.out;simpa using this,fun E h=>by have:=K E h;omega⟩,?_⟩
  ·rw[World.size_setCell]
   exact ak.set (fun E h=>by have:=K E h;show E.block≠w.heap.size;omega) _
  exact(V.trans (z.mono (by omega))).setCell hj _
def oi(a b:Nat):Int:=if a<b then-1 else if b<a then 1 else 0
theorem Ai(h:a<b):oi a b= -1:=by unfold oi;rw[if_pos h]
theorem Aj(h:b<a):oi a b=1:=by unfold oi;rw[if_neg (by omega),if_pos h]
theorem Ak(h:a=b):oi a b=0:=by unfold oi;rw[if_neg (by omega),if_neg (by omega)]
theorem ke.drewN{ds:List Nat}(h:ke w B A n ds)(q:Nat):ke (w.drewN q) B A n ds:=h
theorem v7{ds es:List Nat}(o:ji ds)(r:m<k)(z:ds.length≤k)(A:es.length≤k)(h:∀j,m+1≤j→dg ds j=dg es j)(D:dg ds m<dg es m):dv ds<dv es:=by
 rw[←pR z,←pR A];exact Aa (fun i=>o.dg i) r (fun j E _=>h j E) D
theorem Al{ds es:List Nat}(o:ds.length≤k)(r:es.length≤k)(h:∀j,0≤j→dg ds j=dg es j):dv ds=dv es:=by
 rw[←pR o,←pR r];exact val_congr fun i _=>h i (h6)
theorem Am(A o:Option Addr)(n c n' c':Nat)(ds es:List Nat)(w:World)(h:ke w w.heap.size A n ds)(U:ke w w.heap.size o n' es)(Z:ji ds)(aa:ji es)(ab:n≤1000000)(ac:n'≤1000000):
 Calls prog 216 #[.agg #[.slice A n c],.agg #[.slice o n' c']] w fun e w'=>e= .returned (.int .i64 (oi (dv ds) (dv es)))∧Below w.heap.size w w':=by
 obtain⟨G,I⟩:=ho ((w.alloc (.cells #[.slice A n c] 280)).alloc (.cells #[.slice o n' c'] 280));have D:Below w.heap.size w G:=by rw[←I];exact(hz.alloc hj _).alloc (by simp) _
 have af:G.cell? ⟨w.heap.size,0,none⟩=some (.slice A n c):=by rw[←I,World.cell?_alloc_past _ _ _ (by simp),World.cell?_alloc_at _ _ _ _ rfl];rfl
 have ag:G.cell? ⟨w.heap.size+1,0,none⟩=some (.slice o n' c'):=by rw[←I,World.cell?_alloc_at _ _ _ _ (by simp)];rfl
 have r:=h.below D;have z:=U.below D;clear h U;have V:=r.1;have W:=z.1;obtain⟨J,K⟩:=hg V W;clear V W;go_enter func216,ntmps216;go_wp2;clear I;all_goals
  go_loopw [5] (fun v wr=>∃(k q:Nat) (i:Int),v= .int .i64 i∧i=(k:Int) -1∧k≤1000000∧(∀j,k≤j→dg ds j=dg es j)∧wr=G.drewN q) (fun v _=>(intOf v+1).toNat)
  case atStart=>
   have ah:=J.out;have ai:=K.out;first
    |exact⟨n',0,_,rfl,rfl,ac,fun j O=>by rw[o3 (by omega),o3 (by omega)],rfl⟩
    |exact⟨n,0,_,rfl,rfl,ab,fun j O=>by rw[o3 (by omega),o3 (by omega)],rfl⟩
  case round=>
   obtain⟨k,q,i,rfl,X,aj,E,rfl⟩:=hrel;have Q:=g' E;clear E;rcases Nat.eq_zero_or_pos k with R|R
   ·subst R
    obtain rfl:i= -1:=by omega
    clear X;have F:=g' (Ak (Al (ds:=ds) (es:=es) (k:=1000000) (by have:=J.out;omega) (by have:=K.out;omega) Q));go_wp2;go_ret;exact⟨by rw[F.out];rfl,by repeat (first|exact D|refine below_drewN ?_ _)⟩
   obtain⟨m,rfl⟩:∃m,k=m+1:=⟨k-1,by omega⟩;obtain rfl:i=(m:Int):=by omega
   clear X R;rcases Nat.lt_trichotomy (dg ds m) (dg es m)with S|E|T
   ·have Y:decide (dg ds m<dg es m)=true:=by simpa using S
    have F:=g' (Ai (v7 Z (m:=m) (k:=1000000) (by omega) (by have:=J.out;omega) (by have:=K.out;omega) Q S));clear S;go_wp2;go_quiet ((go_at_call 252;first|(with_reducible exact nM (lE A n c ds _ _ _ (r.drewN _)))|(with_reducible exact nM (lE o n' c' es _ _ _ (z.drewN _)))))
    go_wp2;go_ret;exact⟨by rw[F.out];rfl,by repeat (first|exact D|refine below_drewN ?_ _)⟩
   ·have Y:decide (dg ds m<dg es m)=false:=by simp;omega
    have ad:decide (dg es m<dg ds m)=false:=by simp;omega
    have ae:=g' (show∀j,m≤j→dg ds j=dg es j from fun j O=>by
     by_cases e:j=m
     ·rw[e];exact E
     exact Q j (by omega))
    clear E;go_wp2;go_quiet ((go_at_call 252;first|(with_reducible exact nM (lE A n c ds _ _ _ (r.drewN _)))|(with_reducible exact nM (lE o n' c' es _ _ _ (z.drewN _)))))
    go_wp2;go_quiet ((go_at_call 252;first|(with_reducible exact nM (lE A n c ds _ _ _ (r.drewN _)))|(with_reducible exact nM (lE o n' c' es _ _ _ (z.drewN _)))))
    go_wp2;exact⟨⟨m,_,_,rfl,by omega,by omega,ae,rfl⟩,by simp[intOf]⟩
   have Y:decide (dg ds m<dg es m)=false:=by simp;omega
   have ad:decide (dg es m<dg ds m)=true:=by simpa using T
   have F:=g' (Aj (v7 aa (m:=m) (k:=1000000) (by omega) (by have:=K.out;omega) (by have:=J.out;omega) (fun j O=>(Q j O).symm) T));clear T;go_wp2;go_quiet ((go_at_call 252;first|(with_reducible exact nM (lE A n c ds _ _ _ (r.drewN _)))|(with_reducible exact nM (lE o n' c' es _ _ _ (z.drewN _)))))
   go_wp2;go_quiet ((go_at_call 252;first|(with_reducible exact nM (lE A n c ds _ _ _ (r.drewN _)))|(with_reducible exact nM (lE o n' c' es _ _ _ (z.drewN _)))))
   go_wp2;go_ret;exact⟨by rw[F.out];rfl,by repeat (first|exact D|refine below_drewN ?_ _)⟩
theorem tJ{v:Value}{xs:List Value}(h:w.ownsRow g e b v n xs)(q:Nat):(w.drewN q).ownsRow g e b v n xs:=h
end kd
end Go.Proofs.YtffbipddbnkdjaaGreat
