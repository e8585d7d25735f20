/- What functions compute at any arguments, and plain facts: A reader, fourth part: Raw; Parameters that are read; Parameters that are read: Read; Whether a number lies between two; whether a motion is right and others. Conditions: those that each theorem names. -/
import Derived.Test.YtffbipddbnkdjaaGreatZ14
set_option maxRecDepth 100000
set_option maxHeartbeats 40000000
set_option linter.all false
open Go Go.Proofs.Tryz
open Go.Value(int)
open Go.IntKind(i64 u64)
variable{A T:Option Addr}{n g b L k B i x a m j q c p s r d h u N y:Nat}{E z:Int}{P:Program}{w W X Z:World}{e t:TypeId}{f:Nat→Value}{l:List Bool}{V U:Value}{Y:List Nat}{S:List Value}{R:List Int}{Q:Array Value}{O:List (List Nat)}{M:Bool}{K:Ending}{J:Addr}{I:Nat→Nat}{H:Option Nat}
namespace Go.Proofs.YtffbipddbnkdjaaGreat
namespace hB
open RowKit
open hG hf hU
section
variable {P:Program}
theorem x0{o:Oper}{a:Act}{K:Act→World→Prop}{Q:Exit→Act→World→Prop}(s x:Operand)(t:TypeId)
 (I:o.op= .call {callee:= .builtin .append,args:= #[s,x],argTypes:= #[t,t]})
 (D:Nat) (e:TypeId) (i:TypeInfo) (z:Value) (r G:Nat) (J:P.underlying t=some (.slice e)) (O:P.info? e=some i) (R:i.zero=some z)
 (S:i.size=r) (T:i.bytes=G) (U:z.cells.size=r) (V:0<r) (v:Value) (n:Nat) (xs:List Value) (W:a.eval s=v) (X:w.ownsRow D e r v n xs)
 (A:Option Addr) (m c:Nat) (E:List Value) (Y:a.eval x= .slice A m c) (Z:hV w w.heap.size A m r E) (aa:∀u∈E,u.oneCell'=true)
 (ab:n+m≤maxLen) (ac:(n+m)*G≤140737488355328) (ad:D≤w.heap.size)
 (h:∀F w',w'.ownsRow D e r F (n+m) (xs++E)→w.grownBy w' v.ownBlock→K (a.put o.dst F) w'):Oper.wp P o a w K Q:=by
 obtain⟨F,w',ae,af,ag⟩:=vK (P:=P) w D t o.type e i z r G J O R S T U V v n xs X A m c E Z aa ab ac ad;unfold Oper.wp;simp[execOp,I,resolve,invoke,builtin,W,Y,ae,Result.andThen];exact h F w' af ag
end
theorem Dt{bs:List Nat}(h:hq.ie w L (some ⟨q,0,none⟩) n bs)(k j:Nat)(F:k+j≤n):hV w L (some ⟨q,k,none⟩) j 1 (((bs.drop k).take j).map hq.jq):=by
 obtain⟨G,_,o⟩:=h;have r:((bs.drop k).take j).length=j:=by simp;omega
 refine⟨by rw[List.length_map,r];omega,fun i z=>?_⟩;rw[Nat.mul_one]at z;obtain⟨I,e,A,D⟩:=o (k+i) (by omega);cases e;refine⟨_,rfl,A,?_⟩;have E:(⟨q,k,none⟩:Addr).add i=(⟨q,0,none⟩:Addr).add (k+i):=by rw[hG.k1];simp[Addr.add]
 rw[E,D,kN,hq.rb (by omega)];simp only[Option.getD_some];congr 2;unfold jQ.iA;rw[iJ,iJ,List.getElem?_take_of_lt (by omega),List.getElem?_drop]
theorem x1{xs:List Value}{v:Value}(h:w.ownsRow b e L v n xs){s:Sl}(D:v=s.v)(z:s.A=some J):∃r,w.heap[J.block]?=some (.cells r e (0,0)):=by
 subst D;rcases h.2 with⟨o,_⟩|⟨g,cap,r,o,_,E,_⟩
 ·unfold Sl.v at o;injection o with o;rw[z]at o;cases o
 unfold Sl.v at o;injection o with o;rw[z]at o;injection o with o;subst o;exact⟨r,E⟩
def qJ(w w':World)(L g:Nat)(b:Sl)(bs:List Nat)(r:Int)(v:Value):Prop:=
 ∃(s:Sl) (z:List Nat),v=s.v∧(s.n:Int)≤r∧s.Ok∧hq.ie w' w'.heap.size s.A s.n z∧(∀o,s.A=some o→w.heap.size≤o.block∧∃D,w'.heap[o.block]?=some (.cells D 5 (0,0)))∧Left w w' L g b bs
theorem qJ.nil{w':World}{b:Sl}{bs:List Nat}(o:0≤E)(h:Left w w' L g b bs):qJ w w' L g b bs E (.slice none 0 0):=
 ⟨Sl.nil,[],rfl,o,.nil,⟨rfl,(fun x r=>by cases r),Rd.nil⟩,(fun z e=>by cases e),h⟩
theorem hn.trans'(o:hn g w W)(r:hn g W X):hn g w X:=
 ⟨r.os.trans o.os,r.tape.trans o.tape,r.output.trans o.output,Nat.le_trans o.size r.size,fun k z A=>(r.block k (Nat.lt_of_lt_of_le z o.size) A).trans (o.block k z A)⟩
theorem hn.jJ{w':World}(h:Below w.heap.size w w'):hn g w w':=⟨h.os,h.tape,h.output,h.size,fun k o _=>h.block k o⟩
theorem Dv(L g:Nat)(b:Sl)(bs:List Nat)(e aa:Int)(ac:Int)(ab:0≤ac∧ac≤9223372036854775807)(w:World)(h:j7 w L g b bs e aa):
 Calls prog 240 #[.pointer (some ⟨g,0,none⟩),int i64 ac] w fun r w'=>∃v,r= .returned v∧qJ w w' L g b bs ac v:=by
 obtain⟨x,G⟩:=hk (e==0);obtain⟨al,H,aO,aP⟩:=h5 (fun ad ae W h x G=>qB b ad ae g W h x G) h (fun W ad ae h=>oF L g b bs ad ae ac ab W h) (fun W ad ae y h=>xW b ad ae y g W h);have ao:=h.h2.all;obtain⟨aA,ap⟩:=hg G ab;clear h G ab;cases x
 ·go_enter func240,ntmps240
  go_wp2_with fail;refine(al _ _ _ H.h2 _ aA).mono ?_;rintro r w' ⟨rfl,rfl⟩;go_wp2;go_ret;exact⟨_,rfl,qJ.nil ap.1 ⟨e,aa,H,hn.refl _ _⟩⟩
 go_enter func240,ntmps240;go_wp2_with fail;refine(al _ _ _ H.h2 _ aA).mono ?_;rintro r w' ⟨rfl,rfl⟩;go_wp2_with fail;refine(aO _ _ _ H).mono ?_;rintro r R ⟨m,ab,rfl,S,aq,T,aB⟩;obtain⟨z,U⟩:=hg T aB;have aC:=T.pos;have aQ:=g' T.ok;have aR:=T.len;have a5:=T.h2.all;have a6:=T.h2.frozen 2;obtain⟨y,aD⟩:=hk (S==0);have aE:=g' aD;clear T aB aD ao;cases y
 ·go_wp2_with fail
  refine(al _ _ _ z.h2 _ aE).mono ?_;rintro r w' ⟨rfl,rfl⟩;go_wp2;go_ret;exact⟨_,rfl,qJ.nil ap.1 ⟨S,aq,z,U⟩⟩
 go_wp2_with fail;refine(al _ _ _ z.h2 _ aE).mono ?_;rintro r w' ⟨rfl,rfl⟩;obtain⟨k,rfl⟩:∃k:Nat,aq=(k:Int):=⟨aq.toNat,by omega⟩;obtain⟨j,rfl⟩:∃j:Nat,m=(j:Int):=⟨m.toNat,by omega⟩;have a7:i64.wrap ((b.n:Int) -(k:Int))=(b.n:Int) -(k:Int):=IntWalk.i64_in _ (by omega);by_cases E:(b.n:Int) -(k:Int)<(j:Int);focus
  have aS:=hZ E
 rotate_left;focus
  have aS:=h1 E;have aT:=g' (show(k:Int)+(j:Int)≤(b.n:Int) by omega);obtain⟨aF,aG,aH,aI,aJ⟩:=info_parts xY;have a8:i64.wrap ((k:Int)+(j:Int))=(k:Int)+(j:Int):=IntWalk.i64_in _ (by omega)
 rotate_left;all_goals
  go_wp2;refine j8 (fun w'=>ha w' g 263 (kW b S k)) (by kernel_rfl) (by rintro _ _ (_|_) _ _ h<;>exact h) z.h2.drew fun aK D=>?_;refine lQ (by rintro _ _ (_|_) _ _ h<;>exact h) 13 (i' 0 13 []) D (by kernel_rfl) ?_;iterate 13(refine iu rfl rfl (fun w' F=>by try simp only[S3];have af:=F.all;go_simp;try rfl) ?_;try simp only[S4,S3])
  refine il ?_;clear D;refine wpAnyH_done (by kernel_rfl) ?_ _
 ·go_wp2_with fail
  refine(aP _ S aa 50 (z.h2.drew.set 2 (int i64 aa))).mono ?_;rintro r am ⟨rfl,aL,ar⟩;obtain⟨aU,aV⟩:=hg (H.hT (hn.trans' ((hn.trans' U (hn.jJ hM)).setCell (p:=⟨g,2,none⟩) (.inl rfl) (int i64 aa)) ar) aL H.pos) (hn.trans' ((hn.trans' U (hn.jJ hM)).setCell (p:=⟨g,2,none⟩) (.inl rfl) (int i64 aa)) ar);clear aL ar;go_wp2;go_ret;exact⟨_,rfl,qJ.nil ap.1 ⟨_,_,aU,aV⟩⟩
 go_wp2;obtain⟨B,aM,I⟩:=b;rcases aQ.out with⟨A,J,an⟩|⟨q,A,J,an⟩
 ·simp only at A J an aC E
  subst A J an;obtain rfl:k=0:=by omega
  obtain rfl:j=0:=by omega
  have a9:i64.wrap 0=0:=rfl;have au:=g' (hV.nil R.drew.drew R.drew.drew.heap.size none 1);refine j8 (fun w'=>ha w' g 263 (kW ⟨none,0,0⟩ S (0:Nat))) (by kernel_rfl) (by rintro _ _ (_|_) _ _ h<;>exact h) z.h2.drew fun aK D=>?_;refine lQ (by rintro _ _ (_|_) _ _ h<;>exact h) 16 (i' 0 16 []) D (by kernel_rfl) ?_;iterate 16(refine iu rfl rfl (fun w' F=>by try simp only[S3];have af:=F.all;go_simp;try rfl) ?_;try simp only[S4,S3])
  refine il ?_;refine iD 16 rfl (by kernel_rfl) fun K av=>?_;rw[if_pos (by rfl)];refine x0 (.const (.slice none 0 0)) (.tmp 65) 36 rfl R.drew.drew.heap.size 5 aF (int .u8 0) 1 1 lF aG aH aI aJ rfl (by decide) (.slice none 0 0) 0 [] rfl (World.ownsRow_nil _ _ _ _) none (0) (0) _ rfl au ((fun u aW=>by cases aW)) ?_ ?_ hj ?_
  ·unfold maxLen;omega
  ·omega
  intro v am ag V;refine av.out _ _ ?_ (fun D=>?_)
  ·exact z.h2.drew.drew.to (hz.grown V hj (fun k X=>by cases X))
  try simp only[Act.put,List.getElem_toArray,List.getElem_cons_zero,List.getElem_cons_succ]
  refine wpAnyH_take (i:=17) (v:= ?a') rfl (by kernel_rfl) (by kernel_rfl) (by kernel_rfl) (fun _ _ _ h=>h) (Or.inl ⟨by rfl,?aX⟩) D ?ba
  case aX=>
   intro w' F;try simp only[S3]
   have af:=F.all;go_simp;try rfl
  try simp only[S4,S3]
  have Y:=g' D;clear D;refine wpAnyH_done (by kernel_rfl) ?_ _;have ao:=Y.all;have aY:=Y.frozen 2;obtain⟨ah,aw⟩:=hg ag V;clear ag V;go_wp2;go_ret;obtain⟨s,ai,aZ,ax,Z,aj⟩:=jZ ah;have ak:=hn.trans' (hn.jJ (g:=g) (Below.drew (Below.drew (Below.refl _ R)))) (hn.jJ (g:=g) (hz.grown aw hj (fun k X=>by cases X)));have O:=(hn.refl g am).setCell (p:=⟨g,2,none⟩) (.inl rfl) (int i64 (((0:Nat):Int)+((0:Nat):Int)));have a0:=z.h2.lt;refine⟨_,rfl,s,[],ai,by have:=ab;omega,ax,lK.2 ⟨⟨by have:=aj.1;simpa using this,?_⟩,fun x G=>?_⟩,(fun Q e=>⟨by have A:=Z Q e;have J:=U.size;simp at A;omega,by obtain⟨ay,E⟩:=x1 ah ai e;exact⟨ay,(O.block _ (Array.getElem?_eq_some_iff.1 E).1 (by have A:=Z Q e;simp at A;omega)).trans E⟩⟩),S,(((0:Nat):Int)+((0:Nat):Int)),z.hT (hn.trans' ak O) (Y.set 2 _) (by constructor<;>(try simp only)<;>omega),hn.trans' U (hn.trans' ak O)⟩
  ·exact l8 (by simpa using aj.2) O (fun Q e=>by have:=Z Q e;simp at this;omega)
  exact z.row.2.1 x (by first|cases G|exact List.mem_of_mem_drop (List.mem_of_mem_take G))
 simp only at A J an aC E aR;subst A;have E:=aT.out;simp only at E;have bb:(0:Int)≤(k:Int):=by omega
 have bc:(k:Int)≤(k:Int)+(j:Int):=by omega
 have bd:(k:Int)+(j:Int)≤(I:Int):=by omega
 have be:((k:Int)+(j:Int)).toNat=k+j:=by omega
 have bf:((k:Int)).toNat=k:=by omega
 have bg:k+j-k=j:=by omega
 have bh:k+j≤I:=by omega
 have bi:k≤I:=by omega
 obtain⟨o,az⟩:∃o:Nat,(I=k∧o=0)∨(I≠k∧o=k):=by
  by_cases e:I=k
  ·exact⟨0,.inl ⟨e,rfl⟩⟩
  exact⟨k,.inr ⟨e,rfl⟩⟩
 have a1:=g' az;have au:=g' (show hV R.drew.drew R.drew.drew.heap.size (some ⟨q,o,none⟩) j 1 (((bs.drop k).take j).map hq.jq)from by
  rcases az with⟨a2,aN⟩|⟨a2,aN⟩
  ·rw[show j=0 by omega,List.take_zero]
   exact hV.nil _ _ _ _
  rw[aN];exact((Dt (n:=aM) z.row k j (by omega)).more (Nat.le_trans z.low (Nat.le_of_lt z.h2.lt))).below (hz.drew.drew))
 clear az;refine j8 (fun w'=>ha w' g 263 (kW ⟨some ⟨q,0,none⟩,aM,I⟩ S (k:Nat))) (by kernel_rfl) (by rintro _ _ (_|_) _ _ h<;>exact h) z.h2.drew fun aK D=>?_;refine lQ (by rintro _ _ (_|_) _ _ h<;>exact h) 15 (i' 0 15 []) D (by kernel_rfl) ?_;iterate 15(refine iu rfl rfl (fun w' F=>by try simp only[S3];have af:=F.all;go_simp;try rfl) ?_;try simp only[S4,S3])
 refine il ?_;refine wpAnyH_take (i:=15) (v:= .slice (some ⟨q,o,none⟩) j (I-k)) rfl (by kernel_rfl) (by kernel_rfl) (by kernel_rfl) (fun _ _ _ h=>h) (Or.inl ⟨by rfl,?a3⟩) D ?bj
 case a3=>
  intro w' F;try simp only[S3]
  have af:=F.all;go_simp;rcases a1.out with⟨A,J⟩|⟨A,J⟩<;>simp[A,J]
 try simp only[S4,S3]
 refine iD 16 rfl (by kernel_rfl) fun K av=>?_;rw[if_pos (by rfl)];refine x0 (.const (.slice none 0 0)) (.tmp 65) 36 rfl R.drew.drew.heap.size 5 aF (int .u8 0) 1 1 lF aG aH aI aJ rfl (by decide) (.slice none 0 0) 0 [] rfl (World.ownsRow_nil _ _ _ _) (some ⟨q,o,none⟩) j ((I-k)) _ rfl au (xZ _) ?_ ?_ hj ?_
 ·unfold maxLen;omega
 ·omega
 intro v am ag V;refine av.out _ _ ?_ (fun D=>?_)
 ·exact z.h2.drew.drew.to (hz.grown V hj (fun k X=>by cases X))
 try simp only[Act.put,List.getElem_toArray,List.getElem_cons_zero,List.getElem_cons_succ]
 refine wpAnyH_take (i:=17) (v:= ?bk) rfl (by kernel_rfl) (by kernel_rfl) (by kernel_rfl) (fun _ _ _ h=>h) (Or.inl ⟨by rfl,?a4⟩) D ?bl
 case a4=>
  intro w' F;try simp only[S3]
  have af:=F.all;go_simp;try rfl
 try simp only[S4,S3]
 have Y:=g' D;clear D;refine wpAnyH_done (by kernel_rfl) ?_ _;have ao:=Y.all;have aY:=Y.frozen 2;obtain⟨ah,aw⟩:=hg ag V;clear ag V;go_wp2;go_ret;obtain⟨s,ai,aZ,ax,Z,aj⟩:=jZ ah;have ak:=hn.trans' (hn.jJ (g:=g) (Below.drew (Below.drew (Below.refl _ R)))) (hn.jJ (g:=g) (hz.grown aw hj (fun k X=>by cases X)));have O:=(hn.refl g am).setCell (p:=⟨g,2,none⟩) (.inl rfl) (int i64 (((k:Nat):Int)+((j:Nat):Int)));have a0:=z.h2.lt;refine⟨_,rfl,s,(bs.drop k).take j,ai,by have:=ab;omega,ax,lK.2 ⟨⟨by have:=aj.1;simpa using this,?_⟩,fun x G=>?_⟩,(fun Q e=>⟨by have A:=Z Q e;have J:=U.size;simp at A;omega,by obtain⟨ay,E⟩:=x1 ah ai e;exact⟨ay,(O.block _ (Array.getElem?_eq_some_iff.1 E).1 (by have A:=Z Q e;simp at A;omega)).trans E⟩⟩),S,(((k:Nat):Int)+((j:Nat):Int)),z.hT (hn.trans' ak O) (Y.set 2 _) (by constructor<;>(try simp only)<;>omega),hn.trans' U (hn.trans' ak O)⟩
 ·exact l8 (by simpa using aj.2) O (fun Q e=>by have:=Z Q e;simp at this;omega)
 exact z.row.2.1 x (by first|cases G|exact List.mem_of_mem_drop (List.mem_of_mem_take G))
theorem x3(W:World)(r o n:Nat)(z:Array Value)(A:z=((List.range n).map (fun j=>Value.pointer (some ⟨r,o+j,none⟩))).toArray)(t:TypeId)(L g:Nat)(D:g=W.heap.size)(E:g<L):
 Rd (W.alloc (.cells z t)) L (some ⟨g,0,none⟩) n (fun j=> .pointer (some ⟨r,o+j,none⟩)):=by
 subst A D;refine fun j F=>⟨_,rfl,E,?_⟩;rw[k1,World.cell?_alloc_at _ _ _ _ rfl];simp[F]
theorem j7.other{w':World}{b:Sl}{bs:List Nat}{e:Int}(h:j7 w L g b bs e E)(r:q≠g)(z:L≤q)(A:q<w.heap.size)(o:hn q w w'):j7 w' L g b bs e E:=
 ⟨h.h2.hT o r.symm,xX h.row o z A,h.low,h.len,h.pos,h.ok⟩
theorem j7.to{w':World}{b:Sl}{bs:List Nat}{e:Int}(h:j7 w L g b bs e E)(o:Below w.heap.size w w'):j7 w' L g b bs e E:=
 ⟨h.h2.to o,h.row.below (o.mono (Nat.le_trans h.low (Nat.le_of_lt h.h2.lt))),h.low,h.len,h.pos,h.ok⟩
def hx.zero:hx:=⟨0,0,0,0,0,0,0,0,0,0,0,0,0,0,0,0,0,0,0,0,0,0,0,0⟩
theorem Dx(p:hx)(x:Nat):∀i,i<14→∃q:hx,p.cs.setIfInBounds i (int u64 x)=q.cs
 |0,_=>⟨{p with inc:=x},rfl⟩
 |1,_=>⟨{p with ix:=x},rfl⟩
 |2,_=>⟨{p with floor:=x},rfl⟩
 |3,_=>⟨{p with cap:=x},rfl⟩
 |4,_=>⟨{p with up:=x},rfl⟩
 |5,_=>⟨{p with down:=x},rfl⟩
 |6,_=>⟨{p with ih:=x},rfl⟩
 |7,_=>⟨{p with quot:=x},rfl⟩
 |8,_=>⟨{p with iR:=x},rfl⟩
 |9,_=>⟨{p with iS:=x},rfl⟩
 |10,_=>⟨{p with recover:=x},rfl⟩
 |11,_=>⟨{p with ig:=x},rfl⟩
 |12,_=>⟨{p with iT:=x},rfl⟩
 |13,_=>⟨{p with iU:=x},rfl⟩
 |n+14,h=>absurd h (by omega)
theorem Dy(p:hx)(x:Int):∀i,i<10→∃q:hx,p.cs.setIfInBounds (14+i) (int i64 x)=q.cs
 |0,_=>⟨{p with iV:=x},rfl⟩
 |1,_=>⟨{p with ic:=x},rfl⟩
 |2,_=>⟨{p with iE:=x},rfl⟩
 |3,_=>⟨{p with iN:=x},rfl⟩
 |4,_=>⟨{p with iI:=x},rfl⟩
 |5,_=>⟨{p with iy:=x},rfl⟩
 |6,_=>⟨{p with wait:=x},rfl⟩
 |7,_=>⟨{p with iW:=x},rfl⟩
 |8,_=>⟨{p with iK:=x},rfl⟩
 |9,_=>⟨{p with iO:=x},rfl⟩
 |n+10,h=>absurd h (by omega)
theorem Dz(A:Option Addr)(n c:Nat)(w:World):Calls prog 276 #[.slice A n c] w fun e w'=>e= .returned (.slice A n c)∧w=w':=by
 go_enter func276,ntmps276;go_wp2;go_ret;exact⟨rfl,rfl⟩
theorem DA(z:Nat)(w:World):Calls prog 273 #[.pointer (some ⟨z,0,none⟩)] w fun r w'=>r= .returned (.slice (some ⟨w.heap.size,0,none⟩) 14 14)∧Rd w' w'.heap.size (some ⟨w.heap.size,0,none⟩) 14 (fun j=> .pointer (some ⟨z,0+j,none⟩))∧Below w.heap.size w w':=by
 go_enter func273,ntmps273;go_upto_region 1 with(fail)
 refine j8 (fun w'=>Below w.heap.size w w') (by kernel_rfl) (by rintro _ _ (_|_) _ _ h<;>exact h) (hz.drew) fun F o=>?_;refine lQ (by rintro _ _ (_|_) _ _ h<;>exact h) 42 (i' 0 42 []) o (by kernel_rfl) ?_;iterate 42(refine iu rfl rfl (fun w' D=>by try simp only[S3];go_simp;try rfl) ?_;try simp only[S4,S3])
 refine il ?_;refine iD 42 rfl (by kernel_rfl) fun K A=>?_;try simp only[S3]
 go_simp;refine A.out _ _ (hD o _) (fun o=>?_);try simp only[S4,S3]
 refine iD 43 rfl (by kernel_rfl) fun K A=>?_;try simp only[S3]
 go_simp;refine hE (Dz _ _ _ _) ?_;refine A.out _ _ o (fun o=>?_);try simp only[S4,S3]
 refine wpAnyH_take (i:=44) (v:= ?G) rfl (by kernel_rfl) (by kernel_rfl) (by kernel_rfl) (fun _ _ _ h=>h) (Or.inl ⟨by rfl,?E⟩) o ?I
 case E=>
  intro w' D;try simp only[S3]
  go_simp;try rfl
 try simp only[S4,S3]
 refine wpAnyH_done (by kernel_rfl) ?_ _;go_wp2;go_ret;exact⟨rfl,x3 w.drew z 0 14 _ rfl _ _ _ rfl (by simp),hD hM _⟩
theorem DB(A:Option Addr)(n c:Nat)(w:World):Calls prog 277 #[.slice A n c] w fun e w'=>e= .returned (.slice A n c)∧w=w':=by
 go_enter func277,ntmps277;go_wp2;go_ret;exact⟨rfl,rfl⟩
theorem DC(z:Nat)(w:World):Calls prog 274 #[.pointer (some ⟨z,0,none⟩)] w fun r w'=>r= .returned (.slice (some ⟨w.heap.size,0,none⟩) 10 10)∧Rd w' w'.heap.size (some ⟨w.heap.size,0,none⟩) 10 (fun j=> .pointer (some ⟨z,14+j,none⟩))∧Below w.heap.size w w':=by
 go_enter func274,ntmps274;go_upto_region 1 with(fail)
 refine j8 (fun w'=>Below w.heap.size w w') (by kernel_rfl) (by rintro _ _ (_|_) _ _ h<;>exact h) (hz.drew) fun F o=>?_;refine lQ (by rintro _ _ (_|_) _ _ h<;>exact h) 30 (i' 0 30 []) o (by kernel_rfl) ?_;iterate 30(refine iu rfl rfl (fun w' D=>by try simp only[S3];go_simp;try rfl) ?_;try simp only[S4,S3])
 refine il ?_;refine iD 30 rfl (by kernel_rfl) fun K A=>?_;try simp only[S3]
 go_simp;refine A.out _ _ (hD o _) (fun o=>?_);try simp only[S4,S3]
 refine iD 31 rfl (by kernel_rfl) fun K A=>?_;try simp only[S3]
 go_simp;refine hE (DB _ _ _ _) ?_;refine A.out _ _ o (fun o=>?_);try simp only[S4,S3]
 refine wpAnyH_take (i:=32) (v:= ?G) rfl (by kernel_rfl) (by kernel_rfl) (by kernel_rfl) (fun _ _ _ h=>h) (Or.inl ⟨by rfl,?E⟩) o ?I
 case E=>
  intro w' D;try simp only[S3]
  go_simp;try rfl
 try simp only[S4,S3]
 refine wpAnyH_done (by kernel_rfl) ?_ _;go_wp2;go_ret;exact⟨rfl,x3 w.drew z 14 10 _ rfl _ _ _ rfl (by simp),hD hM _⟩
theorem DE(L g:Nat)(b:Sl)(bs:List Nat)(e aL:Int)(w:World)(h:j7 w L g b bs e aL):
 Calls prog 266 #[.pointer (some ⟨g,0,none⟩)] w fun r w'=>∃(p:hx) (z:Int),r= .returned (.tuple #[.agg p.cs,int i64 z])∧Left w w' L g b bs:=by
 have ba:=h.h2.lt;have bb:=h.low;obtain⟨q,aw⟩:=hk w.heap.size;obtain⟨ax,aM,ay,aN⟩:=iF w sd 24;obtain⟨Z,aQ⟩:=hg aN aM;clear aM aN;have aR:=g' (h.to ay);rw[←aw]at Z;have bc:=Z.lt;have bd:q≠g:=by omega
 have be:g<q:=by omega
 have bf:L≤q:=by omega
 have bg:w.heap.size≤q:=by omega
 have Z:Hid (ha ax q 24 hx.zero.cs):=Z;obtain⟨aS,aT,aU,aV,aW⟩:=jg (hn.jJ (g:=g) ay) (fun W aa ab h=>oF L g b bs aa ab 2147483647 (by omega) W h) (fun W aa ab h=>oE L g b bs aa ab 18446744073709551615 W h) (fun aa ab W h=>oD b aa ab g W h) aw;clear h ay aw;go_enter func266,ntmps266;go_upto_region 1 with(fail)
 rw[aQ.out];rw[←aW.out];go_wp2_with fail;refine(DA q ax).mono ?_;rintro r bh ⟨rfl,U,K⟩;obtain⟨ap,aq⟩:=hk ax.heap.size;rw[←aq]at U;try rw[←aq]
 obtain⟨aX,bi⟩:=hg U aq;have bj:ap≠q:=by omega
 have bk:ap≠g:=by omega
 clear aq;obtain⟨aY,aZ,a0⟩:=hs (aR.to K) (Z.to K) (hn.trans' aS (hn.jJ (g:=g) K));clear U K;go_wp2;go_loopw [12] (fun V wr=>∃(k:Nat) (p:hx) (D O:Int),V=int i64 k∧k≤14∧j7 wr L g b bs D O∧ha wr q 24 p.cs∧Rd wr wr.heap.size (some ⟨ap,0,none⟩) 14 (fun j=> .pointer (some ⟨q,0+j,none⟩))∧hn g w wr) (fun V _=>14-(intOf V).toNat)
 case atStart=>exact⟨0,hx.zero,e,aL,rfl,by omega,aY,aZ,aX,a0⟩
 case round=>
  obtain⟨k,p,D,O,rfl,G,I,J,Q,R⟩:=hrel;by_cases S:k<14
  ·have az:decide (k<14)=true:=by simpa using S
   have aA:decide ((k:Int)<14)=true:=by simp;omega
   obtain⟨ac,aB,_,X⟩:=Q k S;cases aB;have a1:wr.cell? ⟨ap,k,none⟩=some (.pointer (some ⟨q,k,none⟩)):=by rw[k1]at X;simpa using X
   clear X;go_wp2_with fail;refine(aU wr D O I).mono ?_;rintro r ad ⟨x,a2,rfl,aC,aD,ae,A⟩;have F:=J.hT A (by omega);obtain⟨u,af⟩:∃u,p.cs[k]?=some u:=⟨_,Array.getElem?_eq_getElem (by show k<24;omega)⟩;have a3:=F.cell af;have a4:=F.frozen k;obtain⟨ag,ah⟩:=Dx p x k S;have aE:=g' (show ha (ad.setCell ⟨q,k,none⟩ (int u64 x)) q 24 ag.cs from ah▸F.set k (int u64 x));have o:=(hn.refl q ad).setCell (p:=⟨q,k,none⟩) (.inl rfl) (int u64 x);obtain⟨aF,aG,aH⟩:=hs (ae.other (q:=q) (by omega) (by omega) F.lt o) (l8 (l8 Q A (fun ac e=>by cases e;simp only;omega)) o (fun ac e=>by cases e;simp only;omega)) ((hn.trans' R A).setCell (p:=⟨q,k,none⟩) (.inr (by simp only;omega)) (int u64 x));clear ae A I J F Q R af ah o;go_wp2;exact⟨⟨k+1,ag,aC,aD,by go_num,by omega,aF,aE,aG,aH⟩,by simp[intOf];omega⟩
  have az:decide (k<14)=false:=by simpa using S
  have aA:decide ((k:Int)<14)=false:=by simp;omega
  have bl:=J.lt;go_wp2_with fail;refine(DC q wr).mono ?_;rintro r bm ⟨rfl,U,K⟩;obtain⟨ar,au⟩:=hk wr.heap.size;rw[←au]at U;try rw[←au]
  obtain⟨a5,bn⟩:=hg U au;have bo:ar≠g:=by have:=I.h2.lt;omega
  have bp:ar≠q:=by omega
  clear au;obtain⟨a6,a7,a8⟩:=hs (I.to K) (J.to K) (hn.trans' R (hn.jJ (g:=g) K));clear U K I J Q R;go_wp2;go_loopw [23] (fun V ai=>∃(k:Nat) (p:hx) (D O:Int),V=int i64 k∧k≤10∧j7 ai L g b bs D O∧ha ai q 24 p.cs∧Rd ai ai.heap.size (some ⟨ar,0,none⟩) 10 (fun j=> .pointer (some ⟨q,14+j,none⟩))∧hn g w ai) (fun V _=>10-(intOf V).toNat)
  case atStart=>exact⟨0,p,D,O,rfl,by omega,a6,a7,a5,a8⟩
  case round=>
   obtain⟨j,p,D,O,rfl,G,I,J,Q,R⟩:=hrel;by_cases S:j<10
   ·have az:decide (j<10)=true:=by simpa using S
    have aA:decide ((j:Int)<10)=true:=by simp;omega
    obtain⟨ac,aB,_,X⟩:=Q j S;cases aB;have a1:wr.cell? ⟨ar,j,none⟩=some (.pointer (some ⟨q,14+j,none⟩)):=by rw[k1]at X;exact X
    clear X;go_wp2_with fail;refine(aT wr D O I).mono ?_;rintro r ad ⟨x,a2,rfl,aC,aD,ae,A⟩;have F:=J.hT A (by omega);obtain⟨u,af⟩:∃u,p.cs[14+j]?=some u:=⟨_,Array.getElem?_eq_getElem (by show 14+j<24;omega)⟩;have a3:=F.cell af;have a4:=F.frozen (14+j);obtain⟨ag,ah⟩:=Dy p x j S;have aE:=g' (show ha (ad.setCell ⟨q,14+j,none⟩ (int i64 x)) q 24 ag.cs from ah▸F.set (14+j) (int i64 x));have o:=(hn.refl q ad).setCell (p:=⟨q,14+j,none⟩) (.inl rfl) (int i64 x);obtain⟨aF,aG,aH⟩:=hs (ae.other (q:=q) (by omega) (by omega) F.lt o) (l8 (l8 Q A (fun ac e=>by cases e;simp only;omega)) o (fun ac e=>by cases e;simp only;omega)) ((hn.trans' R A).setCell (p:=⟨q,14+j,none⟩) (.inr (by simp only;omega)) (int i64 x));clear ae A I J F Q R af ah o;go_wp2;exact⟨⟨j+1,ag,aC,aD,by go_num,by omega,aF,aE,aG,aH⟩,by simp[intOf];omega⟩
   have az:decide (j<10)=false:=by simpa using S
   have aA:decide ((j:Int)<10)=false:=by simp;omega
   obtain⟨av,aI,Y⟩:=hs J I R;clear I J Q R;go_wp2_with fail;refine(aV D O wr aI.h2).mono ?_;rintro r w' ⟨rfl,rfl⟩;by_cases aJ:D=0
   ·subst aJ
    go_wp2_with (refine hR av hQ (jb _) rfl rfl rfl rfl ?_);obtain⟨z,aO⟩:∃z:Int,z=(if iG p=true then 0 else 70):=⟨_,rfl⟩;refine(k4 p wr z aO).mono ?_;rintro r bq ⟨rfl,A⟩;obtain⟨aj,aP,E⟩:=hs (av.to A) (aI.to A) (hn.trans' Y (hn.jJ (g:=g) A));clear A aO;by_cases aK:z=0
    ·subst aK
     go_wp2_with (first|(refine hR aj hQ (jb _) rfl rfl rfl rfl ?_)|(refine iL rfl 24 (.tmp 2) (.tmp 44) rfl q p.cs rfl rfl 24 p.cs aj (jb _) rfl (mq _) ?_;intro ak T o;have al:=g' T;have am:=g' (aP.other (q:=q) (by omega) (by omega) aj.lt o);have an:=g' (show hn g w ak from⟨o.os.trans E.os,o.tape.trans E.tape,o.output.trans E.output,Nat.le_trans E.size o.size,fun k G ao=>(o.block k (Nat.lt_of_lt_of_le G E.size) (by omega)).trans (E.block k G ao)⟩);clear T o));exact bodyPost_ret (v:= .tuple #[.agg p.cs,int i64 0]) (jy results266 _ _ _ _ _ _ _ rfl rfl al hQ rfl (jb _)) rfl ⟨p,0,rfl,_,_,am,an⟩
    have a9:=iM aK;have a':=pM aK;go_wp2_with (first|(refine wpList_build rfl 24 #[] rfl (.agg hx.zero.cs) (fun w'=>by kernel_rfl) ?_)|(refine iL rfl 24 (.tmp 2) (.tmp 42) rfl q hx.zero.cs rfl rfl 24 p.cs aj (jb _) rfl (mq _) ?_;intro ak T o;have al:=g' T;have am:=g' (aP.other (q:=q) (by omega) (by omega) aj.lt o);have an:=g' (show hn g w ak from⟨o.os.trans E.os,o.tape.trans E.tape,o.output.trans E.output,Nat.le_trans E.size o.size,fun k G ao=>(o.block k (Nat.lt_of_lt_of_le G E.size) (by omega)).trans (E.block k G ao)⟩);clear T o));exact bodyPost_ret (v:= .tuple #[.agg hx.zero.cs,int i64 z]) (jy results266 _ _ _ _ _ _ _ rfl rfl al hQ rfl (jb _)) rfl ⟨hx.zero,z,rfl,_,_,am,an⟩
   have a9:=iM aJ;have a':=pM aJ;go_wp2_with (first|(refine wpList_build rfl 24 #[] rfl (.agg hx.zero.cs) (fun w'=>by kernel_rfl) ?_)|(refine iL rfl 24 (.tmp 2) (.tmp 36) rfl q hx.zero.cs rfl rfl 24 p.cs av (jb _) rfl (mq _) ?_;intro ak T o;have al:=g' T;have am:=g' (aI.other (q:=q) (by omega) (by omega) av.lt o);have an:=g' (show hn g w ak from⟨o.os.trans Y.os,o.tape.trans Y.tape,o.output.trans Y.output,Nat.le_trans Y.size o.size,fun k G ao=>(o.block k (Nat.lt_of_lt_of_le G Y.size) (by omega)).trans (Y.block k G ao)⟩);clear T o));exact bodyPost_ret (v:= .tuple #[.agg hx.zero.cs,int i64 D]) (jy results266 _ _ _ _ _ _ _ rfl rfl al hQ rfl (jb _)) rfl ⟨hx.zero,D,rfl,_,_,am,an⟩
open hC
theorem pj(n a c:Int)(b:Bool)(r:b=decide (a≤n∧n≤c))(w:World):Calls prog 48 #[int i64 n,int i64 a,int i64 c] w fun e w'=>e= .returned (.bool b)∧w=w':=by
 by_cases o:a≤n
 ·have z:=hZ o
  have A:decide (n≤c)=b:=by rw[r];simp[o]
  clear r o;go_enter func48,ntmps48;go_wp2;go_ret;exact⟨rfl,rfl⟩
 have z:=h1 o;obtain rfl:b=false:=by rw[r];simp[o]
 clear r o;go_enter func48,ntmps48;go_wp2;go_ret;exact⟨rfl,rfl⟩
theorem oG(n a c:Int)(b:Bool)(r:b=decide (a≤n∧n≤c))(w:World):Calls prog 221 #[int i64 n,int i64 a,int i64 c] w fun e w'=>e= .returned (.bool b)∧w=w':=by
 by_cases o:a≤n
 ·have z:=hZ o
  have A:decide (n≤c)=b:=by rw[r];simp[o]
  clear r o;go_enter func221,ntmps221;go_wp2;go_ret;exact⟨rfl,rfl⟩
 have z:=h1 o;obtain rfl:b=false:=by rw[r];simp[o]
 clear r o;go_enter func221,ntmps221;go_wp2;go_ret;exact⟨rfl,rfl⟩
theorem nY(n a c:Int)(b:Bool)(r:b=decide (a≤n∧n≤c))(w:World):Calls prog 205 #[int i64 n,int i64 a,int i64 c] w fun e w'=>e= .returned (.bool b)∧w=w':=by
 by_cases o:a≤n
 ·have z:=hZ o
  have A:decide (n≤c)=b:=by rw[r];simp[o]
  clear r o;go_enter func205,ntmps205;go_wp2;go_ret;exact⟨rfl,rfl⟩
 have z:=h1 o;obtain rfl:b=false:=by rw[r];simp[o]
 clear r o;go_enter func205,ntmps205;go_wp2;go_ret;exact⟨rfl,rfl⟩
open Classical in
noncomputable def pq(bs:List Nat):Bool:=decide (jQ.jd bs 128)
theorem sW(bs:List Nat):pq bs=true↔jQ.jd bs 128:=by unfold pq;simp
theorem x4(A:Option Addr)(n c L:Nat)(bs:List Nat)(w:World)(h:hq.ie w L A n bs)(r:n≤1000000)(b:Bool)(z:b=pq bs):
 Calls prog 222 #[.slice A n c,int i64 128] w fun e w'=>e= .returned (int i64 (if b=true then 0 else 60))∧w=w':=by
 by_cases o:jQ.jd bs 128
 ·obtain rfl:b=true:=by rw[z];exact(sW bs).2 o
  exact hq.uh A n c 128 L bs w h o r
 obtain rfl:b=false:=by rw[z];cases h:pq bs;rfl;exact absurd ((sW bs).1 h) o
 exact hq.ui A n c L 128 bs w h o r
def sX:hx:=⟨0,0,0,0,0,0,0,0,0,0,0,0,0,0,0,0,0,0,0,0,0,0,0,0⟩
instance:DecidableEq hx:=fun a b=>by
 obtain⟨o,r,z,A,D,E,F,G,I,J,K,O,Q,R,S,T,U,V,W,X,Y,Z,aa,ab⟩:=a;obtain⟨ac,ad,ae,af,ag,ah,ai,aj,ak,al,am,an,ao,ap,aq,ar,au,av,aw,ax,ay,az,aA,aB⟩:=b;rw[hx.mk.injEq];exact inferInstance
noncomputable def nZ(m:hp):Bool:=
 decide (0≤m.ac∧m.ac≤63)&&(decide (0≤m.ta∧m.ta≤63)&&(decide (1≤m.wh∧m.wh≤4)&&(decide (1≤m.st∧m.st≤4)&&(decide (0≤m.en∧m.en≤2147483647)&&(decide (0≤m.du∧m.du≤2147483647)&&(decide (m.am≤4611686018427387904)&&(pq m.ys&&(pq m.ns&&(if m.wh=1 then iG m.p else decide (m.p=sX))))))))))
theorem nD(m:hp):(prog.info? 59).map (·.size)=some m.cs.size:=by kernel_rfl
theorem qK(m:hp):m.cs.all (·.oneCell')=true:=by kernel_rfl
theorem DF(m:hp)(w:World)(h:m.At w w.heap.size)(ah:m.yh.n≤1000000)(ai:m.nh.n≤1000000)(b:Bool)(o:b=nZ m):
 Calls prog 164 #[.agg m.cs] w fun e w'=>e= .returned (.bool b)∧Below w.heap.size w w':=by
 unfold nZ at o;obtain⟨aj,T⟩:=hk (decide (0≤m.ac∧m.ac≤63));have D:=g' (fun W=>oG m.ac 0 63 aj T W);obtain⟨ak,U⟩:=hk (decide (0≤m.ta∧m.ta≤63));have I:=g' (fun W=>oG m.ta 0 63 ak U W);obtain⟨al,V⟩:=hk (decide (1≤m.wh∧m.wh≤4));have K:=g' (fun W=>oG m.wh 1 4 al V W);obtain⟨an,X⟩:=hk (decide (1≤m.st∧m.st≤4));have O:=g' (fun W=>oG m.st 1 4 an X W);obtain⟨ao,Y⟩:=hk (decide (0≤m.en∧m.en≤2147483647));have Q:=g' (fun W=>oG m.en 0 2147483647 ao Y W);obtain⟨ap,Z⟩:=hk (decide (0≤m.du∧m.du≤2147483647));have S:=g' (fun W=>oG m.du 0 2147483647 ap Z W);obtain⟨aq,aa⟩:=hk (decide (m.am≤4611686018427387904));have aE:decide ((4611686018427387904:Int)<(m.am:Int))= !aq:=by rw[aa];by_cases k:m.am≤4611686018427387904<;>simp[k]<;>omega
 obtain⟨ar,ab⟩:=hk (pq m.ys);obtain⟨au,ad⟩:=hk (pq m.ns);obtain⟨ae,av⟩:=hg (fun(W:World) (o:Below w.heap.size w W)=>x4 m.yh.A m.yh.n m.yh.c w.heap.size m.ys W (h.ys.below o) ah ar ab) (fun(W:World) (o:Below w.heap.size w W)=>x4 m.nh.A m.nh.n m.nh.c w.heap.size m.ns W (h.ns.below o) ai au ad);obtain⟨aw,af⟩:=hk (iG m.p);have aA:=g' (fun W=>k4 m.p W (if aw=true then 0 else 70) (by rw[af];rfl));obtain⟨aB,ag⟩:=hk (decide (m.p=sX));have E:=g' (fun W=>qD m.p sX aB (by rw[ag];simp) W);have G:=BU;rw[←T,←U,←V,←X,←Y,←Z,←aa,←ab,←ad,←af,←ag]at o;clear T U V X Y Z aa ab ad af ag;obtain⟨aF,ax,r,ay⟩:=iF w m.cs 59;obtain⟨z,F⟩:=hg ay ax;clear ax ay h ah ai;cases aj
 ·go_enter func164,ntmps164
  go_upto_region 1 with(fail)
  rw[F.out];have J:=z.all;go_wp2_with fail;refine hE (D _) ?_;go_wp2;go_ret;exact⟨by rw[o];rfl,r⟩
 cases ak
 ·go_enter func164,ntmps164
  go_upto_region 1 with(fail)
  rw[F.out];have J:=z.all;go_wp2_with fail;refine hE (D _) ?_;go_wp2_with fail;refine hE (I _) ?_;go_wp2;go_ret;exact⟨by rw[o];rfl,r⟩
 cases al
 ·go_enter func164,ntmps164
  go_upto_region 1 with(fail)
  rw[F.out];have J:=z.all;go_wp2_with fail;refine hE (D _) ?_;go_wp2_with fail;refine hE (I _) ?_;go_wp2_with fail;refine hE (K _) ?_;go_wp2;go_ret;exact⟨by rw[o];rfl,r⟩
 cases an
 ·go_enter func164,ntmps164
  go_upto_region 1 with(fail)
  rw[F.out];have J:=z.all;go_wp2_with fail;refine hE (D _) ?_;go_wp2_with fail;refine hE (I _) ?_;go_wp2_with fail;refine hE (K _) ?_;go_wp2_with fail;refine hE (O _) ?_;go_wp2;go_ret;exact⟨by rw[o];rfl,r⟩
 cases ao
 ·go_enter func164,ntmps164
  go_upto_region 1 with(fail)
  rw[F.out];have J:=z.all;go_wp2_with fail;refine hE (D _) ?_;go_wp2_with fail;refine hE (I _) ?_;go_wp2_with fail;refine hE (K _) ?_;go_wp2_with fail;refine hE (O _) ?_;go_wp2_with fail;refine hE (Q _) ?_;go_wp2;go_ret;exact⟨by rw[o];rfl,r⟩
 cases ap
 ·go_enter func164,ntmps164
  go_upto_region 1 with(fail)
  rw[F.out];have J:=z.all;go_wp2_with fail;refine hE (D _) ?_;go_wp2_with fail;refine hE (I _) ?_;go_wp2_with fail;refine hE (K _) ?_;go_wp2_with fail;refine hE (O _) ?_;go_wp2_with fail;refine hE (Q _) ?_;go_wp2_with fail;refine hE (S _) ?_;go_wp2;go_ret;exact⟨by rw[o];rfl,r⟩
 cases aq
 ·go_enter func164,ntmps164
  go_upto_region 1 with(fail)
  rw[F.out];have J:=z.all;go_wp2_with fail;refine hE (D _) ?_;go_wp2_with fail;refine hE (I _) ?_;go_wp2_with fail;refine hE (K _) ?_;go_wp2_with fail;refine hE (O _) ?_;go_wp2_with fail;refine hE (Q _) ?_;go_wp2_with fail;refine hE (S _) ?_;go_wp2;go_ret;exact⟨by rw[o];rfl,r⟩
 cases ar
 ·go_enter func164,ntmps164
  go_upto_region 1 with(fail)
  rw[F.out];have J:=z.all;go_wp2_with fail;refine hE (D _) ?_;go_wp2_with fail;refine hE (I _) ?_;go_wp2_with fail;refine hE (K _) ?_;go_wp2_with fail;refine hE (O _) ?_;go_wp2_with fail;refine hE (Q _) ?_;go_wp2_with fail;refine hE (S _) ?_;go_wp2_with fail;refine hE (ae _ r) ?_;go_wp2;go_ret;exact⟨by rw[o];rfl,r⟩
 cases au;rotate_left;focus
  by_cases R:m.wh=1
  ·have aC:=jU R
   rw[if_pos R]at o;clear R;cases aw;rotate_left;all_goals
    subst o;go_enter func164,ntmps164;go_upto_region 1 with(fail)
    rw[F.out];have J:=z.all;go_wp2_with fail;refine hE (D _) ?_;go_wp2_with fail;refine hE (I _) ?_;go_wp2_with fail;refine hE (K _) ?_;go_wp2_with fail;refine hE (O _) ?_;go_wp2_with fail;refine hE (Q _) ?_;go_wp2_with fail;refine hE (S _) ?_;go_wp2_with fail;refine hE (ae _ r) ?_;go_wp2_with fail;refine hE (av _ r) ?_;go_wp2_with (first|(refine mb 2 ((m.p.cs).toList) z rfl hQ rfl rfl rfl rfl rfl ?_));refine hI (aA _) fun aG az=>?_;have aD:=hJ r az;clear az;go_wp2;go_ret;exact⟨rfl,aD⟩
  have aC:=iM R;rw[if_neg R]at o;clear R;have aH:=E.out;subst o
 rotate_left;all_goals
  go_enter func164,ntmps164;go_upto_region 1 with(fail)
  rw[F.out];have J:=z.all;go_wp2_with fail;refine hE (D _) ?_;go_wp2_with fail;refine hE (I _) ?_;go_wp2_with fail;refine hE (K _) ?_;go_wp2_with fail;refine hE (O _) ?_;go_wp2_with fail;refine hE (Q _) ?_;go_wp2_with fail;refine hE (S _) ?_;go_wp2_with fail;refine hE (ae _ r) ?_;go_wp2_with fail;refine hE (av _ r) ?_
 ·go_wp2
  go_ret;exact⟨by rw[o];rfl,r⟩
 go_wp2_with (first|(refine mb 2 ((m.p.cs).toList) z rfl hQ rfl rfl rfl rfl rfl ?_)|(refine wpList_build rfl 24 #[] rfl (.agg sX.cs) (fun w'=>by kernel_rfl) ?_));go_ret;exact⟨rfl,r⟩
structure DD where
 k:Int
 ac:Int
 me:Int
 h8:Int
 am:Nat
 ep:Int
 bi:Sl
 wh:Int
 p:hx
 mo:Int
 ye:Bool
def ks(d d':DD):Prop:=d'.k=d.k∧(d.k=6→d'.me=d.me∧d'.ep=d.ep∧d'.bi=d.bi∧d'.mo=d.mo∧d'.ye=d.ye∧(d'.wh≠2→d'.h8=d.h8)∧(d'.wh≠1→d'.p=d.p))
theorem ks.else{d d':DD}(h:d'.k=d.k)(o:d.k≠6):ks d d':=⟨h,fun e=>absurd e o⟩
def DD.cs(d:DD):Array Value:= #[int i64 d.k,int i64 d.ac,int i64 d.me,int i64 d.h8,int u64 d.am,int i64 d.ep,d.bi.v,int i64 d.wh,int u64 d.p.inc,int u64 d.p.ix,int u64 d.p.floor,int u64 d.p.cap,int u64 d.p.up,int u64 d.p.down,int u64 d.p.ih,int u64 d.p.quot,int u64 d.p.iR,int u64 d.p.iS,int u64 d.p.recover,int u64 d.p.ig,int u64 d.p.iT,int u64 d.p.iU,int i64 d.p.iV,int i64 d.p.ic,int i64 d.p.iE,int i64 d.p.iN,int i64 d.p.iI,int i64 d.p.iy,int i64 d.p.wait,int i64 d.p.iW,int i64 d.p.iK,int i64 d.p.iO,int i64 d.mo,.bool d.ye]
instance{d:DD}:hf.jP d.cs fun o r=>(∀j,o.frozen? ⟨r,j,none⟩=false)∧hf.hh o r 0 (int i64 d.k)∧hf.hh o r 1 (int i64 d.ac)∧hf.hh o r 2 (int i64 d.me)∧hf.hh o r 3 (int i64 d.h8)∧hf.hh o r 4 (int u64 d.am)∧hf.hh o r 5 (int i64 d.ep)∧hf.hh o r 6 (.slice d.bi.A d.bi.n d.bi.c)∧hf.hh o r 7 (int i64 d.wh)∧hf.hh o r 8 (int u64 d.p.inc)∧hf.hh o r 9 (int u64 d.p.ix)∧hf.hh o r 10 (int u64 d.p.floor)∧hf.hh o r 11 (int u64 d.p.cap)∧hf.hh o r 12 (int u64 d.p.up)∧hf.hh o r 13 (int u64 d.p.down)∧hf.hh o r 14 (int u64 d.p.ih)∧hf.hh o r 15 (int u64 d.p.quot)∧hf.hh o r 16 (int u64 d.p.iR)∧hf.hh o r 17 (int u64 d.p.iS)∧hf.hh o r 18 (int u64 d.p.recover)∧hf.hh o r 19 (int u64 d.p.ig)∧hf.hh o r 20 (int u64 d.p.iT)∧hf.hh o r 21 (int u64 d.p.iU)∧hf.hh o r 22 (int i64 d.p.iV)∧hf.hh o r 23 (int i64 d.p.ic)∧hf.hh o r 24 (int i64 d.p.iE)∧hf.hh o r 25 (int i64 d.p.iN)∧hf.hh o r 26 (int i64 d.p.iI)∧hf.hh o r 27 (int i64 d.p.iy)∧hf.hh o r 28 (int i64 d.p.wait)∧hf.hh o r 29 (int i64 d.p.iW)∧hf.hh o r 30 (int i64 d.p.iK)∧hf.hh o r 31 (int i64 d.p.iO)∧hf.hh o r 32 (int i64 d.mo)∧hf.hh o r 33 (.bool d.ye):=⟨fun h=>⟨h.frozen,hf.jX h⟩⟩
theorem jo(d:DD):(prog.info? 70).map (·.size)=some d.cs.size:=by kernel_rfl
theorem k7(d:DD):d.cs.all (·.oneCell')=true:=by kernel_rfl
theorem DD.x5(d:DD)(p:hx):hf.splice d.cs 8 p.cs.toList=({d with p:=p}:DD).cs:=by kernel_rfl
def DD.zero:DD:=⟨0,0,0,0,0,0,Sl.nil,0,hx.zero,0,false⟩
structure DD.Good (d:DD) (w:World):Prop where
 ac:0≤d.ac∧d.ac≤63
 me:0≤d.me∧d.me≤127
 h8:0≤d.h8∧d.h8≤63
 am:d.am≤4611686018427387904
 ep:0≤d.ep∧d.ep≤1073741824
 mo:0≤d.mo∧d.mo≤31
 bo:d.bi.Ok
 bn:d.bi.n≤1000000
 bits:∃ys,hq.ie w w.heap.size d.bi.A d.bi.n ys
 ty:∀ad,d.bi.A=some ad→∃cur,w.heap[ad.block]?=some (.cells cur 5 (0,0))
def mS(g:Nat)(e:Int):Array Value:= #[.pointer (some ⟨g,0,none⟩),int i64 e]
instance{g:Nat}{e:Int}:hf.jP (mS g e) fun o r=>(∀j,o.frozen? ⟨r,j,none⟩=false)∧hf.hh o r 0 (.pointer (some ⟨g,0,none⟩))∧hf.hh o r 1 (int i64 e):=⟨fun h=>⟨h.frozen,hf.jX h⟩⟩
structure Fr (g h q:Nat) (w w':World):Prop where
 os:w'.os=w.os
 tape:w'.tape=w.tape
 output:w'.output=w.output
 size:w.heap.size≤w'.heap.size
 block:∀k,k<w.heap.size→k≠g→k≠h→k≠q→w'.heap[k]?=w.heap[k]?
theorem Fr.refl(g h q:Nat)(w:World):Fr g h q w w:=⟨rfl,rfl,rfl,hj,fun _ _ _ _ _=>rfl⟩
theorem Fr.trans{a b c:World}(x:Fr g h q a b)(y:Fr g h q b c):Fr g h q a c:=
 ⟨y.os.trans x.os,y.tape.trans x.tape,y.output.trans x.output,Nat.le_trans x.size y.size,fun k o r z A=>(y.block k (Nat.lt_of_lt_of_le o x.size) r z A).trans (x.block k o r z A)⟩
theorem Fr.of{w':World}(x:hn i w w')(r:i=g∨i=h∨i=q∨w.heap.size≤i):Fr g h q w w':=
 ⟨x.os,x.tape,x.output,x.size,fun k o z A D=>x.block k o (by omega)⟩
theorem Fr.hT{w':World}(x:hn g W w)(y:Fr g h q w w')(z:W.heap.size≤h)(A:W.heap.size≤q):hn g W w':=
 ⟨y.os.trans x.os,y.tape.trans x.tape,y.output.trans x.output,Nat.le_trans x.size y.size,fun k o r=>(y.block k (Nat.lt_of_lt_of_le o x.size) r (by omega) (by omega)).trans (x.block k o r)⟩
theorem ha.fr{w':World}(x:ha w k t Q)(y:Fr g h q w w')(o:k≠g)(r:k≠h)(z:k≠q):ha w' k t Q:=(y.block k x.lt o r z).trans x
structure jA (w:World) (B L g h q:Nat) (b:Sl) (bs:List Nat) (e at_ e':Int) (d:DD):Prop where
 rd:j7 w L g b bs e at_
 hb:ha w h 269 (mS g e')
 qb:ha w q 70 d.cs
 gd:d.Good w
 na:∀ad,d.bi.A=some ad→B≤ad.block
 ne:g≠h∧g≠q∧h≠q∧L≤h∧L≤q∧g<B∧h<B∧q<B∧B≤w.heap.size
theorem x6{w':World}{bs:List Nat}(h:hq.ie w w.heap.size A n bs)(r:hn i w w')(z:∀o,A=some o→o.block≠i):hq.ie w' w'.heap.size A n bs:=
 ⟨h.1,h.2.1,l8 h.2.2 r z⟩
theorem DD.Good.hT{d:DD}{w':World}(h:d.Good w)(r:hn i w w')(z:∀o,d.bi.A=some o→o.block≠i):d.Good w':=
 ⟨h.ac,h.me,h.h8,h.am,h.ep,h.mo,h.bo,h.bn,by obtain⟨E,F⟩:=h.bits;exact⟨E,x6 F r z⟩,fun o e=>by obtain⟨G,D⟩:=h.ty o e;exact⟨G,(r.block _ (Array.getElem?_eq_some_iff.1 D).1 (z o e)).trans D⟩⟩
theorem DD.Good.below{d:DD}{w':World}(h:d.Good w)(o:Below w.heap.size w w'):d.Good w':=
 ⟨h.ac,h.me,h.h8,h.am,h.ep,h.mo,h.bo,h.bn,by obtain⟨z,A⟩:=h.bits;exact⟨z,(A.below o).more o.size⟩,fun D e=>by obtain⟨E,r⟩:=h.ty D e;exact⟨E,(o.block _ (Array.getElem?_eq_some_iff.1 r).1).trans r⟩⟩
theorem jA.read{w':World}{b:Sl}{bs:List Nat}{e r A:Int}{d:DD}(x:jA w B L g h q b bs e E z d)(D:j7 w' L g b bs r A)(o:hn g w w'):jA w' B L g h q b bs r A z d:=
 ⟨D,x.hb.hT o x.ne.1.symm,x.qb.hT o x.ne.2.1.symm,x.gd.hT o (fun F e=>by have:=x.na F e;have:=x.ne;omega),x.na,⟨x.ne.1,x.ne.2.1,x.ne.2.2.1,x.ne.2.2.2.1,x.ne.2.2.2.2.1,x.ne.2.2.2.2.2.1,x.ne.2.2.2.2.2.2.1,x.ne.2.2.2.2.2.2.2.1,Nat.le_trans x.ne.2.2.2.2.2.2.2.2 o.size⟩⟩
theorem jA.oH{w':World}{b:Sl}{bs:List Nat}{e r:Int}{d:DD}(x:jA w B L g h q b bs e E z d)(A:ha w' h 269 (mS g r))(o:hn h w w'):jA w' B L g h q b bs e E r d:=
 ⟨x.rd.other x.ne.1.symm x.ne.2.2.2.1 x.hb.lt o,A,x.qb.hT o x.ne.2.2.1.symm,x.gd.hT o (fun D e=>by have:=x.na D e;have:=x.ne;omega),x.na,⟨x.ne.1,x.ne.2.1,x.ne.2.2.1,x.ne.2.2.2.1,x.ne.2.2.2.2.1,x.ne.2.2.2.2.2.1,x.ne.2.2.2.2.2.2.1,x.ne.2.2.2.2.2.2.2.1,Nat.le_trans x.ne.2.2.2.2.2.2.2.2 o.size⟩⟩
theorem jA.below{w':World}{b:Sl}{bs:List Nat}{e:Int}{d:DD}(x:jA w B L g h q b bs e E z d)(o:Below w.heap.size w w'):jA w' B L g h q b bs e E z d:=
 ⟨x.rd.to o,x.hb.to o,x.qb.to o,x.gd.below o,x.na,⟨x.ne.1,x.ne.2.1,x.ne.2.2.1,x.ne.2.2.2.1,x.ne.2.2.2.2.1,x.ne.2.2.2.2.2.1,x.ne.2.2.2.2.2.2.1,x.ne.2.2.2.2.2.2.2.1,Nat.le_trans x.ne.2.2.2.2.2.2.2.2 o.size⟩⟩
theorem jA.store{w':World}{b:Sl}{bs:List Nat}{e:Int}{d:DD}(x:jA w B L g h q b bs e E z d)(d':DD)(D:ha w' q 70 d'.cs)(o:hn q w w')
 (F:d'.Good w') (G:∀r,d'.bi.A=some r→B≤r.block):jA w' B L g h q b bs e E z d':=
 ⟨x.rd.other x.ne.2.1.symm x.ne.2.2.2.2.1 x.qb.lt o,x.hb.hT o x.ne.2.2.1,D,F,G,⟨x.ne.1,x.ne.2.1,x.ne.2.2.1,x.ne.2.2.2.1,x.ne.2.2.2.2.1,x.ne.2.2.2.2.2.1,x.ne.2.2.2.2.2.2.1,x.ne.2.2.2.2.2.2.2.1,Nat.le_trans x.ne.2.2.2.2.2.2.2.2 o.size⟩⟩
theorem oI(g h:Nat)(b:Sl)(e A o y:Int)(D:Bool)(w:World)(G:ha w g 263 (kW b e A))(z:ha w h 269 (mS g o)):
 Calls prog 204 #[.pointer (some ⟨h,0,none⟩),.bool D,int i64 y] w fun r w'=>r= .returned (.tuple #[])∧ha w' h 269 (mS g (if D=false∧o=0∧e=0 then y else o))∧hn h w w':=by
 have K:=z.all;have O:=z.frozen 1;obtain⟨E,F,I⟩:=hs z G (show ha (w.setCell ⟨h,1,none⟩ (int i64 y)) h 269 (mS g y)from z.set 1 (int i64 y));cases D
 ·by_cases k':o=0
  ·subst k'
   by_cases k:e=0
   ·subst k
    rw[if_pos ⟨rfl,rfl,rfl⟩];go_enter func204,ntmps204;go_wp2_with fail;refine(oD b 0 A g w F).mono ?_;rintro r w' ⟨rfl,rfl⟩;go_wp2;go_end0;exact⟨rfl,I,(hn.refl h w).setCell (p:=⟨h,1,none⟩) (.inl rfl) _⟩
   have J:=iM k;rw[if_neg (fun h=>k h.2.2)];go_enter func204,ntmps204;go_wp2_with fail;refine(oD b e A g w F).mono ?_;rintro r w' ⟨rfl,rfl⟩;go_wp2;go_end0;exact⟨rfl,E,hn.refl _ _⟩
  have J:=iM k';rw[if_neg (fun h=>k' h.2.1)];go_enter func204,ntmps204;go_wp2;go_end0;exact⟨rfl,E,hn.refl _ _⟩
 rw[if_neg (fun h=>by cases h.1)];go_enter func204,ntmps204;go_wp2;go_end0;exact⟨rfl,E,hn.refl _ _⟩
theorem pv(g h:Nat)(b:Sl)(e A z:Int)(w:World)(D:ha w g 263 (kW b e A))(E:ha w h 269 (mS g z))(x:Bool)(o:x=(z==0&&e==0)):
 Calls prog 206 #[.pointer (some ⟨h,0,none⟩)] w fun r w'=>r= .returned (.bool x)∧w=w':=by
 have I:=E.all;have F:=g' D;clear E D;by_cases k':z=0
 ·subst k'
  obtain rfl:x=(e==0):=by rw[o];rfl
  clear o;go_enter func206,ntmps206;go_wp2_with fail;refine(oD b e A g w F).mono ?_;rintro r w' ⟨rfl,rfl⟩;go_wp2;go_ret;exact⟨rfl,rfl⟩
 have G:=iM k';obtain rfl:x=false:=by rw[o,G];rfl
 clear o;go_enter func206,ntmps206;go_wp2;go_ret;exact⟨rfl,rfl⟩
theorem pw(L g h:Nat)(b:Sl)(bs:List Nat)(e o A:Int)(w:World)(D:j7 w L g b bs e o)(E:ha w h 269 (mS g A)):
 Calls prog 241 #[.pointer (some ⟨h,0,none⟩)] w fun r w'=>∃m:Int,0≤m∧m≤63∧r= .returned (int i64 m)∧Left w w' L g b bs:=by
 have K:=E.all;have F:=g' (oF L g b bs e o 63 (by omega) w D);go_enter func241,ntmps241;go_wp2_with fail;refine F.mono ?_;rintro r w' ⟨m,G,rfl,I⟩;obtain⟨J,z⟩:=hg I G;go_wp2;go_ret;exact⟨m,z.1,z.2,rfl,J⟩
theorem uG(L g h:Nat)(b:Sl)(bs:List Nat)(e o A:Int)(w:World)(D:j7 w L g b bs e o)(E:ha w h 269 (mS g A)):
 Calls prog 242 #[.pointer (some ⟨h,0,none⟩)] w fun r w'=>∃m:Int,0≤m∧m≤127∧r= .returned (int i64 m)∧Left w w' L g b bs:=by
 have K:=E.all;have F:=g' (oF L g b bs e o 127 (by omega) w D);go_enter func242,ntmps242;go_wp2_with fail;refine F.mono ?_;rintro r w' ⟨m,G,rfl,I⟩;obtain⟨J,z⟩:=hg I G;go_wp2;go_ret;exact⟨m,z.1,z.2,rfl,J⟩
theorem p3(d:DD)(w:World):Calls prog 245 #[.agg d.cs] w fun r w'=>∃x:Bool,r= .returned (.bool x)∧Below w.heap.size w w':=by
 obtain⟨o,z⟩:=hk (decide (1≤d.k∧d.k≤3));have E:=g' (fun W=>nY d.k 1 3 o z W);obtain⟨F,K⟩:=ho (d.k==6);clear z;obtain⟨O,A,G,D⟩:=iF w d.cs 70;obtain⟨I,J⟩:=hg D A;clear A D;cases o;focus
  cases F;rotate_left
 rotate_left 2;all_goals
  go_enter func245,ntmps245;go_upto_region 1 with(fail)
  rw[J.out];have Q:=I.all;go_wp2_with fail;refine(E _).mono ?_;rintro r w' ⟨rfl,rfl⟩;go_wp2;go_ret;exact⟨_,rfl,G⟩
theorem DH(B L g h q:Nat)(b:Sl)(bs:List Nat)(e a U:Int)(d:DD)(w:World)(H:jA w B L g h q b bs e a U d):
 Calls prog 243 #[.pointer (some ⟨h,0,none⟩),.pointer (some ⟨q,0,none⟩)] w fun r w'=>r= .returned (.tuple #[])∧∃(G K aG:Int) (d':DD),jA w' B L g h q b bs G K aG d'∧Fr g h q w w'∧ks d d':=by
 obtain⟨ae,aH⟩:=hg H (Fr.refl g h q w);clear H;go_enter func243,ntmps243;have aT:=ae.hb.all;go_wp2_with fail;refine(oF L g b bs e a 255 (by omega) w ae.rd).mono ?_;rintro r af ⟨o,aU,rfl,G,K,av,ag⟩;obtain⟨I,aI⟩:=hg (ae.read av ag) (aH.trans (Fr.of ag (.inl rfl)));clear av ag;have aV:=I.qb.all;have aW:=I.qb.frozen 7;have V:=(hn.refl q af).setCell (p:=⟨q,7,none⟩) (.inl rfl) (int i64 o);have z:(d:DD).Good (af.setCell ⟨q,7,none⟩ (int i64 o)):=I.gd.hT V (fun Q e=>by have:=I.na Q e;have:=I.ne;omega);obtain⟨W,aJ⟩:=hg (I.store (({d with wh:=o}:DD)) (show ha (af.setCell ⟨q,7,none⟩ (int i64 o)) q 70 _ from I.qb.set 7 (int i64 o)) V ⟨z.ac,z.me,z.h8,z.am,z.ep,z.mo,z.bo,z.bn,z.bits,z.ty⟩ I.na) (aI.trans (Fr.of V (.inr (.inr (.inl rfl)))));clear V z;have aX:=W.qb.all;obtain⟨ah,aw⟩:=hk (decide (1≤o∧o≤4));go_wp2_with fail;refine(nY o 1 4 ah aw _).mono ?_;rintro r w' ⟨rfl,rfl⟩;clear aw;go_wp2_with fail;refine(oI g h b G K U 80 ah _ W.rd.h2 W.hb).mono ?_;rintro r ax ⟨rfl,ai,aj⟩;obtain⟨X,ak⟩:∃x:Int,x=(if ah=false∧U=0∧G=0 then 80 else U):=⟨_,rfl⟩;rw[←ak]at ai;obtain⟨A,al,aY⟩:=hs (W.oH ai aj) (aJ.trans (Fr.of aj (.inr (.inl rfl)))) ak;clear ai aj ak;obtain⟨ay,an⟩:=hk (X==0&&G==0);go_wp2_with fail;refine(pv g h b G K X _ A.rd.h2 A.hb ay an).mono ?_;rintro r w' ⟨rfl,rfl⟩;have aZ:=g' an;clear an;cases ay;rotate_left;focus
  have a0:=A.qb.all;by_cases az:o=1
  ·have Y:=jU az
   have aK:=A.hb.all;go_wp2_with fail;refine(DE L g b bs G K ax A.rd).mono ?_;rintro r Z ⟨ao,a1,rfl,aA,aB,R,J⟩;obtain⟨E,ap⟩:=hg (A.read R J) (al.trans (Fr.of J (.inl rfl)));clear R J;go_wp2_with (first|(refine jD rfl 24 (.tmp 4) (.tmp 36) rfl ao.cs rfl rfl (jb _) rfl (mq _) ?_;intro a2 aC aq aL;have aM:=g' aC;have O:=g' (E.below aq);have aN:=g' (ap.trans (Fr.of (hn.jJ (g:=g) aq) (.inl rfl)));clear aC aq aL)|(refine hR aM hQ (jb _) rfl rfl rfl rfl ?_)|(refine Dw rfl 24 (.tmp 41) (.tmp 39) rfl q 8 ao.cs rfl rfl 70 _ O.qb (jb _) (by show 8+24≤34;omega) (mq _) ?_;intro aO aD aa;have D:(({d with wh:=o}:DD):DD).Good aO:=O.gd.hT aa (fun Q e=>by have:=O.na Q e;have:=O.ne;omega);have S:=g' (O.store (({({d with wh:=o}:DD)with p:=ao}:DD)) ((DD.x5 _ _).symm▸aD) aa ⟨D.ac,D.me,D.h8,D.am,D.ep,D.mo,D.bo,D.bn,D.bits,D.ty⟩ O.na);have ar:=g' (aN.trans (Fr.of aa (.inr (.inr (.inl rfl)))));clear aD aa D));refine(oI g h b aA aB X 70 _ _ S.rd.h2 S.hb).mono ?_;rintro r a3 ⟨rfl,aE,au⟩;obtain⟨aP,aQ⟩:=hg (S.oH aE au) (ar.trans (Fr.of au (.inr (.inl rfl))));clear aE au;go_wp2;first|go_end0|((try simp only[Exit.inBlock,Exit.then]);refine bodyPost_ret (results_none rfl _ _ _) rfl ?_)
   exact⟨rfl,_,_,_,_,aP,aQ,⟨rfl,fun _=>⟨rfl,rfl,rfl,rfl,rfl,fun h=>by first|rfl|(exfalso;exact h (by simpa using ab)),fun h=>by first|rfl|(exfalso;exact h (by simpa using Y))⟩⟩⟩
  have Y:=iM az;by_cases aF:o=2
  ·have ab:=jU aF
   have aK:=A.hb.all;go_wp2_with fail;refine(pw L g h b bs G K X ax A.rd A.hb).mono ?_;rintro r Z ⟨T,aR,aS,rfl,aA,aB,R,J⟩;obtain⟨E,ap⟩:=hg (A.read R J) (al.trans (Fr.of J (.inl rfl)));clear R J;have a4:=E.qb.all;have a5:=E.qb.frozen 3;have ad:=(hn.refl q Z).setCell (p:=⟨q,3,none⟩) (.inl rfl) (int i64 T);have F:(({d with wh:=o}:DD):DD).Good (Z.setCell ⟨q,3,none⟩ (int i64 T)):=E.gd.hT ad (fun Q e=>by have:=E.na Q e;have:=E.ne;omega);obtain⟨S,ar⟩:=hg (E.store (({({d with wh:=o}:DD)with h8:=T}:DD)) (show ha (Z.setCell ⟨q,3,none⟩ (int i64 T)) q 70 _ from E.qb.set 3 (int i64 T)) ad ⟨F.ac,F.me,⟨aR,aS⟩,F.am,F.ep,F.mo,F.bo,F.bn,F.bits,F.ty⟩ E.na) (ap.trans (Fr.of ad (.inr (.inr (.inl rfl)))));clear ad F;go_wp2;first|go_end0|((try simp only[Exit.inBlock,Exit.then]);refine bodyPost_ret (results_none rfl _ _ _) rfl ?_)
   exact⟨rfl,_,_,_,_,S,ar,⟨rfl,fun _=>⟨rfl,rfl,rfl,rfl,rfl,fun h=>by first|rfl|(exfalso;exact h (by simpa using ab)),fun h=>by first|rfl|(exfalso;exact h (by simpa using Y))⟩⟩⟩
  have ab:=iM aF
 rotate_left;all_goals
  go_wp2;first|go_end0|((try simp only[Exit.inBlock,Exit.then]);refine bodyPost_ret (results_none rfl _ _ _) rfl ?_)
  exact⟨rfl,_,_,_,_,A,al,⟨rfl,fun _=>⟨rfl,rfl,rfl,rfl,rfl,fun h=>by first|rfl|(exfalso;exact h (by simpa using ab)),fun h=>by first|rfl|(exfalso;exact h (by simpa using Y))⟩⟩⟩
end hB
end Go.Proofs.YtffbipddbnkdjaaGreat
