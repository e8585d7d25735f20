/- What functions compute at any arguments, and plain facts: What is asked of a state, fifth part: pools; Whether a state is right. Conditions: those that each theorem names. -/
import Derived.Test.YtffbipddbnkdjaaGreatZ19
set_option maxRecDepth 100000
set_option maxHeartbeats 40000000
set_option linter.all false
open Go Go.Proofs.Tryz
open Go.Value(int)
open Go.IntKind(i64 u64)
variable{A T:Option Addr}{n g b L k B i x a m j q c p s r d h u N y:Nat}{E z:Int}{P:Program}{w W X Z:World}{e t:TypeId}{f:Nat→Value}{l:List Bool}{V U:Value}{Y:List Nat}{S:List Value}{R:List Int}{Q:Array Value}{O:List (List Nat)}{M:Bool}{K:Ending}{J:Addr}{I:Nat→Nat}{H:Option Nat}
namespace Go.Proofs.YtffbipddbnkdjaaGreat
namespace hB
open RowKit Maps
open hG hf hC h0 hU
open Classical in
noncomputable def rT(d:h'):Bool:=decide (pg d∧qF d)
theorem Ez(d:h')(w:World)(b:Bool)(o:b=rT d):
 Calls prog 163 #[.slice none 0 0,.agg #[int i64 d.ac,int i64 d.me,int u64 d.am,.bool d.nw]] w fun e w'=>∃v,e= .returned (.tuple #[v,int i64 (if b=true then 0 else 2)])∧Below w.heap.size w w':=by
 unfold rT at o;by_cases r:pg d
 ·by_cases z:qF d
  ·obtain rfl:b=true:=by rw[o];simp[r,z]
   refine(xy none 0 0 [] d w (hV.nil _ _ _ _) (fun _=>⟨rfl,rfl⟩) r z (by omega)).mono ?_;rintro e w' ⟨v,rfl,_,o⟩;exact⟨v,rfl,o⟩
  obtain rfl:b=false:=by rw[o];simp[z]
  exact(xx none 0 0 d w r z).mono fun e w' h=>⟨_,h.1,h.2⟩
 obtain rfl:b=false:=by rw[o];simp[r]
 exact(xw none 0 0 d w r).mono fun e w' h=>⟨_,h.1,h.2⟩
noncomputable def p9(s:hA)(d:h'):Bool:=rT d&&(k9 s d.ac&&(d.nw||decide (0≤d.me∧d.me≤(s.me.n:Int) -1)))
theorem rU(d:h'):(prog.info? 102).map (·.size)=some (#[int i64 d.ac,int i64 d.me,int u64 d.am,.bool d.nw]:Array Value).size:=by kernel_rfl
theorem mY(w:World):(zeroValue 4).run prog w= .ok (.bool false) w:=by kernel_rfl
noncomputable def rV(s:hA)(c:hl):Prop:=s.po.n≤256∧∀d∈c.ds,p9 s d=true
theorem EA(s:hA)(c:hl)(w:World)(h:Lay s c w w.heap.size)(bW:s.pu.n≤1000000)(ck:s.po.n≤1000000)(cl:s.du.n≤1000000)(cm:s.me.n≤1000000)
 (aQ:∀d∈c.du,(-9223372036854775808≤d.ac∧d.ac≤9223372036854775807)∧(-9223372036854775808≤d.ti∧d.ti≤9223372036854775807)):
 Calls prog 98 #[.agg s.cs] w fun e w'=>∃b:Bool,e= .returned (.bool b)∧Below w.heap.size w w'∧(b=true→rV s c)∧(c.ds=[]→c.du=[]→b=true):=by
 obtain⟨bb,br⟩:=hg (h.po.len h'.len (by omega)) (h.du.len Du.len (by omega));obtain⟨bc,a0⟩:=hk (decide (s.po.n≤256));have cn:decide ((256:Int)<(s.po.n:Int))= !bc:=by rw[a0];by_cases k:s.po.n≤256<;>simp[k]<;>omega
 have co:decide (256<s.po.n)= !bc:=by rw[a0];by_cases k:s.po.n≤256<;>simp[k]<;>omega
 have bt:=g' a0;clear a0;obtain⟨bu,bX,bY,bZ⟩:=h5 (fun(i:Int) (W:World) (x:Bool) (aU:x=k9 s i)=>uI s i bW x aU W) h.po h.du aQ;have cp:IntKind.i64.wrap ((s.me.n:Int) -1)=(s.me.n:Int) -1:=IntWalk.i64_in _ (by omega);have cq:= @run_makeMap prog;obtain⟨ao,bv,ap,bw⟩:=iF w s.cs 166;obtain⟨aV,bx⟩:=hg bw bv;clear bv bw;obtain⟨b0,bz⟩:=hg (fun(W:World) (bd:Below w.heap.size w W)=>bX.below bd) (fun(W:World) (bd:Below w.heap.size w W)=>bY.below bd);clear h aQ;cases bc
 ·have b1:=g' (show c.ds≠[]from fun e=>by have bA:=bb.out;have b2:=bt.out;rw[e]at bA;simp at bA b2;omega)
  go_enter func98,ntmps98;go_upto_region 1 with(fail)
  rw[bx.out];have b3:=aV.all;go_wp2;go_ret;exact⟨false,by rfl,ap,(fun h=>by cases h),(fun h=>absurd h b1)⟩
 go_enter func98,ntmps98;go_upto_region 1 with(fail)
 rw[bx.out];have b3:=aV.all;go_wp2;go_loopw [20] (fun aJ wr=>∃k:Nat,aJ= .int .i64 k∧k≤s.po.n∧Below ao.heap.size ao wr∧∀j m,j<k→c.ds[j]?=some m→p9 s m=true) (fun aJ _=>s.po.n-(intOf aJ).toNat)
 case atStart=>exact⟨0,rfl,h6,hz,fun j _ az=>absurd az (by omega)⟩
 case round=>
  obtain⟨k,rfl,b4,aD,a1⟩:=hrel;by_cases aE:k<s.po.n
  ·have a2:decide (k<s.po.n)=true:=by simpa using aE
   have a3:Below w.heap.size w wr:=ap.trans (aD.mono ap.size);obtain⟨d,aq⟩:∃d,c.ds[k]?=some d:=⟨_,iB (by rw[bb.out];exact aE)⟩;obtain⟨G,am,Q,au⟩:=d;obtain⟨J,U,_,aA⟩:=(b0 wr a3).cell h'.len aE aq (by omega);have b5:wr.cell? (J.add (k*4))=some (.int .i64 G):=by have:=aA 0 _ rfl;rwa[hG.add_zero]at this
   have b6:wr.cell? ⟨(J.add (k*4)).block,(J.add (k*4)).off+1,none⟩=some (.int .i64 am):=aA 1 _ rfl;have b7:wr.cell? ⟨(J.add (k*4)).block,(J.add (k*4)).off+2,none⟩=some (.int .u64 Q):=aA 2 _ rfl;have b8:wr.cell? ⟨(J.add (k*4)).block,(J.add (k*4)).off+3,none⟩=some (.bool au):=aA 3 _ rfl;rw[U];have a4:=aD.size;have aj:Below ao.heap.size ao (wr.alloc (.cells #[.int .i64 G,.int .i64 am,.int .u64 Q,.bool au] 102)):=aD.alloc a4 _;have aH:ha (wr.alloc (.cells #[.int .i64 G,.int .i64 am,.int .u64 Q,.bool au] 102)) wr.heap.size 102 #[.int .i64 G,.int .i64 am,.int .u64 Q,.bool au]:=ha.new wr wr.heap.size _ _ rfl;obtain⟨al,aK⟩:=ho (wr.alloc (.cells #[.int .i64 G,.int .i64 am,.int .u64 Q,.bool au] 102));rw[aK]at aj aH;have a5:=g' aK;have aL:Below w.heap.size w al:=ap.trans (aj.mono ap.size);clear aK;have bB:=g' aq;obtain⟨x,aU⟩:=hk (rT (⟨G,am,Q,au⟩:h'));have aW:=g' (fun W=>Ez (⟨G,am,Q,au⟩:h') W x aU);obtain⟨y,aR⟩:=hk (k9 s G);have ar:=g' (fun W=>bu G W y aR);obtain⟨z,aS⟩:=hk (decide (0≤am∧am≤(s.me.n:Int) -1));obtain⟨aB,bC,aI,I,bD,aC⟩:=ku (fun W=>pj am 0 ((s.me.n:Int) -1) z aS W) (show p9 s (⟨G,am,Q,au⟩:h')=(x&&(y&&(au||z))) by unfold p9;rw[←aU,←aS];simp only;rw[←aR]) (aV.to aj) aH a1 (show c.ds≠[]from fun e=>by rw[e]at aq;simp at aq);clear aA aq aU aR aS aH a1 aD a3;go_upto_region 6 with(fail)
   rw[a5.out];clear b5 b6 b7 b8;cases x
   ·have a6:=I.all
    go_wp2_with (first|(refine hR I rW ((rU ⟨G,am,Q,au⟩)) rfl rfl rfl rfl ?_));refine(aW _).mono ?_;rintro e ag ⟨a7,rfl,F⟩;have aa:=hJ aL F;obtain⟨ah,af⟩:=hg (aI.to F) (I.to F);have av:=aj.trans (F.mono aj.size);clear F;have a8:=af.all;go_wp2;go_ret;exact⟨false,by rfl,aa,(fun h=>by cases h),(fun h=>absurd h aC)⟩
   cases y
   ·have a6:=I.all
    go_wp2_with (first|(refine hR I rW ((rU ⟨G,am,Q,au⟩)) rfl rfl rfl rfl ?_));refine(aW _).mono ?_;rintro e ag ⟨a7,rfl,F⟩;have aa:=hJ aL F;obtain⟨ah,af⟩:=hg (aI.to F) (I.to F);have av:=aj.trans (F.mono aj.size);clear F;have a8:=af.all;go_wp2_with (first|(refine iv ah iZ (jm _) rfl rfl rfl rfl ?_));refine hI (ar _) fun be ab=>?_;have aX:=hJ aa ab;obtain⟨aM,aN⟩:=hg (ah.to ab) (af.to ab);have aY:=av.trans (ab.mono av.size);clear ab;have bf:=aN.all;have bg:=aM.all;go_wp2;go_ret;exact⟨false,by rfl,aX,(fun h=>by cases h),(fun h=>absurd h aC)⟩
   cases au
   ·cases z
    ·have a6:=I.all
     go_wp2_with (first|(refine hR I rW ((rU ⟨G,am,Q,false⟩)) rfl rfl rfl rfl ?_));refine(aW _).mono ?_;rintro e ag ⟨a7,rfl,F⟩;have aa:=hJ aL F;obtain⟨ah,af⟩:=hg (aI.to F) (I.to F);have av:=aj.trans (F.mono aj.size);clear F;have a8:=af.all;go_wp2_with (first|(refine iv ah iZ (jm _) rfl rfl rfl rfl ?_));refine hI (ar _) fun be ab=>?_;have aX:=hJ aa ab;obtain⟨aM,aN⟩:=hg (ah.to ab) (af.to ab);have aY:=av.trans (ab.mono av.size);clear ab;have bf:=aN.all;have bg:=aM.all;go_wp2_with fail;refine hE (aB _) ?_;go_wp2;go_ret;exact⟨false,by rfl,aX,(fun h=>by cases h),(fun h=>absurd h aC)⟩
    have bh:=g' (show∀j m,j<k+1→c.ds[j]?=some m→p9 s m=true from fun j m az aO=>by
     rcases Nat.lt_or_ge j k with h|h
     ·exact bD j m h aO
     obtain rfl:j=k:=by omega
     rw[bB.out]at aO;cases aO;exact bC)
    have a6:=I.all;go_wp2_with (first|(refine hR I rW ((rU ⟨G,am,Q,false⟩)) rfl rfl rfl rfl ?_));refine(aW _).mono ?_;rintro e ag ⟨a7,rfl,F⟩;have aa:=hJ aL F;obtain⟨ah,af⟩:=hg (aI.to F) (I.to F);have av:=aj.trans (F.mono aj.size);clear F;have a8:=af.all;go_wp2_with (first|(refine iv ah iZ (jm _) rfl rfl rfl rfl ?_));refine hI (ar _) fun be ab=>?_;have aX:=hJ aa ab;obtain⟨aM,aN⟩:=hg (ah.to ab) (af.to ab);have aY:=av.trans (ab.mono av.size);clear ab;have bf:=aN.all;have bg:=aM.all;go_wp2_with fail;refine hE (aB _) ?_;go_wp2;exact⟨⟨k+1,by go_num,by omega,aY,bh⟩,by simp[intOf];omega⟩
   have bh:=g' (show∀j m,j<k+1→c.ds[j]?=some m→p9 s m=true from fun j m az aO=>by
    rcases Nat.lt_or_ge j k with h|h
    ·exact bD j m h aO
    obtain rfl:j=k:=by omega
    rw[bB.out]at aO;cases aO;exact bC)
   have a6:=I.all;go_wp2_with (first|(refine hR I rW ((rU ⟨G,am,Q,true⟩)) rfl rfl rfl rfl ?_));refine(aW _).mono ?_;rintro e ag ⟨a7,rfl,F⟩;have aa:=hJ aL F;obtain⟨ah,af⟩:=hg (aI.to F) (I.to F);have av:=aj.trans (F.mono aj.size);clear F;have a8:=af.all;go_wp2_with (first|(refine iv ah iZ (jm _) rfl rfl rfl rfl ?_));refine hI (ar _) fun be ab=>?_;have aX:=hJ aa ab;obtain⟨aM,aN⟩:=hg (ah.to ab) (af.to ab);have aY:=av.trans (ab.mono av.size);clear ab;have bf:=aN.all;have bg:=aM.all;go_wp2;exact⟨⟨k+1,by go_num,by omega,aY,bh⟩,by simp[intOf];omega⟩
  have a2:decide (k<s.po.n)=false:=by simpa using aE
  obtain rfl:k=s.po.n:=by omega
  have b9:=g' (show rV s c from⟨by simpa using bt.symm,fun d aq=>by
   obtain⟨j,az,rfl⟩:=List.getElem_of_mem aq;exact a1 j _ (by rw[←bb.out];exact az) (List.getElem?_eq_getElem az)⟩)
  have a3:Below w.heap.size w wr:=ap.trans (aD.mono ap.size);have aI:=aV.to aD;have b':=(aI.alloc (.map #[] 0)).all;clear a1;have bE:ao.heap.size≤wr.heap.size:=aD.size;have bi:(wr.alloc (.map #[] 0)).ownsMap prog 57 (plainElem (H:=Unit) prog 4) wr.heap.size 0 (.map []):=World.ownsMap_made _ _ _ _;have bF:Below ao.heap.size ao (wr.alloc (.map #[] 0)):=aD.alloc bE _;obtain⟨V,bG⟩:=hk wr.heap.size;go_wp2;rw[←bG]at bi bE⊢;clear bG aD a3 aI b';go_loopw [60] (fun aJ bH=>∃(k:Nat) (D:DataW Unit),aJ= .int .i64 k∧k≤s.du.n∧Below ao.heap.size ao bH∧bH.ownsMap prog 57 (plainElem (H:=Unit) prog 4) V k D∧p8 D) (fun aJ _=>s.du.n-(intOf aJ).toNat)
  case atStart=>exact⟨0,_,rfl,h6,bF,bi,p8.nil⟩
  case round=>
   clear bi bF a2;obtain⟨k,D,rfl,b4,a9,bI,bj⟩:=hrel;have bk:Below w.heap.size w wr:=ap.trans (a9.mono ap.size);by_cases aE:k<s.du.n
   ·have a2:decide (k<s.du.n)=true:=by simpa using aE
    obtain⟨d,aq⟩:∃d,c.du[k]?=some d:=⟨_,iB (by rw[br.out];exact aE)⟩;obtain⟨G,O,Q⟩:=d;obtain⟨J,U,_,aA⟩:=(bz wr bk).cell Du.len aE aq (by omega);have ca:wr.cell? (J.add (k*3))=some (.int .i64 G):=by have:=aA 0 _ rfl;rwa[hG.add_zero]at this
    have cb:wr.cell? ⟨(J.add (k*3)).block,(J.add (k*3)).off+1,none⟩=some (.int .i64 O):=aA 1 _ rfl;have cc:wr.cell? ⟨(J.add (k*3)).block,(J.add (k*3)).off+2,none⟩=some (.int .u64 Q):=aA 2 _ rfl;rw[U];have a4:=a9.size;have aj:Below ao.heap.size ao (wr.alloc (.cells #[.int .i64 G,.int .i64 O,.int .u64 Q] 57)):=a9.alloc a4 _;have aH:ha (wr.alloc (.cells #[.int .i64 G,.int .i64 O,.int .u64 Q] 57)) wr.heap.size 57 #[.int .i64 G,.int .i64 O,.int .u64 Q]:=ha.new wr wr.heap.size _ _ rfl;obtain⟨al,aK⟩:=ho (wr.alloc (.cells #[.int .i64 G,.int .i64 O,.int .u64 Q] 57));rw[aK]at aj aH;have a5:=g' aK;have aL:Below w.heap.size w al:=ap.trans (aj.mono ap.size);clear aK;have aC:=g' (show c.du≠[]from fun e=>by rw[e]at aq;simp at aq);have aQ:=bZ.out _ (List.mem_of_getElem? aq);have an:=g' (Ey G O aQ.1 aQ.2);generalize keyBytes [.int .i64 G,.int .i64 O,.int .u64 0]=kb at an;have bJ:=bj.put (k:= .string kb) trivial;obtain⟨r,bK⟩:=bj.2 (.string kb);obtain⟨aw,bL⟩:=hg bK bJ;have bM:al.ownsMap prog 57 (plainElem (H:=Unit) prog 4) V k D:=by rw[←a5.out];exact bI.alloc _
    have cd:=aH.all;go_upto_region 14 with(fail)
    rw[a5.out];clear ca cb cc;have bN:=aj.size;have ak:Below ao.heap.size ao (al.alloc (.cells #[.int .i64 G,.int .i64 O,.int .u64 0] 57)):=aj.alloc bN _;have bl:ha (al.alloc (.cells #[.int .i64 G,.int .i64 O,.int .u64 0] 57)) al.heap.size 57 #[.int .i64 G,.int .i64 O,.int .u64 0]:=ha.new al al.heap.size _ _ rfl;obtain⟨R,bm⟩:=ho (al.alloc (.cells #[.int .i64 G,.int .i64 O,.int .u64 0] 57));rw[bm]at ak bl;have bn:=g' bm;have ai:Below w.heap.size w R:=ap.trans (ak.mono ap.size);clear bm;go_upto_region 15 with(refine wpList_build rfl 57 #[(0,.tmp 66),(1,.tmp 68)] rfl (.agg #[.int .i64 G,.int .i64 O,.int .u64 0]) (fun w'=>by kernel_rfl) ?_)
    rw[bn.out];obtain⟨X,I,Y⟩:=hs (aV.to ak) (show ha R wr.heap.size 57 #[.int .i64 G,.int .i64 O,.int .u64 Q]from by rw[←bn.out];exact aH.alloc _) bl;have Z:R.ownsMap prog 57 (plainElem (H:=Unit) prog 4) V k D:=by rw[←bn.out];exact bM.alloc _
    obtain⟨y,aR⟩:=hk (k9 s G);have ar:=g' (fun W=>bu G W y aR);obtain⟨z,aS⟩:=hk (decide (0≤O∧O≤2147483647));have aB:=g' (fun W=>pj O 0 2147483647 z aS W);obtain⟨a',ba⟩:=hk (decide (Q<1));have cr:decide ((Q:Int)<1)=a':=by rw[ba];by_cases h:Q<1<;>simp[h]<;>omega
    have ct:decide (Q=0)=a':=by rw[ba];by_cases h:Q<1<;>simp[h]<;>omega
    have cu:decide (Q<1)=a':=ba.symm;obtain⟨bO,bP⟩:=hk (decide (4611686018427387904<Q));have cv:decide ((4611686018427387904:Int)<(Q:Int))=bO:=by rw[bP];by_cases h:4611686018427387904<Q<;>simp[h]<;>omega
    clear aq aA aQ bj bJ bK bI bM aH bl cd aR aS ba bP a9 bk aj aL a4 bN;cases y
    ·have aP:=I.all
     refine j8 (fun w'=>ha w' w.heap.size 166 s.cs∧ha w' wr.heap.size 57 (#[.int .i64 G,.int .i64 O,.int .u64 Q])∧ha w' al.heap.size 57 (#[.int .i64 G,.int .i64 O,.int .u64 0])∧w'.ownsMap prog 57 (plainElem (H:=Unit) prog 4) V k D∧Below R.heap.size R w') (by kernel_rfl) (by rintro _ _ (_|_) _ _ h<;>exact h) (⟨X.drew,I.drew,Y.drew,Z,hM⟩) fun S E=>?_;refine jn S 3 [0,1,2] E (by kernel_rfl) ?_;iterate 3((first|(refine k3 0 (s.cs).toList (fun w' o=>(o.1)) (by kernel_rfl) iZ (by kernel_rfl) rfl (by rfl) rfl rfl rfl ?_)|(refine iu rfl (by rfl) (fun w' o=>by try simp only[S3];have ad:=(o.2.1).all;have ae:=(o.1).cell (j:=37) (v:= .slice (some J) s.du.n s.du.c) (by rw[←U];rfl);go_simp;try rfl) ?_));try simp only[S4,S3])
     refine il ?_;refine iD 3 rfl (by kernel_rfl) fun K T=>?_;(try simp only[S3])
     go_simp;refine hI (ar _) fun ag F=>?_;have A:Below R.heap.size R ag:=hJ (E.2.2.2.2) F;clear F;refine T.out _ _ ⟨X.to A,I.to A,Y.to A,lr Z A,A⟩ (fun E=>?_);(try simp only[S4,S3])
     refine jn S 39 (i' 4 39 []) E (by kernel_rfl) ?_;iterate 39((first|(refine iu rfl (by rfl) (fun w' o=>by try simp only[S3];have ad:=(o.2.1).all;have ae:=(o.1).cell (j:=37) (v:= .slice (some J) s.du.n s.du.c) (by rw[←U];rfl);go_simp;try rfl) ?_)|(refine oe rfl (by rfl) ?_));try simp only[S4,S3])
     refine il ?_;clear E;refine wpAnyH_done (by kernel_rfl) ?_ _;have aa:=hJ ai A;obtain⟨ah,af,aF⟩:=hs (X.to A) (I.to A) (Y.to A);have aG:=lr Z A;have ax:=ak.trans (A.mono ak.size);clear A;go_wp2;go_ret;exact⟨false,by rfl,aa,(fun h=>by cases h),(fun _ h=>absurd h aC)⟩
    cases z
    ·have aP:=I.all
     refine j8 (fun w'=>ha w' w.heap.size 166 s.cs∧ha w' wr.heap.size 57 (#[.int .i64 G,.int .i64 O,.int .u64 Q])∧ha w' al.heap.size 57 (#[.int .i64 G,.int .i64 O,.int .u64 0])∧w'.ownsMap prog 57 (plainElem (H:=Unit) prog 4) V k D∧Below R.heap.size R w') (by kernel_rfl) (by rintro _ _ (_|_) _ _ h<;>exact h) (⟨X.drew,I.drew,Y.drew,Z,hM⟩) fun S E=>?_;refine jn S 3 [0,1,2] E (by kernel_rfl) ?_;iterate 3((first|(refine k3 0 (s.cs).toList (fun w' o=>(o.1)) (by kernel_rfl) iZ (by kernel_rfl) rfl (by rfl) rfl rfl rfl ?_)|(refine iu rfl (by rfl) (fun w' o=>by try simp only[S3];have ad:=(o.2.1).all;have ae:=(o.1).cell (j:=37) (v:= .slice (some J) s.du.n s.du.c) (by rw[←U];rfl);go_simp;try rfl) ?_));try simp only[S4,S3])
     refine il ?_;refine iD 3 rfl (by kernel_rfl) fun K T=>?_;(try simp only[S3])
     go_simp;refine hI (ar _) fun ag F=>?_;have A:Below R.heap.size R ag:=hJ (E.2.2.2.2) F;clear F;refine T.out _ _ ⟨X.to A,I.to A,Y.to A,lr Z A,A⟩ (fun E=>?_);(try simp only[S4,S3])
     refine jn S 4 [4,5,6,7] E (by kernel_rfl) ?_;iterate 4(refine iu rfl (by rfl) (fun w' o=>by try simp only[S3];have ad:=(o.2.1).all;have ae:=(o.1).cell (j:=37) (v:= .slice (some J) s.du.n s.du.c) (by rw[←U];rfl);go_simp;try rfl) ?_;try simp only[S4,S3])
     refine il ?_;refine iD 8 rfl (by kernel_rfl) fun K T=>?_;(try simp only[S3])
     go_simp;refine hE (aB _) ?_;refine T.out _ _ E (fun E=>?_);(try simp only[S4,S3])
     refine jn S 34 (i' 9 34 []) E (by kernel_rfl) ?_;iterate 34((first|(refine iu rfl (by rfl) (fun w' o=>by try simp only[S3];have ad:=(o.2.1).all;have ae:=(o.1).cell (j:=37) (v:= .slice (some J) s.du.n s.du.c) (by rw[←U];rfl);go_simp;try rfl) ?_)|(refine oe rfl (by rfl) ?_));try simp only[S4,S3])
     refine il ?_;clear E;refine wpAnyH_done (by kernel_rfl) ?_ _;have aa:=hJ ai A;obtain⟨ah,af,aF⟩:=hs (X.to A) (I.to A) (Y.to A);have aG:=lr Z A;have ax:=ak.trans (A.mono ak.size);clear A;go_wp2;go_ret;exact⟨false,by rfl,aa,(fun h=>by cases h),(fun _ h=>absurd h aC)⟩
    cases a'
    case true=>
     have aP:=I.all;refine j8 (fun w'=>ha w' w.heap.size 166 s.cs∧ha w' wr.heap.size 57 (#[.int .i64 G,.int .i64 O,.int .u64 Q])∧ha w' al.heap.size 57 (#[.int .i64 G,.int .i64 O,.int .u64 0])∧w'.ownsMap prog 57 (plainElem (H:=Unit) prog 4) V k D∧Below R.heap.size R w') (by kernel_rfl) (by rintro _ _ (_|_) _ _ h<;>exact h) (⟨X.drew,I.drew,Y.drew,Z,hM⟩) fun S E=>?_;refine jn S 3 [0,1,2] E (by kernel_rfl) ?_;iterate 3((first|(refine k3 0 (s.cs).toList (fun w' o=>(o.1)) (by kernel_rfl) iZ (by kernel_rfl) rfl (by rfl) rfl rfl rfl ?_)|(refine iu rfl (by rfl) (fun w' o=>by try simp only[S3];have ad:=(o.2.1).all;have ae:=(o.1).cell (j:=37) (v:= .slice (some J) s.du.n s.du.c) (by rw[←U];rfl);go_simp;try rfl) ?_));try simp only[S4,S3])
     refine il ?_;refine iD 3 rfl (by kernel_rfl) fun K T=>?_;(try simp only[S3])
     go_simp;refine hI (ar _) fun ag F=>?_;have A:Below R.heap.size R ag:=hJ (E.2.2.2.2) F;clear F;refine T.out _ _ ⟨X.to A,I.to A,Y.to A,lr Z A,A⟩ (fun E=>?_);(try simp only[S4,S3])
     refine jn S 4 [4,5,6,7] E (by kernel_rfl) ?_;iterate 4(refine iu rfl (by rfl) (fun w' o=>by try simp only[S3];have ad:=(o.2.1).all;have ae:=(o.1).cell (j:=37) (v:= .slice (some J) s.du.n s.du.c) (by rw[←U];rfl);go_simp;try rfl) ?_;try simp only[S4,S3])
     refine il ?_;refine iD 8 rfl (by kernel_rfl) fun K T=>?_;(try simp only[S3])
     go_simp;refine hE (aB _) ?_;refine T.out _ _ E (fun E=>?_);(try simp only[S4,S3])
     refine jn S 34 (i' 9 34 []) E (by kernel_rfl) ?_;iterate 34((first|(refine iu rfl (by rfl) (fun w' o=>by try simp only[S3];have ad:=(o.2.1).all;have ae:=(o.1).cell (j:=37) (v:= .slice (some J) s.du.n s.du.c) (by rw[←U];rfl);go_simp;try rfl) ?_)|(refine oe rfl (by rfl) ?_));try simp only[S4,S3])
     refine il ?_;clear E;refine wpAnyH_done (by kernel_rfl) ?_ _;have aa:=hJ ai A;obtain⟨ah,af,aF⟩:=hs (X.to A) (I.to A) (Y.to A);have aG:=lr Z A;have ax:=ak.trans (A.mono ak.size);clear A;go_wp2;go_ret;exact⟨false,by rfl,aa,(fun h=>by cases h),(fun _ h=>absurd h aC)⟩
    case false=>
     cases bO
     case true=>
      have aP:=I.all;refine j8 (fun w'=>ha w' w.heap.size 166 s.cs∧ha w' wr.heap.size 57 (#[.int .i64 G,.int .i64 O,.int .u64 Q])∧ha w' al.heap.size 57 (#[.int .i64 G,.int .i64 O,.int .u64 0])∧w'.ownsMap prog 57 (plainElem (H:=Unit) prog 4) V k D∧Below R.heap.size R w') (by kernel_rfl) (by rintro _ _ (_|_) _ _ h<;>exact h) (⟨X.drew,I.drew,Y.drew,Z,hM⟩) fun S E=>?_;refine jn S 3 [0,1,2] E (by kernel_rfl) ?_;iterate 3((first|(refine k3 0 (s.cs).toList (fun w' o=>(o.1)) (by kernel_rfl) iZ (by kernel_rfl) rfl (by rfl) rfl rfl rfl ?_)|(refine iu rfl (by rfl) (fun w' o=>by try simp only[S3];have ad:=(o.2.1).all;have ae:=(o.1).cell (j:=37) (v:= .slice (some J) s.du.n s.du.c) (by rw[←U];rfl);go_simp;try rfl) ?_));try simp only[S4,S3])
      refine il ?_;refine iD 3 rfl (by kernel_rfl) fun K T=>?_;(try simp only[S3])
      go_simp;refine hI (ar _) fun ag F=>?_;have A:Below R.heap.size R ag:=hJ (E.2.2.2.2) F;clear F;refine T.out _ _ ⟨X.to A,I.to A,Y.to A,lr Z A,A⟩ (fun E=>?_);(try simp only[S4,S3])
      refine jn S 4 [4,5,6,7] E (by kernel_rfl) ?_;iterate 4(refine iu rfl (by rfl) (fun w' o=>by try simp only[S3];have ad:=(o.2.1).all;have ae:=(o.1).cell (j:=37) (v:= .slice (some J) s.du.n s.du.c) (by rw[←U];rfl);go_simp;try rfl) ?_;try simp only[S4,S3])
      refine il ?_;refine iD 8 rfl (by kernel_rfl) fun K T=>?_;(try simp only[S3])
      go_simp;refine hE (aB _) ?_;refine T.out _ _ E (fun E=>?_);(try simp only[S4,S3])
      refine jn S 34 (i' 9 34 []) E (by kernel_rfl) ?_;iterate 34((first|(refine iu rfl (by rfl) (fun w' o=>by try simp only[S3];have ad:=(o.2.1).all;have ae:=(o.1).cell (j:=37) (v:= .slice (some J) s.du.n s.du.c) (by rw[←U];rfl);go_simp;try rfl) ?_)|(refine oe rfl (by rfl) ?_));try simp only[S4,S3])
      refine il ?_;clear E;refine wpAnyH_done (by kernel_rfl) ?_ _;have aa:=hJ ai A;obtain⟨ah,af,aF⟩:=hs (X.to A) (I.to A) (Y.to A);have aG:=lr Z A;have ax:=ak.trans (A.mono ak.size);clear A;go_wp2;go_ret;exact⟨false,by rfl,aa,(fun h=>by cases h),(fun _ h=>absurd h aC)⟩
     case false=>
      cases r
      case true=>
       have aP:=I.all;refine j8 (fun w'=>ha w' w.heap.size 166 s.cs∧ha w' wr.heap.size 57 (#[.int .i64 G,.int .i64 O,.int .u64 Q])∧ha w' al.heap.size 57 (#[.int .i64 G,.int .i64 O,.int .u64 0])∧w'.ownsMap prog 57 (plainElem (H:=Unit) prog 4) V k D∧Below R.heap.size R w') (by kernel_rfl) (by rintro _ _ (_|_) _ _ h<;>exact h) (⟨X.drew,I.drew,Y.drew,Z,hM⟩) fun S E=>?_;refine jn S 3 [0,1,2] E (by kernel_rfl) ?_;iterate 3((first|(refine k3 0 (s.cs).toList (fun w' o=>(o.1)) (by kernel_rfl) iZ (by kernel_rfl) rfl (by rfl) rfl rfl rfl ?_)|(refine iu rfl (by rfl) (fun w' o=>by try simp only[S3];have ad:=(o.2.1).all;have ae:=(o.1).cell (j:=37) (v:= .slice (some J) s.du.n s.du.c) (by rw[←U];rfl);have ay:=mX w' lY lZ kv (mY _) V k D (o.2.2.2.1) _ _ an _ aw;go_simp;try rfl) ?_));try simp only[S4,S3])
       refine il ?_;refine iD 3 rfl (by kernel_rfl) fun K T=>?_;(try simp only[S3])
       go_simp;refine hI (ar _) fun ag F=>?_;have A:Below R.heap.size R ag:=hJ (E.2.2.2.2) F;clear F;refine T.out _ _ ⟨X.to A,I.to A,Y.to A,lr Z A,A⟩ (fun E=>?_);(try simp only[S4,S3])
       refine jn S 4 [4,5,6,7] E (by kernel_rfl) ?_;iterate 4(refine iu rfl (by rfl) (fun w' o=>by try simp only[S3];have ad:=(o.2.1).all;have ae:=(o.1).cell (j:=37) (v:= .slice (some J) s.du.n s.du.c) (by rw[←U];rfl);have ay:=mX w' lY lZ kv (mY _) V k D (o.2.2.2.1) _ _ an _ aw;go_simp;try rfl) ?_;try simp only[S4,S3])
       refine il ?_;refine iD 8 rfl (by kernel_rfl) fun K T=>?_;(try simp only[S3])
       go_simp;refine hE (aB _) ?_;refine T.out _ _ E (fun E=>?_);(try simp only[S4,S3])
       refine jn S 34 (i' 9 34 []) E (by kernel_rfl) ?_;iterate 34((first|(refine k3 0 [.int .i64 G,.int .i64 O,.int .u64 0] (fun w' o=>(o.2.2.1)) (by kernel_rfl) nF (by kernel_rfl) rfl (by rfl) rfl rfl rfl ?_)|(refine iu rfl (by rfl) (fun w' o=>by try simp only[S3];have ad:=(o.2.1).all;have ae:=(o.1).cell (j:=37) (v:= .slice (some J) s.du.n s.du.c) (by rw[←U];rfl);have ay:=mX w' lY lZ kv (mY _) V k D (o.2.2.2.1) _ _ an _ aw;go_simp;try rfl) ?_)|(refine oe rfl (by rfl) ?_));try simp only[S4,S3])
       refine il ?_;clear E;refine wpAnyH_done (by kernel_rfl) ?_ _;have aa:=hJ ai A;obtain⟨ah,af,aF⟩:=hs (X.to A) (I.to A) (Y.to A);have aG:=lr Z A;have ax:=ak.trans (A.mono ak.size);clear A;go_wp2;go_ret;exact⟨false,by rfl,aa,(fun h=>by cases h),(fun _ h=>absurd h aC)⟩
      case false=>
       by_cases bQ:k=0
       ·have ce:decide (0<k)=false:=by simp;omega
        clear bQ;have aP:=I.all;refine j8 (fun w'=>ha w' w.heap.size 166 s.cs∧ha w' wr.heap.size 57 (#[.int .i64 G,.int .i64 O,.int .u64 Q])∧ha w' al.heap.size 57 (#[.int .i64 G,.int .i64 O,.int .u64 0])∧w'.ownsMap prog 57 (plainElem (H:=Unit) prog 4) V k D∧Below R.heap.size R w') (by kernel_rfl) (by rintro _ _ (_|_) _ _ h<;>exact h) (⟨X.drew,I.drew,Y.drew,Z,hM⟩) fun S E=>?_;refine jn S 3 [0,1,2] E (by kernel_rfl) ?_;iterate 3((first|(refine k3 0 (s.cs).toList (fun w' o=>(o.1)) (by kernel_rfl) iZ (by kernel_rfl) rfl (by rfl) rfl rfl rfl ?_)|(refine iu rfl (by rfl) (fun w' o=>by try simp only[S3];have ad:=(o.2.1).all;have ae:=(o.1).cell (j:=37) (v:= .slice (some J) s.du.n s.du.c) (by rw[←U];rfl);have ay:=mX w' lY lZ kv (mY _) V k D (o.2.2.2.1) _ _ an _ aw;go_simp;try rfl) ?_));try simp only[S4,S3])
        refine il ?_;refine iD 3 rfl (by kernel_rfl) fun K T=>?_;(try simp only[S3])
        go_simp;refine hI (ar _) fun ag F=>?_;have A:Below R.heap.size R ag:=hJ (E.2.2.2.2) F;clear F;refine T.out _ _ ⟨X.to A,I.to A,Y.to A,lr Z A,A⟩ (fun E=>?_);(try simp only[S4,S3])
        refine jn S 4 [4,5,6,7] E (by kernel_rfl) ?_;iterate 4(refine iu rfl (by rfl) (fun w' o=>by try simp only[S3];have ad:=(o.2.1).all;have ae:=(o.1).cell (j:=37) (v:= .slice (some J) s.du.n s.du.c) (by rw[←U];rfl);have ay:=mX w' lY lZ kv (mY _) V k D (o.2.2.2.1) _ _ an _ aw;go_simp;try rfl) ?_;try simp only[S4,S3])
        refine il ?_;refine iD 8 rfl (by kernel_rfl) fun K T=>?_;(try simp only[S3])
        go_simp;refine hE (aB _) ?_;refine T.out _ _ E (fun E=>?_);(try simp only[S4,S3])
        refine jn S 34 (i' 9 34 []) E (by kernel_rfl) ?_;iterate 34((first|(refine k3 0 [.int .i64 G,.int .i64 O,.int .u64 0] (fun w' o=>(o.2.2.1)) (by kernel_rfl) nF (by kernel_rfl) rfl (by rfl) rfl rfl rfl ?_)|(refine iu rfl (by rfl) (fun w' o=>by try simp only[S3];have ad:=(o.2.1).all;have ae:=(o.1).cell (j:=37) (v:= .slice (some J) s.du.n s.du.c) (by rw[←U];rfl);have ay:=mX w' lY lZ kv (mY _) V k D (o.2.2.2.1) _ _ an _ aw;go_simp;try rfl) ?_)|(refine oe rfl (by rfl) ?_));try simp only[S4,S3])
        refine il ?_;clear E;refine wpAnyH_done (by kernel_rfl) ?_ _;have aa:=hJ ai A;obtain⟨ah,af,aF⟩:=hs (X.to A) (I.to A) (Y.to A);have aG:=lr Z A;have ax:=ak.trans (A.mono ak.size);clear A;go_wp2_with (first|(refine hR aF nF (by kernel_rfl) rfl rfl rfl rfl ?_)|(at_mapUpdate;refine wpList_mapUpdate_own _ rfl _ _ _ 227 rfl 57 4 lY lZ _ V k _ rfl aG (by unfold maxLen;omega) _ _ _ rfl rfl an (.lit (.bool true)) [] (plainElem_bool kv true) ?_;intro cf bo bp));exact⟨⟨k+1,_,by go_num,by omega,ax.grown bp ax.size (fun j az=>by cases az;omega),bo,bL⟩,by simp[intOf];omega⟩
       have ce:decide (0<k)=true:=by simp;omega
       obtain⟨j,cg⟩:=hk (k-1);have bR:j<s.du.n:=by omega
       have cw:IntKind.i64.wrap ((k:Int) -1)=(j:Int):=(IntWalk.i64_in _ (by omega)).trans (by omega);obtain⟨ch,bS⟩:∃d,c.du[j]?=some d:=⟨_,iB (by rw[br.out];exact bR)⟩;obtain⟨bq,bT⟩:=hk ch.ti;have aT:=g' (fun(W:World) (ci:Below w.heap.size w W)=>show W.cell? ⟨(J.add (j*3)).block,(J.add (j*3)).off+1,none⟩=some (.int .i64 bq)from by
        obtain⟨cx,bU,_,cj⟩:=(bz W ci).cell Du.len bR bS (by omega);rw[U]at bU;cases bU;rw[bT];exact cj 1 _ rfl)
       obtain⟨g,bV⟩:=hk (decide (O<bq));have cy:decide (O<bq)=g:=bV.symm;clear cg bS bT bV bQ;cases g
       case true=>
        have aP:=I.all;refine j8 (fun w'=>ha w' w.heap.size 166 s.cs∧ha w' wr.heap.size 57 (#[.int .i64 G,.int .i64 O,.int .u64 Q])∧ha w' al.heap.size 57 (#[.int .i64 G,.int .i64 O,.int .u64 0])∧w'.ownsMap prog 57 (plainElem (H:=Unit) prog 4) V k D∧Below R.heap.size R w') (by kernel_rfl) (by rintro _ _ (_|_) _ _ h<;>exact h) (⟨X.drew,I.drew,Y.drew,Z,hM⟩) fun S E=>?_;refine jn S 3 [0,1,2] E (by kernel_rfl) ?_;iterate 3((first|(refine k3 0 (s.cs).toList (fun w' o=>(o.1)) (by kernel_rfl) iZ (by kernel_rfl) rfl (by rfl) rfl rfl rfl ?_)|(refine iu rfl (by rfl) (fun w' o=>by try simp only[S3];have ad:=(o.2.1).all;have ae:=(o.1).cell (j:=37) (v:= .slice (some J) s.du.n s.du.c) (by rw[←U];rfl);have ay:=mX w' lY lZ kv (mY _) V k D (o.2.2.2.1) _ _ an _ aw;have aZ:=aT.out w' (ai.trans ((o.2.2.2.2).mono ai.size));go_simp;try rfl) ?_));try simp only[S4,S3])
        refine il ?_;refine iD 3 rfl (by kernel_rfl) fun K T=>?_;(try simp only[S3])
        go_simp;refine hI (ar _) fun ag F=>?_;have A:Below R.heap.size R ag:=hJ (E.2.2.2.2) F;clear F;refine T.out _ _ ⟨X.to A,I.to A,Y.to A,lr Z A,A⟩ (fun E=>?_);(try simp only[S4,S3])
        refine jn S 4 [4,5,6,7] E (by kernel_rfl) ?_;iterate 4(refine iu rfl (by rfl) (fun w' o=>by try simp only[S3];have ad:=(o.2.1).all;have ae:=(o.1).cell (j:=37) (v:= .slice (some J) s.du.n s.du.c) (by rw[←U];rfl);have ay:=mX w' lY lZ kv (mY _) V k D (o.2.2.2.1) _ _ an _ aw;have aZ:=aT.out w' (ai.trans ((o.2.2.2.2).mono ai.size));go_simp;try rfl) ?_;try simp only[S4,S3])
        refine il ?_;refine iD 8 rfl (by kernel_rfl) fun K T=>?_;(try simp only[S3])
        go_simp;refine hE (aB _) ?_;refine T.out _ _ E (fun E=>?_);(try simp only[S4,S3])
        refine jn S 34 (i' 9 34 []) E (by kernel_rfl) ?_;iterate 34((first|(refine k3 0 [.int .i64 G,.int .i64 O,.int .u64 0] (fun w' o=>(o.2.2.1)) (by kernel_rfl) nF (by kernel_rfl) rfl (by rfl) rfl rfl rfl ?_)|(refine iu rfl (by rfl) (fun w' o=>by try simp only[S3];have ad:=(o.2.1).all;have ae:=(o.1).cell (j:=37) (v:= .slice (some J) s.du.n s.du.c) (by rw[←U];rfl);have ay:=mX w' lY lZ kv (mY _) V k D (o.2.2.2.1) _ _ an _ aw;have aZ:=aT.out w' (ai.trans ((o.2.2.2.2).mono ai.size));go_simp;try rfl) ?_));try simp only[S4,S3])
        refine il ?_;clear E;refine wpAnyH_done (by kernel_rfl) ?_ _;have aa:=hJ ai A;obtain⟨ah,af,aF⟩:=hs (X.to A) (I.to A) (Y.to A);have aG:=lr Z A;have ax:=ak.trans (A.mono ak.size);clear A;go_wp2;go_ret;exact⟨false,by rfl,aa,(fun h=>by cases h),(fun _ h=>absurd h aC)⟩
       case false=>
        have aP:=I.all;refine j8 (fun w'=>ha w' w.heap.size 166 s.cs∧ha w' wr.heap.size 57 (#[.int .i64 G,.int .i64 O,.int .u64 Q])∧ha w' al.heap.size 57 (#[.int .i64 G,.int .i64 O,.int .u64 0])∧w'.ownsMap prog 57 (plainElem (H:=Unit) prog 4) V k D∧Below R.heap.size R w') (by kernel_rfl) (by rintro _ _ (_|_) _ _ h<;>exact h) (⟨X.drew,I.drew,Y.drew,Z,hM⟩) fun S E=>?_;refine jn S 3 [0,1,2] E (by kernel_rfl) ?_;iterate 3((first|(refine k3 0 (s.cs).toList (fun w' o=>(o.1)) (by kernel_rfl) iZ (by kernel_rfl) rfl (by rfl) rfl rfl rfl ?_)|(refine iu rfl (by rfl) (fun w' o=>by try simp only[S3];have ad:=(o.2.1).all;have ae:=(o.1).cell (j:=37) (v:= .slice (some J) s.du.n s.du.c) (by rw[←U];rfl);have ay:=mX w' lY lZ kv (mY _) V k D (o.2.2.2.1) _ _ an _ aw;have aZ:=aT.out w' (ai.trans ((o.2.2.2.2).mono ai.size));go_simp;try rfl) ?_));try simp only[S4,S3])
        refine il ?_;refine iD 3 rfl (by kernel_rfl) fun K T=>?_;(try simp only[S3])
        go_simp;refine hI (ar _) fun ag F=>?_;have A:Below R.heap.size R ag:=hJ (E.2.2.2.2) F;clear F;refine T.out _ _ ⟨X.to A,I.to A,Y.to A,lr Z A,A⟩ (fun E=>?_);(try simp only[S4,S3])
        refine jn S 4 [4,5,6,7] E (by kernel_rfl) ?_;iterate 4(refine iu rfl (by rfl) (fun w' o=>by try simp only[S3];have ad:=(o.2.1).all;have ae:=(o.1).cell (j:=37) (v:= .slice (some J) s.du.n s.du.c) (by rw[←U];rfl);have ay:=mX w' lY lZ kv (mY _) V k D (o.2.2.2.1) _ _ an _ aw;have aZ:=aT.out w' (ai.trans ((o.2.2.2.2).mono ai.size));go_simp;try rfl) ?_;try simp only[S4,S3])
        refine il ?_;refine iD 8 rfl (by kernel_rfl) fun K T=>?_;(try simp only[S3])
        go_simp;refine hE (aB _) ?_;refine T.out _ _ E (fun E=>?_);(try simp only[S4,S3])
        refine jn S 34 (i' 9 34 []) E (by kernel_rfl) ?_;iterate 34((first|(refine k3 0 [.int .i64 G,.int .i64 O,.int .u64 0] (fun w' o=>(o.2.2.1)) (by kernel_rfl) nF (by kernel_rfl) rfl (by rfl) rfl rfl rfl ?_)|(refine iu rfl (by rfl) (fun w' o=>by try simp only[S3];have ad:=(o.2.1).all;have ae:=(o.1).cell (j:=37) (v:= .slice (some J) s.du.n s.du.c) (by rw[←U];rfl);have ay:=mX w' lY lZ kv (mY _) V k D (o.2.2.2.1) _ _ an _ aw;have aZ:=aT.out w' (ai.trans ((o.2.2.2.2).mono ai.size));go_simp;try rfl) ?_));try simp only[S4,S3])
        refine il ?_;clear E;refine wpAnyH_done (by kernel_rfl) ?_ _;have aa:=hJ ai A;obtain⟨ah,af,aF⟩:=hs (X.to A) (I.to A) (Y.to A);have aG:=lr Z A;have ax:=ak.trans (A.mono ak.size);clear A;go_wp2_with (first|(refine hR aF nF (by kernel_rfl) rfl rfl rfl rfl ?_)|(at_mapUpdate;refine wpList_mapUpdate_own _ rfl _ _ _ 227 rfl 57 4 lY lZ _ V k _ rfl aG (by unfold maxLen;omega) _ _ _ rfl rfl an (.lit (.bool true)) [] (plainElem_bool kv true) ?_;intro cf bo bp));exact⟨⟨k+1,_,by go_num,by omega,ax.grown bp ax.size (fun j az=>by cases az;omega),bo,bL⟩,by simp[intOf];omega⟩
   have a2:decide (k<s.du.n)=false:=by simpa using aE
   obtain rfl:k=s.du.n:=by omega
   go_wp2;go_ret;exact⟨true,by rfl,bk,(fun _=>b9),(fun _ _=>rfl)⟩
structure jE (s:hA) (c:hl):Prop where
 hX:s.hX<18446744073709551616
 gen:s.gen<18446744073709551616
 hO:s.hO<18446744073709551616
 h7:s.h7<18446744073709551616
 hN:s.hN<18446744073709551616
 ms:∀m∈c.ms,my m
 ds:∀d∈c.ds,d.am<18446744073709551616
 du:∀d∈c.du,d.am<18446744073709551616
 di:∀d∈c.du,(-9223372036854775808≤d.ac∧d.ac≤9223372036854775807)∧(-9223372036854775808≤d.ti∧d.ti≤9223372036854775807)
 mo:∀m∈c.mo,m.yh.n≤1000000∧m.nh.n≤1000000
 rs:∀i,i<s.ri.n→(hq.ro c.rs i).length≤1000000
 pn:s.pu.n≤300000
 mn:s.me.n≤300000
 uJ:s.po.n≤400000
 s9:s.du.n≤400000
 uK:s.mo.n≤1000000
 yk:s.ma.n≤1000000
def mA(s:hA)(c:hl):hC.St:=⟨s.cs,s.hX,s.gen,s.hO,s.h7,s.hN,s.pu.A,s.pu.n,s.pu.c,c.us,s.me.A,s.me.n,s.me.c,c.ms,s.po.A,s.po.n,s.po.c,c.ds,s.du.A,s.du.n,s.du.c,c.du⟩
theorem EB{s:hA}{c:hl}(o:jE s c):(mA s c).Ok:=by
 refine⟨rfl,rfl,rfl,rfl,rfl,rfl,rfl,rfl,rfl,rfl,o.hX,o.gen,o.hO,o.h7,o.hN,?_,?_,?_⟩
 ·intro u r
  obtain⟨m,z,rfl⟩:=List.mem_map.1 r;exact(o.ms m z).hD
 ·intro u r
  obtain⟨m,z,rfl⟩:=List.mem_map.1 r;exact o.ds m z
 intro u r;obtain⟨m,z,rfl⟩:=List.mem_map.1 r;exact o.du m z
theorem EC{s:hA}{c:hl}(h:Lay s c w L):(mA s c).At w L:=⟨h.pu,h.me,h.po,h.du⟩
theorem ED{s:hA}{c:hl}(o:jE s c):(mA s c).ow:=⟨o.pn,o.mn,o.uJ,o.s9⟩
def mZ(s:hA)(c:hl):Bool:=iG s.p&&(decide (0≤s.ep∧s.ep≤1073741824)&&(decide (0≤s.calm∧s.calm≤1073741824)&&(qO s.pu.n c.us&&pC s c)))
noncomputable def mB(s:hA)(c:hl):Bool:=oN s c&&(p7 s c&&hC.o9 (mA s c))
theorem ym(s:hA)(c:hl)(w:World)(h:Lay s c w w.heap.size)(aC:s.Ok)(R:jE s c):
 Calls prog 59 #[.agg s.cs] w fun e w'=>∃b:Bool,e= .returned (.bool b)∧Below w.heap.size w w'∧(b=true→mZ s c=true∧rV s c∧mB s c=true)∧(mZ s c=true→c.ds=[]→c.du=[]→mB s c=true→b=true):=by
 have a6:=R.pn;have a7:=R.mn;have a8:=R.uJ;have a9:=R.s9;have ad:=fun(W:World) (K:Below w.heap.size w W)=>(h.below K).more K.size;obtain⟨aD,au⟩:=hk (iG s.p);have Z:=g' (fun W=>k4 s.p W (if aD=true then 0 else 70) (by rw[au];rfl));obtain⟨aE,aF⟩:=hk (decide (0≤s.ep∧s.ep≤1073741824));have ae:=g' (fun W=>pj s.ep 0 1073741824 aE aF W);obtain⟨aG,aH⟩:=hk (decide (0≤s.calm∧s.calm≤1073741824));have am:=g' (fun W=>pj s.calm 0 1073741824 aG aH W);obtain⟨aI,aJ⟩:=hk (qO s.pu.n c.us);have ap:=g' (fun(W:World) (K:Below w.heap.size w W)=>Eo s c.us W (ad W K).pu (by omega) aI aJ);obtain⟨aK,aL⟩:=hk (pC s c);obtain⟨av,aM⟩:=hg (fun(a':iG s.p=true) (W:World) (K:Below w.heap.size w W)=>Ep s c W (ad W K) aC a' R.ms (by omega) (by omega) aK aL) (fun(W:World) (K:Below w.heap.size w W)=>show Calls prog 98 #[.agg s.cs] W (fun e w'=>∃b:Bool,e= .returned (.bool b)∧((b=true→rV s c)∧(c.ds=[]→c.du=[]→b=true))∧Below W.heap.size W w')from(EA s c W (ad W K) (by omega) (by omega) (by omega) (by omega) R.di).mono fun e w' h=>by obtain⟨b,af,A,ba⟩:=h;exact⟨b,af,ba,A⟩);obtain⟨aN,aO⟩:=hk (oN s c);have aP:=g' (fun(W:World) (K:Below w.heap.size w W)=>Er s c W (ad W K) aC R.mo R.uK (by omega) aN aO);obtain⟨aQ,aR⟩:=hk (p7 s c);have aW:=g' (fun(W:World) (K:Below w.heap.size w W)=>Et s c W (ad W K) R.rs R.yk (by omega) aQ aR);obtain⟨aS,aT⟩:=hk (hC.o9 (mA s c));obtain⟨bb,an,aw,ax⟩:=h5 (fun(W:World) (K:Below w.heap.size w W)=>hC.BB (mA s c) (EB R) W (EC (ad W K)) (ED R) aS aT) (show mZ s c=(aD&&(aE&&(aG&&(aI&&aK)))) by unfold mZ;rw[←au,←aF,←aH,←aJ,←aL]) (show mB s c=(aN&&(aQ&&aS)) by unfold mB;rw[←aO,←aR,←aT]) au;clear au aF aH aJ aL aO aR aT ad a6 a7 a8 a9;obtain⟨be,aX,aY,aZ⟩:=iF w s.cs 46;obtain⟨a0,bc⟩:=hg aZ aX;clear aX aZ h R aC;go_enter func59,ntmps59;go_upto_region 1 with(fail)
 rw[bc.out];go_upto_region 2 with(first|(refine hR a0 iX (j4 _) rfl rfl rfl rfl ?_)|(refine wpList_build rfl 166 #[(0,.tmp 4)] rfl (.agg s.cs) (fun w'=>by kernel_rfl) ?_)|(refine jD rfl 166 (.tmp 3) (.tmp 5) rfl s.cs rfl rfl (jm _) rfl (ln _) ?_;intro bf a1 aU _))
 have aa:=aY.trans (aU.mono aY.size);obtain⟨r,ab⟩:=hg (a0.to aU) a1;clear a1 aU;cases aD
 ·have ag:=r.all
  go_wp2_with (first|(refine mb 0 ((s.p.cs).toList) r rfl hQ rfl rfl rfl rfl rfl ?_));refine hI (Z _) fun ah o=>?_;have D:=hJ aa o;obtain⟨E,G⟩:=hg (r.to o) (ab.to o);clear o;have ai:=E.all;go_wp2;go_ret;exact⟨false,by rfl,D,(fun h=>by cases h),(fun h _ _ _=>by have A:=h.symm.trans an;simp at A)⟩
 cases aE
 ·have ag:=r.all
  go_wp2_with (first|(refine mb 0 ((s.p.cs).toList) r rfl hQ rfl rfl rfl rfl rfl ?_));refine hI (Z _) fun ah o=>?_;have D:=hJ aa o;obtain⟨E,G⟩:=hg (r.to o) (ab.to o);clear o;have ai:=E.all;go_wp2_with fail;refine hE (ae _) ?_;go_wp2;go_ret;exact⟨false,by rfl,D,(fun h=>by cases h),(fun h _ _ _=>by have A:=h.symm.trans an;simp at A)⟩
 cases aG
 ·have ag:=r.all
  go_wp2_with (first|(refine mb 0 ((s.p.cs).toList) r rfl hQ rfl rfl rfl rfl rfl ?_));refine hI (Z _) fun ah o=>?_;have D:=hJ aa o;obtain⟨E,G⟩:=hg (r.to o) (ab.to o);clear o;have ai:=E.all;go_wp2_with fail;refine hE (ae _) ?_;go_wp2_with fail;refine hE (am _) ?_;go_wp2;go_ret;exact⟨false,by rfl,D,(fun h=>by cases h),(fun h _ _ _=>by have A:=h.symm.trans an;simp at A)⟩
 cases aI
 ·have ag:=r.all
  go_wp2_with (first|(refine mb 0 ((s.p.cs).toList) r rfl hQ rfl rfl rfl rfl rfl ?_));refine hI (Z _) fun ah o=>?_;have D:=hJ aa o;obtain⟨E,G⟩:=hg (r.to o) (ab.to o);clear o;have ai:=E.all;go_wp2_with fail;refine hE (ae _) ?_;go_wp2_with fail;refine hE (am _) ?_;go_wp2_with (first|(refine hR G iZ (jm _) rfl rfl rfl rfl ?_));refine hI (ap _ D) fun ay z=>?_;have S:=hJ D z;obtain⟨X,J⟩:=hg (E.to z) (G.to z);clear z;go_wp2_with (first|(refine iv J iZ (jm _) rfl rfl rfl rfl ?_)|(refine iv J iZ (jm _) rfl rfl rfl rfl ?_)|(refine iv J iZ (jm _) rfl rfl rfl rfl ?_)|(refine iv J iZ (jm _) rfl rfl rfl rfl ?_)|(refine iv X iX (j4 _) rfl rfl rfl rfl ?_));go_ret;exact⟨false,by rfl,S,(fun h=>by cases h),(fun h _ _ _=>by have A:=h.symm.trans an;simp at A)⟩
 cases aK
 ·have ag:=r.all
  go_wp2_with (first|(refine mb 0 ((s.p.cs).toList) r rfl hQ rfl rfl rfl rfl rfl ?_));refine hI (Z _) fun ah o=>?_;have D:=hJ aa o;obtain⟨E,G⟩:=hg (r.to o) (ab.to o);clear o;have ai:=E.all;go_wp2_with fail;refine hE (ae _) ?_;go_wp2_with fail;refine hE (am _) ?_;go_wp2_with (first|(refine hR G iZ (jm _) rfl rfl rfl rfl ?_));refine hI (ap _ D) fun ay z=>?_;have S:=hJ D z;obtain⟨X,J⟩:=hg (E.to z) (G.to z);clear z;go_wp2_with (first|(refine iv J iZ (jm _) rfl rfl rfl rfl ?_));refine hI (av ax.symm _ S) fun aV F=>?_;have V:=hJ S F;obtain⟨aj,T⟩:=hg (X.to F) (J.to F);clear F;go_wp2_with (first|(refine iv T iZ (jm _) rfl rfl rfl rfl ?_)|(refine iv T iZ (jm _) rfl rfl rfl rfl ?_)|(refine iv T iZ (jm _) rfl rfl rfl rfl ?_)|(refine iv aj iX (j4 _) rfl rfl rfl rfl ?_));go_ret;exact⟨false,by rfl,V,(fun h=>by cases h),(fun h _ _ _=>by have A:=h.symm.trans an;simp at A)⟩
 cases aN
 ·have ag:=r.all
  go_wp2_with (first|(refine mb 0 ((s.p.cs).toList) r rfl hQ rfl rfl rfl rfl rfl ?_));refine hI (Z _) fun ah o=>?_;have D:=hJ aa o;obtain⟨E,G⟩:=hg (r.to o) (ab.to o);clear o;have ai:=E.all;go_wp2_with fail;refine hE (ae _) ?_;go_wp2_with fail;refine hE (am _) ?_;go_wp2_with (first|(refine hR G iZ (jm _) rfl rfl rfl rfl ?_));refine hI (ap _ D) fun ay z=>?_;have S:=hJ D z;obtain⟨X,J⟩:=hg (E.to z) (G.to z);clear z;go_wp2_with (first|(refine iv J iZ (jm _) rfl rfl rfl rfl ?_));refine hI (av ax.symm _ S) fun aV F=>?_;have V:=hJ S F;obtain⟨aj,T⟩:=hg (X.to F) (J.to F);clear F;go_wp2_with (first|(refine iv T iZ (jm _) rfl rfl rfl rfl ?_));refine(aM _ V).mono ?_;rintro e a2 ⟨aq,rfl,ao,I⟩;have U:=hJ V I;obtain⟨ac,O⟩:=hg (aj.to I) (T.to I);cases aq
  ·clear I
   go_wp2_with (first|(refine iv O iZ (jm _) rfl rfl rfl rfl ?_)|(refine iv O iZ (jm _) rfl rfl rfl rfl ?_)|(refine iv ac iX (j4 _) rfl rfl rfl rfl ?_));go_ret;exact⟨false,by rfl,U,(fun h=>by cases h),(fun _ af A _=>ao.2 af A)⟩
  clear I;go_wp2_with (first|(refine iv O iZ (jm _) rfl rfl rfl rfl ?_));refine hI (aP _ U) fun a3 Q=>?_;have ak:=hJ U Q;obtain⟨ar,al⟩:=hg (ac.to Q) (O.to Q);clear Q;go_wp2_with (first|(refine iv al iZ (jm _) rfl rfl rfl rfl ?_)|(refine iv ar iX (j4 _) rfl rfl rfl rfl ?_));go_ret;exact⟨false,by rfl,ak,(fun h=>by cases h),(fun _ _ _ h=>by have A:=h.symm.trans aw;simp at A)⟩
 cases aQ
 ·have ag:=r.all
  go_wp2_with (first|(refine mb 0 ((s.p.cs).toList) r rfl hQ rfl rfl rfl rfl rfl ?_));refine hI (Z _) fun ah o=>?_;have D:=hJ aa o;obtain⟨E,G⟩:=hg (r.to o) (ab.to o);clear o;have ai:=E.all;go_wp2_with fail;refine hE (ae _) ?_;go_wp2_with fail;refine hE (am _) ?_;go_wp2_with (first|(refine hR G iZ (jm _) rfl rfl rfl rfl ?_));refine hI (ap _ D) fun ay z=>?_;have S:=hJ D z;obtain⟨X,J⟩:=hg (E.to z) (G.to z);clear z;go_wp2_with (first|(refine iv J iZ (jm _) rfl rfl rfl rfl ?_));refine hI (av ax.symm _ S) fun aV F=>?_;have V:=hJ S F;obtain⟨aj,T⟩:=hg (X.to F) (J.to F);clear F;go_wp2_with (first|(refine iv T iZ (jm _) rfl rfl rfl rfl ?_));refine(aM _ V).mono ?_;rintro e a2 ⟨aq,rfl,ao,I⟩;have U:=hJ V I;obtain⟨ac,O⟩:=hg (aj.to I) (T.to I);cases aq
  ·clear I
   go_wp2_with (first|(refine iv O iZ (jm _) rfl rfl rfl rfl ?_)|(refine iv O iZ (jm _) rfl rfl rfl rfl ?_)|(refine iv ac iX (j4 _) rfl rfl rfl rfl ?_));go_ret;exact⟨false,by rfl,U,(fun h=>by cases h),(fun _ af A _=>ao.2 af A)⟩
  clear I;go_wp2_with (first|(refine iv O iZ (jm _) rfl rfl rfl rfl ?_));refine hI (aP _ U) fun a3 Q=>?_;have ak:=hJ U Q;obtain⟨ar,al⟩:=hg (ac.to Q) (O.to Q);clear Q;go_wp2_with (first|(refine iv al iZ (jm _) rfl rfl rfl rfl ?_));refine hI (aW _ ak) fun bd Y=>?_;have az:=hJ ak Y;obtain⟨aA,a4⟩:=hg (ar.to Y) (al.to Y);clear Y;go_wp2_with (first|(refine iv aA iX (j4 _) rfl rfl rfl rfl ?_));go_ret;exact⟨false,by rfl,az,(fun h=>by cases h),(fun _ _ _ h=>by have A:=h.symm.trans aw;simp at A)⟩
 cases aS;rotate_left;rotate_left;all_goals
  have ag:=r.all;go_wp2_with (first|(refine mb 0 ((s.p.cs).toList) r rfl hQ rfl rfl rfl rfl rfl ?_));refine hI (Z _) fun ah o=>?_;have D:=hJ aa o;obtain⟨E,G⟩:=hg (r.to o) (ab.to o);clear o;have ai:=E.all;go_wp2_with fail;refine hE (ae _) ?_;go_wp2_with fail;refine hE (am _) ?_;go_wp2_with (first|(refine hR G iZ (jm _) rfl rfl rfl rfl ?_));refine hI (ap _ D) fun ay z=>?_;have S:=hJ D z;obtain⟨X,J⟩:=hg (E.to z) (G.to z);clear z;go_wp2_with (first|(refine iv J iZ (jm _) rfl rfl rfl rfl ?_));refine hI (av ax.symm _ S) fun aV F=>?_;have V:=hJ S F;obtain⟨aj,T⟩:=hg (X.to F) (J.to F);clear F;go_wp2_with (first|(refine iv T iZ (jm _) rfl rfl rfl rfl ?_));refine(aM _ V).mono ?_;rintro e a2 ⟨aq,rfl,ao,I⟩;have U:=hJ V I;obtain⟨ac,O⟩:=hg (aj.to I) (T.to I);cases aq
  ·clear I
   go_wp2_with (first|(refine iv O iZ (jm _) rfl rfl rfl rfl ?_)|(refine iv O iZ (jm _) rfl rfl rfl rfl ?_)|(refine iv ac iX (j4 _) rfl rfl rfl rfl ?_));go_ret;exact⟨false,by rfl,U,(fun h=>by cases h),(fun _ af A _=>ao.2 af A)⟩
  clear I;go_wp2_with (first|(refine iv O iZ (jm _) rfl rfl rfl rfl ?_));refine hI (aP _ U) fun a3 Q=>?_;have ak:=hJ U Q;obtain⟨ar,al⟩:=hg (ac.to Q) (O.to Q);clear Q;go_wp2_with (first|(refine iv al iZ (jm _) rfl rfl rfl rfl ?_));refine hI (aW _ ak) fun bd Y=>?_;have az:=hJ ak Y;obtain⟨aA,a4⟩:=hg (ar.to Y) (al.to Y);clear Y;go_wp2_with (first|(refine iv aA iX (j4 _) rfl rfl rfl rfl ?_));refine hI (bb _ az) fun bg aB=>?_;have a5:=hJ az aB;obtain⟨bh,bi⟩:=hg (aA.to aB) (a4.to aB);clear aB;go_wp2;go_ret
 ·exact⟨false,by rfl,a5,(fun h=>by cases h),(fun _ _ _ h=>by have A:=h.symm.trans aw;simp at A)⟩
 exact⟨true,by rfl,a5,(fun _=>⟨an.trans rfl,ao.1 (by trivial),aw.trans rfl⟩),(fun _ _ _ _=>rfl)⟩
end hB
end Go.Proofs.YtffbipddbnkdjaaGreat
