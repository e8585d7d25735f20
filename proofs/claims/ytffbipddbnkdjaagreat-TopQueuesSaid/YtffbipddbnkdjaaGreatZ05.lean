/- What functions compute at any arguments, and plain facts: Score, second part; Score, third part; Score, fourth part; Plain arithmetic: the whole root of a number, and what makes it one and others. Conditions: those that each theorem names. -/
import Derived.Test.YtffbipddbnkdjaaGreatZ04
import Derived.ChangeSame
import Derived.Deep.Fields
import Derived.Deep.Slices
import Derived.ProofKit
set_option maxRecDepth 100000
set_option maxHeartbeats 40000000
set_option linter.all false
open Go Go.Proofs.Tryz
open Go.Value(int)
open Go.IntKind(i64 u64)
variable{A T:Option Addr}{n g b L k B i x a m j q c p s r d h u N y:Nat}{E z:Int}{P:Program}{w W X Z:World}{e t:TypeId}{f:Nat→Value}{l:List Bool}{V U:Value}{Y:List Nat}{S:List Value}{R:List Int}{Q:Array Value}{O:List (List Nat)}{M:Bool}{K:Ending}{J:Addr}{I:Nat→Nat}{H:Option Nat}
namespace Go.Proofs.YtffbipddbnkdjaaGreat
namespace hB
open RowKit
open hG hf
def ny(p:hx)(s:Std):Std:=⟨s.hD,s.hP,s.h9-p.recover,max 0 (min (min (max s.str 0) (p.ic-1)+1) p.ic)⟩
theorem A0(p:hx)(ae:0≤p.ic∧p.ic≤64)(af:p.recover<18446744073709551616)(s:Std)(ag:s.jE)(g:Nat)(w:World)(ah:ha w g 239 (ir s p)):
 Calls prog 171 #[.pointer (some ⟨g,0,none⟩)] w fun e w'=>e= .returned (.tuple #[])∧ha w' g 239 (ir (ny p s) p)∧hn g w w':=by
 have ai:=g' ah;clear ah;obtain⟨F,G,z,I⟩:=s;have aj:z<18446744073709551616:=ag.h9;clear ag;obtain⟨r,U⟩:=hk (z-p.recover);obtain⟨ak,al⟩:=hg (fun W=>tU z p.recover aj af W r U) U;clear U af aj;obtain⟨k,V⟩:=hk (p.ic-1);have ar:i64.wrap (p.ic-1)=k:=(IntWalk.i64_in _ (by omega)).trans V.symm;by_cases am:p.ic=0;focus
  have R:i64.wrap (k+1)=0:=(IntWalk.i64_in _ (by omega)).trans (by omega);have ap:¬p.ic<0:=by omega
  by_cases aq:I<0;focus
   have X:k<0:=by omega
  rotate_left;focus
   have X:k<I:=by omega
  all_goals
   have an:=g' (show ir (ny p ⟨F,G,z,I⟩) p=ir ⟨F,G,r,0⟩ p by rw[al.out];unfold ny;congr 2;simp only;omega);clear V ae am;go_enter func171,ntmps171;go_upto_region 0 with(fail)
   refine gZ.pY (fun w'=>ha w' g 239 (ir ⟨F,G,z,I⟩ p)∧hn g w w') 18 (by kernel_rfl) (⟨ai.out.drew,lj (hn.refl _ _)⟩) (fun o=>?_);refine gZ.ot [(0,[]),(1,[]),(2,[]),(3,[]),(4,[]),(5,[]),(6,[]),(7,[]),(8,[]),(9,[]),(10,[]),(11,[]),(12,[]),(13,[]),(14,[]),(15,[17,16]),(16,[17]),(17,[])] 18 rfl o (by kernel_rfl) (by rintro _ _ (_|_) _ _ h<;>exact h) (by kernel_rfl) ?_;iterate 18(refine od ?_ rfl (by rfl) (fun w' A=>?_) ?_;rotate_left;(focus ((try simp only[S3]);have Y:=A.1.cell (j:=3) (v:=int i64 I) rfl;have Z:=A.1.cell (j:=19) (v:=int i64 p.ic) rfl;go_simp;try rfl));try simp only[S4,S3])
   refine il ?_;have O:=o.1.cell (j:=3) (v:=int i64 I) rfl;have Q:=o.1.frozen 3;have D:ha ((w.setCell ⟨g,3,none⟩ (int i64 (0))).drew) g 239 ((ir ⟨F,G,z,I⟩ p).setIfInBounds 3 (int i64 (0))):=o.1.set 3 _;have J:hn g w ((w.setCell ⟨g,3,none⟩ (int i64 (0))).drew):=o.2.setCell (p:=⟨g,3,none⟩) (.inl rfl) _;refine gZ.lh rfl (by kernel_rfl) (fun K E=>?_);(try simp only[S3])
   go_simp;refine E.out _ _ ?_;clear E K o;clear O Q;refine wpAny_done (by kernel_rfl) ?_ _;generalize(w.setCell ⟨g,3,none⟩ (int i64 (0))).drew=S at D J⊢;have aa:=g' D;clear D;go_upto_region 1 with(fail)
   refine gZ.pY (fun w'=>ha w' g 239 (ir ⟨F,G,z,0⟩ p)∧hn g w w') 16 (by kernel_rfl) (⟨aa.out.drew,lj J⟩) (fun o=>?_);refine gZ.ot [(0,[]),(1,[]),(2,[]),(3,[]),(4,[]),(5,[]),(6,[]),(7,[]),(8,[]),(9,[]),(10,[]),(11,[]),(12,[]),(13,[15,14]),(14,[15]),(15,[])] 16 rfl o (by kernel_rfl) (by rintro _ _ (_|_) _ _ h<;>exact h) (by kernel_rfl) ?_;iterate 16(refine od ?_ rfl (by rfl) (fun w' A=>?_) ?_;rotate_left;(focus ((try simp only[S3]);have Y:=A.1.cell (j:=3) (v:=int i64 (0)) rfl;have Z:=A.1.cell (j:=19) (v:=int i64 p.ic) rfl;go_simp;try rfl));try simp only[S4,S3])
   refine il ?_;have O:=o.1.cell (j:=3) (v:=int i64 (0)) rfl;have Q:=o.1.frozen 3;have D:ha ((S.setCell ⟨g,3,none⟩ (int i64 (0))).drew) g 239 ((ir ⟨F,G,z,0⟩ p).setIfInBounds 3 (int i64 (0))):=o.1.set 3 _;have J:hn g w ((S.setCell ⟨g,3,none⟩ (int i64 (0))).drew):=o.2.setCell (p:=⟨g,3,none⟩) (.inl rfl) _;refine gZ.lh rfl (by kernel_rfl) (fun K E=>?_);(try simp only[S3])
   go_simp;refine E.out _ _ ?_;clear E K o;clear O Q;refine wpAny_done (by kernel_rfl) ?_ _;generalize(S.setCell ⟨g,3,none⟩ (int i64 (0))).drew=T at D J⊢;have ab:=g' D;clear D;go_upto_region 2 with(fail)
   refine gZ.pY (fun w'=>ha w' g 239 (ir ⟨F,G,z,0⟩ p)∧hn g w w') 15 (by kernel_rfl) (⟨ab.out.drew,lj J⟩) (fun o=>?_);refine gZ.ot [(0,[]),(1,[]),(2,[]),(3,[]),(4,[]),(5,[]),(6,[]),(7,[]),(8,[]),(9,[]),(10,[])] 11 rfl o (by kernel_rfl) (by rintro _ _ (_|_) _ _ h<;>exact h) (by kernel_rfl) ?_;iterate 11(refine od ?_ rfl (by rfl) (fun w' A=>?_) ?_;rotate_left;(focus ((try simp only[S3]);have ac:=A.1.cell (j:=2) (v:=int u64 z) rfl;have ad:=A.1.cell (j:=14) (v:=int u64 p.recover) rfl;go_simp;try rfl));try simp only[S4,S3])
   refine il ?_;refine gZ.sy 11 rfl (by kernel_rfl) (by rfl) (fun K E=>?_);(try simp only[S3])
   go_simp;refine(ak _).mono ?_;rintro e w' ⟨rfl,rfl⟩;refine E.out _ _ o (fun o=>?_);(try simp only[S4,S3])
   refine gZ.ot [(12,[14,13]),(13,[14]),(14,[])] 3 rfl o (by kernel_rfl) (by rintro _ _ (_|_) _ _ h<;>exact h) (by kernel_rfl) ?_;iterate 3(refine od ?_ rfl (by rfl) (fun w' A=>?_) ?_;rotate_left;(focus ((try simp only[S3]);have ac:=A.1.cell (j:=2) (v:=int u64 z) rfl;have ad:=A.1.cell (j:=14) (v:=int u64 p.recover) rfl;go_simp;try rfl));try simp only[S4,S3])
   refine il ?_;have O:=o.1.cell (j:=2) (v:=int u64 z) rfl;have Q:=o.1.frozen 2;have D:ha ((T.setCell ⟨g,2,none⟩ (int u64 r)).drew) g 239 ((ir ⟨F,G,z,0⟩ p).setIfInBounds 2 (int u64 r)):=o.1.set 2 _
 rotate_left 2;focus
  by_cases aq:I<0;focus
   have X:¬k<0:=by omega
   obtain⟨v,R⟩:∃v:Int,v=1:=⟨_,rfl⟩;have ao:i64.wrap 1=v:=(IntWalk.i64_in _ (by omega)).trans R.symm
  rotate_left;focus
   by_cases X:k<I;focus
    obtain⟨v,R⟩:=hk (k+1);have ao:i64.wrap (k+1)=v:=(IntWalk.i64_in _ (by omega)).trans R.symm
   rotate_left;focus
    obtain⟨v,R⟩:=hk (I+1);have ao:i64.wrap (I+1)=v:=(IntWalk.i64_in _ (by omega)).trans R.symm
  all_goals
   have ap:¬p.ic<v:=by omega
   have au:0<v:=by omega
   have an:=g' (show ir (ny p ⟨F,G,z,I⟩) p=ir ⟨F,G,r,v⟩ p by rw[al.out];unfold ny;congr 2;simp only;omega);clear V ae am R;go_enter func171,ntmps171;go_upto_region 0 with(fail)
   refine gZ.pY (fun w'=>ha w' g 239 (ir ⟨F,G,z,I⟩ p)∧hn g w w') 18 (by kernel_rfl) (⟨ai.out.drew,lj (hn.refl _ _)⟩) (fun o=>?_);refine gZ.ot [(0,[]),(1,[]),(2,[]),(3,[]),(4,[]),(5,[]),(6,[]),(7,[]),(8,[]),(9,[]),(10,[]),(11,[]),(12,[]),(13,[]),(14,[]),(15,[17,16]),(16,[17]),(17,[])] 18 rfl o (by kernel_rfl) (by rintro _ _ (_|_) _ _ h<;>exact h) (by kernel_rfl) ?_;iterate 18(refine od ?_ rfl (by rfl) (fun w' A=>?_) ?_;rotate_left;(focus ((try simp only[S3]);have Y:=A.1.cell (j:=3) (v:=int i64 I) rfl;have Z:=A.1.cell (j:=19) (v:=int i64 p.ic) rfl;go_simp;try rfl));try simp only[S4,S3])
   refine il ?_;have O:=o.1.cell (j:=3) (v:=int i64 I) rfl;have Q:=o.1.frozen 3;have D:ha ((w.setCell ⟨g,3,none⟩ (int i64 (v))).drew) g 239 ((ir ⟨F,G,z,I⟩ p).setIfInBounds 3 (int i64 (v))):=o.1.set 3 _;have J:hn g w ((w.setCell ⟨g,3,none⟩ (int i64 (v))).drew):=o.2.setCell (p:=⟨g,3,none⟩) (.inl rfl) _;refine gZ.lh rfl (by kernel_rfl) (fun K E=>?_);(try simp only[S3])
   go_simp;refine E.out _ _ ?_;clear E K o;clear O Q;refine wpAny_done (by kernel_rfl) ?_ _;generalize(w.setCell ⟨g,3,none⟩ (int i64 (v))).drew=S at D J⊢;have aa:=g' D;clear D;go_upto_region 1 with(fail)
   refine gZ.pY (fun w'=>ha w' g 239 (ir ⟨F,G,z,v⟩ p)∧hn g w w') 16 (by kernel_rfl) (⟨aa.out.drew,lj J⟩) (fun o=>?_);refine gZ.ot [(0,[]),(1,[]),(2,[]),(3,[]),(4,[]),(5,[]),(6,[]),(7,[]),(8,[]),(9,[]),(10,[]),(11,[]),(12,[]),(13,[15,14]),(14,[15]),(15,[])] 16 rfl o (by kernel_rfl) (by rintro _ _ (_|_) _ _ h<;>exact h) (by kernel_rfl) ?_;iterate 16(refine od ?_ rfl (by rfl) (fun w' A=>?_) ?_;rotate_left;(focus ((try simp only[S3]);have Y:=A.1.cell (j:=3) (v:=int i64 (v)) rfl;have Z:=A.1.cell (j:=19) (v:=int i64 p.ic) rfl;go_simp;try rfl));try simp only[S4,S3])
   refine il ?_;have O:=o.1.cell (j:=3) (v:=int i64 (v)) rfl;have Q:=o.1.frozen 3;have D:ha ((S.setCell ⟨g,3,none⟩ (int i64 (v))).drew) g 239 ((ir ⟨F,G,z,v⟩ p).setIfInBounds 3 (int i64 (v))):=o.1.set 3 _;have J:hn g w ((S.setCell ⟨g,3,none⟩ (int i64 (v))).drew):=o.2.setCell (p:=⟨g,3,none⟩) (.inl rfl) _;refine gZ.lh rfl (by kernel_rfl) (fun K E=>?_);(try simp only[S3])
   go_simp;refine E.out _ _ ?_;clear E K o;clear O Q;refine wpAny_done (by kernel_rfl) ?_ _;generalize(S.setCell ⟨g,3,none⟩ (int i64 (v))).drew=T at D J⊢;have ab:=g' D;clear D;go_upto_region 2 with(fail)
   refine gZ.pY (fun w'=>ha w' g 239 (ir ⟨F,G,z,v⟩ p)∧hn g w w') 15 (by kernel_rfl) (⟨ab.out.drew,lj J⟩) (fun o=>?_);refine gZ.ot [(0,[]),(1,[]),(2,[]),(3,[]),(4,[]),(5,[]),(6,[]),(7,[]),(8,[]),(9,[]),(10,[])] 11 rfl o (by kernel_rfl) (by rintro _ _ (_|_) _ _ h<;>exact h) (by kernel_rfl) ?_;iterate 11(refine od ?_ rfl (by rfl) (fun w' A=>?_) ?_;rotate_left;(focus ((try simp only[S3]);have ac:=A.1.cell (j:=2) (v:=int u64 z) rfl;have ad:=A.1.cell (j:=14) (v:=int u64 p.recover) rfl;go_simp;try rfl));try simp only[S4,S3])
   refine il ?_;refine gZ.sy 11 rfl (by kernel_rfl) (by rfl) (fun K E=>?_);(try simp only[S3])
   go_simp;refine(ak _).mono ?_;rintro e w' ⟨rfl,rfl⟩;refine E.out _ _ o (fun o=>?_);(try simp only[S4,S3])
   refine gZ.ot [(12,[14,13]),(13,[14]),(14,[])] 3 rfl o (by kernel_rfl) (by rintro _ _ (_|_) _ _ h<;>exact h) (by kernel_rfl) ?_;iterate 3(refine od ?_ rfl (by rfl) (fun w' A=>?_) ?_;rotate_left;(focus ((try simp only[S3]);have ac:=A.1.cell (j:=2) (v:=int u64 z) rfl;have ad:=A.1.cell (j:=14) (v:=int u64 p.recover) rfl;go_simp;try rfl));try simp only[S4,S3])
   refine il ?_;have O:=o.1.cell (j:=2) (v:=int u64 z) rfl;have Q:=o.1.frozen 2;have D:ha ((T.setCell ⟨g,2,none⟩ (int u64 r)).drew) g 239 ((ir ⟨F,G,z,v⟩ p).setIfInBounds 2 (int u64 r)):=o.1.set 2 _
 all_goals
  have J:hn g w ((T.setCell ⟨g,2,none⟩ (int u64 r)).drew):=o.2.setCell (p:=⟨g,2,none⟩) (.inl rfl) _;refine gZ.lh rfl (by kernel_rfl) (fun K E=>?_);(try simp only[S3])
  go_simp;refine E.out _ _ ?_;clear E K o;clear O Q;refine wpAny_done (by kernel_rfl) ?_ _;generalize(T.setCell ⟨g,2,none⟩ (int u64 r)).drew=w3 at D J⊢;go_wp2;go_end0;exact⟨rfl,by rw[an.out];exact D,J⟩
def ov(p:hx)(s:Std)(m:Int):Std:=⟨s.hD,s.hP,if m=3 then o5 s.h9 p.ih p.ig else if m=4 then o5 s.h9 p.iR p.ig else s.h9,0⟩
theorem A1(p:hx)(X:p.jd)(s:Std)(ah:s.jE)(m:Int)(g:Nat)(w:World)(Y:ha w g 239 (ir s p)):
 Calls prog 172 #[.pointer (some ⟨g,0,none⟩),int i64 m] w fun e w'=>e= .returned (.tuple #[])∧ha w' g 239 (ir (ov p s m) p)∧hn g w w':=by
 have O:s.h9<18446744073709551616:=ah.h9;have Z:p.ih<18446744073709551616:=by have:=X.lH.ih;omega
 have aa:p.iR<18446744073709551616:=by have:=X.iR;omega
 have Q:p.ig<18446744073709551616:=by have:=X.ig;omega
 clear ah X;obtain⟨A,D,z,ab⟩:=s;simp only at O;have ai:=Y.all;have aj:=Y.frozen 3;have ak:ha (w.setCell ⟨g,3,none⟩ (int i64 0)) g 239 ((ir ⟨A,D,z,ab⟩ p).setIfInBounds 3 (int i64 0)):=Y.set 3 _;have E:hn g w (w.setCell ⟨g,3,none⟩ (int i64 0)):=(hn.refl _ _).setCell (p:=⟨g,3,none⟩) (.inl rfl) _;have R:=g' ak;clear Y ak;by_cases S:m=3
 ·subst S
  obtain⟨r,G⟩:=hk (o5 z p.ih p.ig);obtain⟨ad,T⟩:=hg (fun W=>wo z p.ih p.ig O Z Q W r G) (show ir (ov p ⟨A,D,z,ab⟩ 3) p=ir ⟨A,D,r,0⟩ p by rw[G];rfl);clear G O Z aa Q;go_enter func172,ntmps172;go_upto_region 3 with(fail)
  clear ai aj;generalize w.setCell ⟨g,3,none⟩ (int i64 0)=I at E R⊢;refine gZ.rc (fun w'=>ha w' g 239 (ir ⟨A,D,z,0⟩ p)∧hn g w w') 20 (by kernel_rfl) (by rintro _ _ (_|_) _ _ h<;>exact h) (⟨R.drew,lj E⟩) fun U o=>?_;refine gZ.cq U 16 (i' 0 16 []) o (by kernel_rfl) ?_;iterate 16(refine iu rfl rfl (fun w' J=>by try simp only[S3];have ae:=J.1.all;go_simp;try rfl) ?_;try simp only[S4,S3])
  refine il ?_;refine gZ.sy 16 rfl (by kernel_rfl) (by rfl) (fun K F=>?_);(try simp only[S3])
  go_simp;refine hE (ad _) ?_;refine F.out _ _ o (fun o=>?_);(try simp only[S4,S3])
  refine gZ.cq U 3 [17,18,19] o (by kernel_rfl) ?_;iterate 3(refine iu rfl rfl (fun w' J=>by try simp only[S3];have ae:=J.1.all;go_simp;try rfl) ?_;try simp only[S4,S3])
  refine il ?_;have af:=o.1.all;have ag:=o.1.frozen 2;have V:ha ((I.setCell ⟨g,2,none⟩ (int u64 r)).drew) g 239 ((ir ⟨A,D,z,0⟩ p).setIfInBounds 2 (int u64 r)):=o.1.set 2 _;have E:hn g w ((I.setCell ⟨g,2,none⟩ (int u64 r)).drew):=o.2.setCell (p:=⟨g,2,none⟩) (.inl rfl) _;refine gZ.lh rfl (by kernel_rfl) (fun K F=>?_);(try simp only[S3])
  go_simp;refine F.out _ _ ?_;clear F K o;clear af ag;refine wpAny_done (by kernel_rfl) ?_ _;generalize(I.setCell ⟨g,2,none⟩ (int u64 r)).drew=w3 at V E⊢;go_wp2;go_end0;exact⟨rfl,by rw[T.out];exact V,E⟩
 have al:(m==3)=false:=by rw[beq_eq_false_iff_ne];exact S
 by_cases ac:m=4
 ·subst ac
  obtain⟨r,G⟩:=hk (o5 z p.iR p.ig);obtain⟨ad,T⟩:=hg (fun W=>wo z p.iR p.ig O aa Q W r G) (show ir (ov p ⟨A,D,z,ab⟩ 4) p=ir ⟨A,D,r,0⟩ p by rw[G];rfl);clear G S al O Z aa Q;go_enter func172,ntmps172;go_upto_region 5 with(fail)
  clear ai aj;generalize w.setCell ⟨g,3,none⟩ (int i64 0)=I at E R⊢;refine gZ.rc (fun w'=>ha w' g 239 (ir ⟨A,D,z,0⟩ p)∧hn g w w') 20 (by kernel_rfl) (by rintro _ _ (_|_) _ _ h<;>exact h) (⟨R.drew,lj E⟩) fun U o=>?_;refine gZ.cq U 16 (i' 0 16 []) o (by kernel_rfl) ?_;iterate 16(refine iu rfl rfl (fun w' J=>by try simp only[S3];have ae:=J.1.all;go_simp;try rfl) ?_;try simp only[S4,S3])
  refine il ?_;refine gZ.sy 16 rfl (by kernel_rfl) (by rfl) (fun K F=>?_);(try simp only[S3])
  go_simp;refine hE (ad _) ?_;refine F.out _ _ o (fun o=>?_);(try simp only[S4,S3])
  refine gZ.cq U 3 [17,18,19] o (by kernel_rfl) ?_;iterate 3(refine iu rfl rfl (fun w' J=>by try simp only[S3];have ae:=J.1.all;go_simp;try rfl) ?_;try simp only[S4,S3])
  refine il ?_;have af:=o.1.all;have ag:=o.1.frozen 2;have V:ha ((I.setCell ⟨g,2,none⟩ (int u64 r)).drew) g 239 ((ir ⟨A,D,z,0⟩ p).setIfInBounds 2 (int u64 r)):=o.1.set 2 _;have E:hn g w ((I.setCell ⟨g,2,none⟩ (int u64 r)).drew):=o.2.setCell (p:=⟨g,2,none⟩) (.inl rfl) _;refine gZ.lh rfl (by kernel_rfl) (fun K F=>?_);(try simp only[S3])
  go_simp;refine F.out _ _ ?_;clear F K o;clear af ag;refine wpAny_done (by kernel_rfl) ?_ _;generalize(I.setCell ⟨g,2,none⟩ (int u64 r)).drew=w3 at V E⊢;go_wp2;go_end0;exact⟨rfl,by rw[T.out];exact V,E⟩
 have am:(m==4)=false:=by rw[beq_eq_false_iff_ne];exact ac
 have T:=g' (show ir (ov p ⟨A,D,z,ab⟩ m) p=ir ⟨A,D,z,0⟩ p by unfold ov;rw[if_neg S,if_neg ac]);clear S ac O Z aa Q;go_enter func172,ntmps172;go_wp2;go_end0;exact⟨rfl,by rw[T.out];exact R,E⟩
section
variable {P:Program}
theorem wpList_build{r:Array Oper}{z:List Oper}{o:Oper}{a:Act}{Q:Exit→Act→World→Prop}(A:o.guard=none)(D:TypeId)(E:Array (Nat×Operand))(_:o.op= .build D E)(v:Value)(F:∀w,(execOp a.eval o).run P w= .ok (.value v) w)
 (h:wpList P r Q z (a.put o.dst v) w):wpList P r Q (o::z) a w:=
 wpList_plain A fun K G=>by unfold Oper.wp;rw[F w];exact G _ _ h
end
theorem kV(s:Std):(prog.info? 96).map (·.size)=some s.cs.size:=by kernel_rfl
theorem rA(s:Std):s.cs.all (·.oneCell')=true:=by kernel_rfl
theorem ua(s:Std):(prog.info? 96).map (·.size)=some s.cs.toList.length:=by kernel_rfl
theorem ub(s:Std)(p:hx)(j:Nat)(v:Value)(h:s.cs.toList[j]?=some v):(ir s p)[j]?=some v:=by
 unfold Std.cs at h;rcases j with _|_|_|_|j
 ·exact h
 ·exact h
 ·exact h
 ·exact h
 simp at h
theorem wM(p:hx)(z:iG p=true)(s:Std)(w:World):
 Calls prog 128 #[.agg p.cs,.agg s.cs] w fun e w'=>e= .returned (.agg (j1 p s).cs)∧Below w.heap.size w w':=by
 have J:=j6 z;obtain⟨V,X⟩:=hg (fun W=>k4 p W 0 (lV z).symm) (fun g W=>tO p J.ic.1 s g W);have K:Below w.heap.size w (((w.alloc (.cells p.cs 24)).alloc (.cells s.cs 96)).alloc (.cells jT 96)):=((hz.alloc hj _).alloc (by simp) _).alloc (by simp;omega) _;have A:ha (((w.alloc (.cells p.cs 24)).alloc (.cells s.cs 96)).alloc (.cells jT 96)) w.heap.size 24 p.cs:=((ha.new w _ _ _ rfl).alloc _).alloc _;have D:ha (((w.alloc (.cells p.cs 24)).alloc (.cells s.cs 96)).alloc (.cells jT 96)) (w.heap.size+1) 96 s.cs:=(ha.new _ _ _ _ (by simp)).alloc _;have E:ha (((w.alloc (.cells p.cs 24)).alloc (.cells s.cs 96)).alloc (.cells jT 96)) (w.heap.size+2) 96 jT:=ha.new _ _ _ _ (by simp);obtain⟨ai,O⟩:=ho (((w.alloc (.cells p.cs 24)).alloc (.cells s.cs 96)).alloc (.cells jT 96));rw[O]at K A D E;obtain⟨Q,Y,Z⟩:=hs A D E;clear A D E z J;go_enter func128,ntmps128;go_upto_region 1 with(fail)
 clear O;go_wp2_with (refine hR Q hQ (jb p) rfl rfl rfl rfl ?_);go_wp2_with fail;refine hI (V _) fun F o=>?_;have r:=hJ K o;obtain⟨aa,ab,R⟩:=hs (Q.to o) (Y.to o) (Z.to o);clear o;go_wp2_with (first|(refine hR ab km (kV s) rfl rfl rfl rfl ?_)|(refine hR aa hQ (jb p) rfl rfl rfl rfl ?_)|(refine wpList_build rfl 239 #[(0,.tmp 10),(1,.tmp 11)] rfl (.agg (ir s p)) (fun w'=>by kernel_rfl) ?_));refine(X F.heap.size _ (ha.new F _ _ _ rfl)).mono ?_;rintro e aj ⟨rfl,S,G⟩;have I:=r.alloc r.size (.cells (ir s p) 239);have T:=r.size;have ac:=R.lt;have ad:=g' ((R.alloc (.cells (ir s p) 239)).hT G (by omega));have U:=iC I G T I.size;have ae:=g' S;clear I T ac G S r;go_wp2_with (first|(refine wpList_load_mid rfl 96 (.tmp 18) rfl F.heap.size 0 rfl (j1 p s).cs.toList _ (fun j v af=>by rw[Nat.zero_add];exact ae.cell (ub _ _ _ _ af)) km rfl (ua _) ?_)|(refine iL rfl 96 (.tmp 4) (.tmp 19) rfl (w.heap.size+2) (j1 p s).cs rfl rfl 96 _ ad (kV _) rfl (rA _) ?_;intro ak ag ah));exact bodyPost_ret (v:= .agg (j1 p s).cs) (l9 results128 _ _ _ _ _ _ rfl ag km rfl (kV _)) rfl ⟨rfl,iC U ah (by omega) U.size⟩
def mN(p:hx)(s:Std)(b:Bool)(m:Int):Std:=if b then ny p s else ov p s m
theorem A2(p:hx)(E:iG p=true)(s:Std)(F:s.jE)(b:Bool)(m:Int)(w:World):
 Calls prog 105 #[.agg p.cs,.agg s.cs,.bool b,int i64 m] w fun e w'=>e= .returned (.agg (mN p s b m).cs)∧Below w.heap.size w w':=by
 have z:=j6 E;obtain⟨ac,ad,ae⟩:=hs (fun W=>k4 p W 0 (lV E).symm) (fun g W=>A0 p z.ic (by have:=z.recover;omega) s F g W) (fun g W=>A1 p z s F m g W);have T:Below w.heap.size w (((w.alloc (.cells p.cs 24)).alloc (.cells s.cs 96)).alloc (.cells jT 96)):=((hz.alloc hj _).alloc (by simp) _).alloc (by simp;omega) _;have G:ha (((w.alloc (.cells p.cs 24)).alloc (.cells s.cs 96)).alloc (.cells jT 96)) w.heap.size 24 p.cs:=((ha.new w _ _ _ rfl).alloc _).alloc _;have I:ha (((w.alloc (.cells p.cs 24)).alloc (.cells s.cs 96)).alloc (.cells jT 96)) (w.heap.size+1) 96 s.cs:=(ha.new _ _ _ _ (by simp)).alloc _;have J:ha (((w.alloc (.cells p.cs 24)).alloc (.cells s.cs 96)).alloc (.cells jT 96)) (w.heap.size+2) 96 jT:=ha.new _ _ _ _ (by simp);obtain⟨al,U⟩:=ho (((w.alloc (.cells p.cs 24)).alloc (.cells s.cs 96)).alloc (.cells jT 96));rw[U]at T G I J;obtain⟨V,af,ag⟩:=hs G I J;clear F G I J E z;cases b;rotate_left;rotate_left;all_goals
  go_enter func105,ntmps105;go_upto_region 1 with(fail)
  clear U;go_wp2_with (refine hR V hQ (jb p) rfl rfl rfl rfl ?_);go_wp2_with fail;refine hI (ac _) fun o r=>?_;have A:=hJ T r;obtain⟨ah,ai,X⟩:=hs (V.to r) (af.to r) (ag.to r);clear r;go_wp2_with (first|(refine hR ai km (kV s) rfl rfl rfl rfl ?_)|(refine hR ah hQ (jb p) rfl rfl rfl rfl ?_)|(refine wpList_build rfl 239 #[(0,.tmp 14),(1,.tmp 15)] rfl (.agg (ir s p)) (fun w'=>by kernel_rfl) ?_))
 focus
  refine(ae o.heap.size _ (ha.new o _ _ _ rfl)).mono ?_
 rotate_left;focus
  refine(ad o.heap.size _ (ha.new o _ _ _ rfl)).mono ?_
 rotate_left;all_goals
  rintro e am ⟨rfl,Y,K⟩;have O:=A.alloc A.size (.cells (ir s p) 239);have Z:=A.size;have aj:=X.lt;have aa:=g' ((X.alloc (.cells (ir s p) 239)).hT K (by omega));have D:=iC O K Z O.size;have ab:=g' Y;clear O Z aj K Y A
 ·go_wp2_with (first|(refine wpList_load_mid rfl 96 (.tmp 26) rfl o.heap.size 0 rfl (mN p s false m).cs.toList _ (fun j v Q=>by rw[Nat.zero_add];exact ab.cell (ub _ _ _ _ Q)) km rfl (ua _) ?_)|(refine iL rfl 96 (.tmp 8) (.tmp 27) rfl (w.heap.size+2) (mN p s false m).cs rfl rfl 96 _ aa (kV _) rfl (rA _) ?_;intro ak R S))
  exact bodyPost_ret (v:= .agg (mN p s false m).cs) (l9 results105 _ _ _ _ _ _ rfl R km rfl (kV _)) rfl ⟨rfl,iC D S (by omega) D.size⟩
 go_wp2_with (first|(refine wpList_load_mid rfl 96 (.tmp 26) rfl o.heap.size 0 rfl (mN p s true m).cs.toList _ (fun j v Q=>by rw[Nat.zero_add];exact ab.cell (ub _ _ _ _ Q)) km rfl (ua _) ?_)|(refine iL rfl 96 (.tmp 8) (.tmp 27) rfl (w.heap.size+2) (mN p s true m).cs rfl rfl 96 _ aa (kV _) rfl (rA _) ?_;intro ak R S));exact bodyPost_ret (v:= .agg (mN p s true m).cs) (l9 results105 _ _ _ _ _ _ rfl R km rfl (kV _)) rfl ⟨rfl,iC D S (by omega) D.size⟩
end hB
namespace p0
theorem wX(h:a≤b):a*a≤b*b:=Nat.mul_le_mul h h
theorem uc(h:a*a<b*b):a<b:=by
 rcases Nat.lt_or_ge a b with o|o
 ·exact o
 have:=wX o;omega
def j2:Nat→Nat
 |0=>0
 |n+1=>if(j2 n+1)*(j2 n+1)≤n+1 then j2 n+1 else j2 n
theorem Bd:j2 0=0:=rfl
theorem Be(n:Nat):j2 (n+1)=if(j2 n+1)*(j2 n+1)≤n+1 then j2 n+1 else j2 n:=rfl
attribute [irreducible] j2
theorem wY(n:Nat):j2 n*j2 n≤n∧n<(j2 n+1)*(j2 n+1):=by
 induction n with
 |zero=>rw[Bd];omega
 |succ n o=>
  rw[Be];split
  ·refine⟨by assumption,?_⟩
   have r:(j2 n+1+1)*(j2 n+1+1)=(j2 n+1)*(j2 n+1)+2*j2 n+3:=by
    simp only[Nat.add_mul,Nat.mul_add];omega
   omega
  exact⟨by omega,by omega⟩
theorem Bf(o:r*r≤n)(z:n<(r+1)*(r+1)):j2 n=r:=by
 obtain⟨a,b⟩:=wY n;have c:j2 n<r+1:=uc (by omega);have d:r<j2 n+1:=uc (by omega);omega
theorem wZ(h:n<18446744073709551616):j2 n<4294967296:=by
 obtain⟨a,_⟩:=wY n;exact uc (by omega)
end p0
namespace w1
open RowKit
open p0
def Inv(n r b:Nat):Prop:=r*r≤n∧((∃k,k≤31∧b=2^k∧n<(r+2*b)*(r+2*b)∧r+2*b≤4294967296)∨(b=0∧n<(r+1)*(r+1)∧r<4294967296))
theorem Bg(h:n<18446744073709551616):Inv n 0 2147483648:=⟨by omega,.inl ⟨31,by omega,by decide,by omega,by omega⟩⟩
theorem Bh(h:Inv n r 0):j2 n=r:=by
 obtain⟨o,⟨k,_,A,_⟩|⟨_,z,_⟩⟩:=h
 ·have:0<2^k:=Nat.pow_pos (by omega)
  omega
 exact Bf o z
theorem inv_pos(h:Inv n r b)(z:0<b):r+b<4294967296∧b≤2147483648:=by
 obtain⟨_,⟨k,o,A,_,D⟩|⟨E,_,_⟩⟩:=h
 ·have:2^k≤2^31:=Nat.pow_le_pow_right (by omega) o
  omega
 omega
theorem w2(h:Inv n r b)(G:0<b)(z:((r+b)*(r+b)≤n∧g=r+b)∨(n<(r+b)*(r+b)∧g=r)):Inv n g (b/2):=by
 obtain⟨I,⟨k,J,D,E,K⟩|⟨o,_,_⟩⟩:=h
 ·refine⟨by rcases z with⟨a,rfl⟩|⟨a,rfl⟩<;>assumption,?_⟩
  have A:n<(g+b)*(g+b)∧g+b≤4294967296:=by
   rcases z with⟨a,rfl⟩|⟨a,rfl⟩
   ·exact⟨by rw[show r+b+b=r+2*b by omega];exact E,by omega⟩
   exact⟨a,by omega⟩
  rcases Nat.eq_zero_or_pos k with o|o
  ·subst o
   have:b=1:=by simpa using D
   subst this;exact .inr ⟨rfl,A.1,by omega⟩
  obtain⟨j,rfl⟩:∃j,k=j+1:=⟨k-1,by omega⟩;have F:b/2=2^j:=by omega
  refine .inl ⟨j,by omega,F,?_,?_⟩
  ·rw[show 2*(b/2)=b by omega];exact A.1
  omega
 omega
theorem Bi(n:Nat)(E:n<18446744073709551616)(w:World):Calls prog 25 #[.int .u64 n] w fun e w'=>e= .returned (.int .u64 (j2 n))∧w=w':=by
 go_enter func25,ntmps25;go_wp2;go_step3
 go_wp2;go_step3
 go_wp2;go_loop [3,4] (fun r b=>∃A D:Nat,r= .int .u64 A∧b= .int .u64 D∧Inv n A D) (fun _ b=>(intOf b).toNat)
 case atStart=>exact⟨0,2147483648,rfl,rfl,Bg E⟩
 case round=>
  obtain⟨r,b,rfl,rfl,o⟩:=hrel;rcases Nat.eq_zero_or_pos b with F|hb
  ·subst F
   have G:=Bh o;clear o;go_wp2;go_ret;exact⟨by rw[G];rfl,rfl⟩
  have I:=inv_pos o hb;obtain⟨Q,R⟩:=I;have J:(r+b)*(r+b)<18446744073709551616:=by
   have:=wX (show r+b≤4294967295 by omega);omega
  have z:(((r+b)*(r+b):Nat):Int)=((r:Int)+b)*((r:Int)+b):=by simp
  have S:IntKind.u64.wrap (((r:Int)+b)*((r:Int)+b))=((r:Int)+b)*((r:Int)+b):=IntWalk.u64_in _ (by rw[←z];omega);clear J;by_cases K:(r+b)*(r+b)≤n
  ·have O:((r:Int)+b)*((r:Int)+b)≤n:=by rw[←z];omega
   clear z;go_wp2;exact⟨⟨r+b,b/2,by go_num,by go_num,w2 o hb (.inl ⟨K,rfl⟩)⟩,by simp[intOf];omega⟩
  have O:n<((r:Int)+b)*((r:Int)+b):=by rw[←z];omega
  clear z;go_wp2;exact⟨⟨r,b/2,by go_num,by go_num,w2 o hb (.inr ⟨by omega,rfl⟩)⟩,by simp[intOf];omega⟩
end w1
namespace jz
open ChangeShapes WideShapes ChangeAt RowKit Deep
open hG
section
variable {H:Type} {enc:TypeId×Value→H} {P:Program} {w:World} {base:Nat} {spare:Nat→Bool} {held:Bool}
theorem w4{d:DataW H}{p:List MemPlace}(E:P.underlying t=some (.slice e))(F:P.cellsOf e=1)
 (h:DataW.Trod enc P w base spare held t (.slice A n c) d p):
 n≤c∧c≤maxLen∧(A=none→n=0∧c=0)∧∃V:Nat→Value,Rd w w.heap.size A n V∧∀i,i<n→∃(m:Nat) (y:DataW H×List MemPlace),DataW.trod enc P w base spare held m e [V i]=some y:=by
 obtain⟨K,G⟩:=h;rcases open_slice1 E F G with⟨o,_⟩|⟨a,len,cap,m,k,V,D,O,o,_,I,hm,J,_,r⟩
 ·simp[Value.cells]at o
  obtain⟨rfl,rfl,rfl⟩:=o;exact⟨hj,by unfold maxLen;omega,fun _=>⟨rfl,rfl⟩,fun _=> .bool false,Rd.nil,fun i z=>absurd z (by omega)⟩
 simp[Value.cells]at o;obtain⟨rfl,rfl,rfl⟩:=o;have Q:n≤m:=by rw[J];split<;>omega
 refine⟨I,hm,(fun h=>by cases h),V,fun j R=>⟨a,rfl,?_,(r j (by omega)).1⟩,fun i z=>⟨k,_,(r i (by omega)).2⟩⟩;have:=block_lt_of_cell (r j (by omega)).1;rwa[hG.block_add]at this
theorem w5{k:IntKind}{d:DataW H}{p:List MemPlace}(I:P.underlying t=some (.slice e))(E:P.underlying e=some (.int k))(J:P.cellsOf e=1)
 (h:DataW.Trod enc P w base spare held t (.slice A n c) d p):
 n≤c∧c≤maxLen∧∃l:List Int,l.length=n∧(∀z∈l,(Lit.int k z).wf=true)∧Rd w w.heap.size A n (fun j=> .int k (l.getD j 0)):=by
 obtain⟨K,O,_,V,Q,F⟩:=w4 I J h;refine⟨K,O,(List.range n).map (fun i=>match V i with| .int _ z=>z|_=>0),by simp,fun z G=>?_,Q.congr fun j r=>?_⟩
 ·rw[List.mem_map]at G
  obtain⟨j,r,rfl⟩:=G;rw[List.mem_range]at r;obtain⟨m,y,D⟩:=F j r;obtain⟨b,o,_,R⟩:=DataW.trod_int E D;injection o with o _;rw[o];exact R
 obtain⟨m,y,D⟩:=F j r;obtain⟨b,o,_,_⟩:=DataW.trod_int E D;injection o with o _;simp[r,o]
theorem w6{x:Int}(h:(Lit.int .u8 x).wf=true):0≤x∧x<256:=by
 simp[Lit.wf,IntKind.min,IntKind.max,IntKind.signed,IntKind.bits]at h;exact⟨by omega,by omega⟩
theorem nz{x:Int}(h:(Lit.int .i64 x).wf=true): -9223372036854775808≤x∧x≤9223372036854775807:=by
 simp[Lit.wf,IntKind.min,IntKind.max,IntKind.signed,IntKind.bits]at h;exact⟨by omega,by omega⟩
theorem kP{x:Int}(h:(Lit.int .u64 x).wf=true):∃n:Nat,x=n∧n<18446744073709551616:=by
 simp[Lit.wf,IntKind.min,IntKind.max,IntKind.signed,IntKind.bits]at h;exact⟨x.toNat,by omega,by omega⟩
theorem w7{d:DataW H}{p:List MemPlace}(E:P.underlying t=some (.slice e))(F:P.underlying e=some (.int .u8))(G:P.cellsOf e=1)
 (h:DataW.Trod enc P w base spare held t (.slice A n c) d p):
 n≤c∧c≤maxLen∧∃l:List Nat,l.length=n∧(∀b∈l,b<256)∧Rd w w.heap.size A n (fun j=> .int .u8 (l.getD j 0:Nat)):=by
 obtain⟨I,J,l,K,o,O⟩:=w5 E F G h;refine⟨I,J,l.map Int.toNat,by simp[K],fun b r=>?_,O.congr fun j Q=>?_⟩
 ·rw[List.mem_map]at r
  obtain⟨z,D,rfl⟩:=r;have:=w6 (o z D);omega
 have D:=w6 (o _ (List.getElem_mem (show j<l.length by omega)));simp only[iJ,List.getElem?_map,iB (show j<l.length by omega),Option.map_some,Option.getD_some];congr 1;omega
theorem Bj{d:DataW H}{p:List MemPlace}(E:P.underlying t=some (.slice e))(F:P.underlying e=some (.int .u64))(G:P.cellsOf e=1)
 (h:DataW.Trod enc P w base spare held t (.slice A n c) d p):
 n≤c∧c≤maxLen∧∃l:List Nat,l.length=n∧(∀b∈l,b<18446744073709551616)∧Rd w w.heap.size A n (fun j=> .int .u64 (l.getD j 0:Nat)):=by
 obtain⟨I,J,l,K,r,O⟩:=w5 E F G h;refine⟨I,J,l.map Int.toNat,by simp[K],fun b D=>?_,O.congr fun j R=>?_⟩
 ·rw[List.mem_map]at D
  obtain⟨z,Q,rfl⟩:=D;obtain⟨n,rfl,o⟩:=kP (r z Q);simpa using o
 obtain⟨n,o,_⟩:=kP (r _ (List.getElem_mem (show j<l.length by omega)));simp only[iJ,List.getElem?_map,iB (show j<l.length by omega),Option.map_some,Option.getD_some];rw[o];simp
end
section
variable {H:Type} {enc:TypeId×Value→H} {P:Program} {w:World} {base:Nat} {spare:Nat→Bool} {held:Bool}
def toInt(v:Value):Int:=match v with| .int _ z=>z|_=>0
def toBool(v:Value):Bool:=match v with| .bool b=>b|_=>false
theorem Bk{k:IntKind}{v:Value}{y:DataW H×List MemPlace}(r:P.underlying t=some (.int k))(h:DataW.trod enc P w base spare held m t [v]=some y):v= .int k (toInt v)∧(Lit.int k (toInt v)).wf=true:=by
 obtain⟨b,o,_,z⟩:=DataW.trod_int r h;injection o with o _;rw[o];exact⟨rfl,z⟩
theorem Bl{v:Value}{y:DataW H×List MemPlace}(r:P.underlying t=some .bool)(h:DataW.trod enc P w base spare held m t [v]=some y):v= .bool (toBool v):=by
 obtain⟨b,o,_⟩:=DataW.trod_bool r h;injection o with o _;rw[o];rfl
end
end jz
namespace hC
open RowKit
open hG kd h0 hU
theorem w8(A:Option Addr)(n c L E:Nat)(us:List Nat)(w:World)(h:jk w L A n us)(J:n≤1000000)(r:Nat×Int)(G:lS us r)(b:Bool)(o:b=(decide (r.2=0)&&decide (r.1≤E))):
 Calls prog 167 #[.int .u64 E,.slice A n c] w fun e w'=>e= .returned (.bool b)∧w=w':=by
 have K:=g' (qx A n c L us w h J r G);obtain⟨s,z⟩:=r;by_cases F:z=0;focus
  subst F;by_cases D:s≤E;focus
   have I:=hZ D;obtain rfl:b=true:=by rw[o];simp[D]
  rotate_left;focus
   have I:=h1 D;obtain rfl:b=false:=by rw[o];simp[D]
 rotate_left 2;focus
  have I:((z:Int)==0)=false:=by rw[beq_eq_false_iff_ne];exact F
  obtain rfl:b=false:=by rw[o];simp[F]
 all_goals
  clear G o h;go_enter func167,ntmps167;go_wp2_with fail;refine K.mono ?_;rintro e w' ⟨rfl,rfl⟩;go_wp2;go_ret;exact⟨rfl,rfl⟩
theorem qB(A:Option Addr)(n c L:Nat)(o:List Int)(w:World)(I:o.length=n)(h:Rd w L A n (fun j=> .int .i64 (o.getD j 0)))(ac:n≤1000000)(b:Bool)(J:b=o.all (fun z=>decide (z=0))):
 Calls prog 169 #[.slice A n c] w fun e w'=>e= .returned (.bool b)∧w=w':=by
 obtain⟨V,K,O⟩:=hs h J I;clear h J I;go_enter func169,ntmps169;go_wp2;go_loop [7] (fun G=>∃k:Nat,G= .int .i64 k∧k≤n∧∀j,j<k→o.getD j 0=0) (fun G=>n-(intOf G).toNat)
 case atStart=>exact⟨0,rfl,h6,fun j E=>by omega⟩
 case round=>
  obtain⟨k,rfl,ad,Q⟩:=hrel;have R:=g' Q;clear Q;by_cases F:k<n
  ·have W:=hZ F
   obtain⟨ae,rfl,_,X⟩:=V k F;obtain⟨z,D⟩:=ho (o.getD k 0);have S:=g' D;simp only[D]at X;clear D;by_cases r:z=0
   ·have Y:((z:Int)==0)=true:=by simpa using r
    have Z:((z:Int) !=0)=false:=by simpa using r
    have aa:=g' (show∀j,j<k+1→o.getD j 0=0 from fun j E=>by
     rcases Nat.lt_or_ge j k with T|T
     ·exact R j T
     obtain rfl:j=k:=by omega
     rw[S.out];exact r)
    clear r;go_wp2;exact⟨⟨k+1,by go_num,by omega,aa⟩,by simp[intOf];omega⟩
   have Y:((z:Int)==0)=false:=by simpa using r
   have Z:((z:Int) !=0)=true:=by simpa using r
   obtain rfl:b=false:=by
    rw[K.out,List.all_eq_false];refine⟨z,?_,by simpa using r⟩;have U:k<o.length:=by rw[O.out];exact F
    rw[←S.out,iJ,List.getElem?_eq_getElem U];exact List.getElem_mem U
   go_wp2;go_ret;exact⟨rfl,rfl⟩
  have W:=h1 F;obtain rfl:b=true:=by
   rw[K.out,List.all_eq_true];intro z D;obtain⟨j,E⟩:=List.getElem?_of_mem D;have ab:=(jh.1 E).1;have:=R.out j (by rw[O.out]at ab;omega);rw[iJ,E]at this;simpa using this
  go_wp2;go_ret;exact⟨rfl,rfl⟩
structure Mem where
 hD:Nat
 hP:Nat
 h9:Nat
 str:Int
 own:Int
 h3:Int
def Mem.enc(d:Mem):List Value:=[int u64 d.hD,int u64 d.hP,int u64 d.h9,int i64 d.str,int i64 d.own,int i64 d.h3]
theorem Mem.len(d:Mem):d.enc.length=6:=rfl
theorem Bm(A:Option Addr)(n c:Nat)(ds:List Mem)(w:World)(h:hV w w.heap.size A n 6 (flat Mem.enc ds))(ai:n≤1000000):
 Calls prog 224 #[.slice A n c] w fun e w'=>∃v,e= .returned v∧w'.ownsRow w.heap.size 22 1 v n ((ds.map Mem.hD).map wv)∧Below w.heap.size w w':=by
 obtain⟨T,U,V,X,Y⟩:=info_parts hU.nu;obtain⟨K,Z⟩:=hg (h.len Mem.len (by omega)) (fun(W:World) (aa:Below w.heap.size w W)=>h.below aa);clear h;go_enter func224,ntmps224;go_wp2;go_loopw [3,8] (fun ab F wr=>∃k:Nat,F=int i64 k∧k≤n∧wr.ownsRow w.heap.size 22 1 ab k (((ds.take k).map Mem.hD).map wv)∧Below w.heap.size w wr) (fun _ F _=>n-(intOf F).toNat)
 case atStart=>exact⟨0,rfl,h6,World.ownsRow_nil _ _ _ _,hz⟩
 case round=>
  obtain⟨k,rfl,aj,z,D⟩:=hrel;by_cases E:k<n
  ·have ac:=hZ E
   obtain⟨d,G⟩:∃d,ds[k]?=some d:=⟨_,iB (by rw[K.out];exact E)⟩;obtain⟨o,rfl,_,r⟩:=(Z wr D).cell Mem.len E G (by omega);have ak:wr.cell? (o.add (k*6))=some (int u64 d.hD):=by have:=r 0 _ rfl;rwa[hG.add_zero]at this
   have al:wr.cell? ⟨(o.add (k*6)).block,(o.add (k*6)).off+1,none⟩=some (int u64 d.hP):=r 1 _ rfl;have am:wr.cell? ⟨(o.add (k*6)).block,(o.add (k*6)).off+2,none⟩=some (int u64 d.h9):=r 2 _ rfl;have an:wr.cell? ⟨(o.add (k*6)).block,(o.add (k*6)).off+3,none⟩=some (int i64 d.str):=r 3 _ rfl;have ao:wr.cell? ⟨(o.add (k*6)).block,(o.add (k*6)).off+4,none⟩=some (int i64 d.own):=r 4 _ rfl;have ap:wr.cell? ⟨(o.add (k*6)).block,(o.add (k*6)).off+5,none⟩=some (int i64 d.h3):=r 5 _ rfl;have ad:=g' (show ds.take (k+1)=ds.take k++[d] by rw[List.take_add_one,G];rfl);have ae:=D.size;have O:=D.alloc ae (.cells #[int u64 d.hD,int u64 d.hP,int u64 d.h9,int i64 d.str,int i64 d.own,int i64 d.h3] 98);have I:=z.alloc (.cells #[int u64 d.hD,int u64 d.hP,int u64 d.h9,int i64 d.str,int i64 d.own,int i64 d.h3] 98);clear r G z D;go_wp2_with (at_builtin;refine wpList_append_own _ rfl _ _ 25 rfl w.heap.size 22 T (int u64 0) 1 8 kO U V X Y rfl (by decide) _ _ _ rfl (I.alloc _) ⟨wr.heap.size+1,0,none⟩ 1 1 [int u64 d.hD] rfl rfl (kp _ _ _ _ (by simp)) ?_ ?_ ?_ ?_ ?_)
   ·intro u Q;simp at Q;subst Q;rfl
   ·unfold maxLen;omega
   ·omega
   ·simp;omega
   intro af ag R S _;have ah:=nt O I S;have J:=g' (show ag.ownsRow w.heap.size 22 1 af (k+1) (((ds.take (k+1)).map Mem.hD).map wv) by rw[ad.out,List.map_append,List.map_append,List.map_map,List.map_take];exact R);clear S I O R;go_wp2;exact⟨⟨k+1,by go_num,by omega,J,ah⟩,by simp[intOf];omega⟩
  have ac:=h1 E;obtain rfl:k=n:=by omega
  rw[List.take_of_length_le (by rw[K.out];exact hj)]at z;have J:=g' z;clear z;go_wp2;go_ret;exact⟨_,rfl,J,D⟩
theorem sI(W:World)(us:List Nat)(r:Wd us)(o:Array Value)(z:o=(us.map wv).toArray)(n:Nat)(A:us.length=n)(t:TypeId)(L g:Nat)(D:g=W.heap.size)(E:g<L):
 jk (W.alloc (.cells o t)) L (some ⟨g,0,none⟩) n us:=by
 subst z;exact⟨A,r,fun j F=>⟨_,rfl,E,kp W (us.map wv) t g D j _ (rq (by omega))⟩⟩
theorem Bn(a b c d t:Nat)(z:Wd [a,b,c,d,t])(r:Nat×Int)(A:lS [a,b,c,d,t] r)(w:World):
 Calls prog 168 #[.agg #[int u64 a,int u64 b,int u64 c,int u64 d,int u64 t]] w fun e w'=>e= .returned (.tuple #[int u64 r.1,int i64 r.2])∧Below w.heap.size w w':=by
 have o:Below w.heap.size w (w.alloc (.cells #[int u64 a,int u64 b,int u64 c,int u64 d,int u64 t] 230)):=hz.alloc hj _;have D:=o.alloc o.size (.cells #[int u64 a,int u64 b,int u64 c,int u64 d,int u64 t] 22);have E:=g' (sI (w.alloc (.cells #[int u64 a,int u64 b,int u64 c,int u64 d,int u64 t] 230)) [a,b,c,d,t] z #[int u64 a,int u64 b,int u64 c,int u64 d,int u64 t] rfl 5 rfl 22 (w.heap.size+2) (w.heap.size+1) (by simp) (by omega));have F:=g' (qx (some ⟨w.heap.size+1,0,none⟩) 5 5 _ [a,b,c,d,t] _ E (by omega) r A);clear A z o;go_enter func168,ntmps168;go_wp2_with fail;refine F.mono ?_;rintro e w' ⟨rfl,rfl⟩;go_wp2;go_ret2;exact⟨rfl,D⟩
open hf
structure St where
 cs:Array Value
 hX:Nat
 gen:Nat
 hO:Nat
 h7:Nat
 hN:Nat
 pa:Option Addr
 pl:Nat
 pc:Nat
 us:List Nat
 ma:Option Addr
 ml:Nat
 mc:Nat
 ms:List Mem
 qa:Option Addr
 ql:Nat
 qc:Nat
 ds:List h'
 da:Option Addr
 dl:Nat
 dc:Nat
 es:List Du
structure St.Ok (s:St):Prop where
 size:s.cs.size=41
 w9:s.cs[24]?=some (int u64 s.hX)
 xa:s.cs[25]?=some (int u64 s.gen)
 ud:s.cs[26]?=some (int u64 s.hO)
 sJ:s.cs[27]?=some (int u64 s.h7)
 p1:s.cs[28]?=some (int u64 s.hN)
 Bo:s.cs[32]?=some (.slice s.pa s.pl s.pc)
 o7:s.cs[33]?=some (.slice s.ma s.ml s.mc)
 Bp:s.cs[36]?=some (.slice s.qa s.ql s.qc)
 Bq:s.cs[37]?=some (.slice s.da s.dl s.dc)
 hX:s.hX<18446744073709551616
 gen:s.gen<18446744073709551616
 hO:s.hO<18446744073709551616
 h7:s.h7<18446744073709551616
 hN:s.hN<18446744073709551616
 Br:Wd (s.ms.map Mem.hD)
 Bs:Wd (s.ds.map h'.am)
 Bt:Wd (s.es.map Du.am)
structure St.At (s:St) (w:World) (L:Nat):Prop where
 us:jk w L s.pa s.pl s.us
 ms:hV w L s.ma s.ml 6 (flat Mem.enc s.ms)
 ds:hV w L s.qa s.ql 4 (flat h'.enc s.ds)
 es:hV w L s.da s.dl 3 (flat Du.enc s.es)
theorem St.At.to{s:St}{w':World}(h:s.At w w.heap.size)(o:Below w.heap.size w w'):s.At w' w'.heap.size:=⟨h.us.to o,h.ms.to o,h.ds.to o,h.es.to o⟩
structure Bu (s:St) (a b c d:Nat×Int):Prop where
 a:lS (s.ms.map Mem.hD) a
 b:lS s.us b
 c:lS (kh s.ds []) c
 d:lS (kh [] s.es) d
def St.ow(s:St):Prop:=s.pl≤300000∧s.ml≤300000∧s.ql≤400000∧s.dl≤400000
theorem Bv(ds:List h'):kh ds []=ds.map h'.am:=by simp[kh]
theorem Bw(es:List Du):kh [] es=es.map Du.am:=by simp[kh]
theorem o8:(prog.info? 230).map (·.size)=some 5:=by kernel_rfl
def lW(a b c d t:Nat):Array Value:= #[int u64 a,int u64 b,int u64 c,int u64 d,int u64 t]
instance{a b c d t:Nat}:hf.jP (lW a b c d t) fun o r=>(∀j,o.frozen? ⟨r,j,none⟩=false)∧hf.hh o r 0 (int u64 a)∧hf.hh o r 1 (int u64 b)∧hf.hh o r 2 (int u64 c)∧hf.hh o r 3 (int u64 d)∧hf.hh o r 4 (int u64 t):=⟨fun h=>⟨h.frozen,hf.jX h⟩⟩
theorem rD(a b c d t:Nat):(lW a b c d t).all (·.oneCell')=true:=by simp[lW,Value.oneCell']
theorem Bx(a b c d:Int)(g:Bool)(o:g=decide (a=0∧b=0∧c=0∧d=0)):g=[a,b,c,d].all (fun z=>decide (z=0)):=by
 rw[o];simp
theorem xb(W:World)(o:List Int)(r:Array Value)(A:r=(o.map (fun z=>(int i64 z:Value))).toArray)(n:Nat)(F:o.length=n)(t:TypeId)(L g:Nat)(D:g=W.heap.size)(E:g<L):
 Rd (W.alloc (.cells r t)) L (some ⟨g,0,none⟩) n (fun j=>int i64 (o.getD j 0)):=by
 subst A;refine fun j G=>⟨_,rfl,E,?_⟩;rw[kp W _ t g D j (int i64 (o.getD j 0)) ?_];rw[List.getElem?_map,iJ,iB (by omega)];rfl
theorem xc(s:St)(U:s.Ok)(w:World)(h:s.At w w.heap.size)(av:s.ow)(a b c d:Nat×Int)(af:Bu s a b c d)(g:Bool)(ag:g=decide (a.2=0∧b.2=0∧c.2=0∧d.2=0)):
 Calls prog 166 #[.agg s.cs] w fun e w'=>e= .returned (.tuple #[.agg (if g=true then lW a.1 b.1 c.1 d.1 s.hN else lW 0 0 0 0 0),int i64 (if g=true then 0 else 10)])∧Below w.heap.size w w':=by
 obtain⟨aI,aJ,aK,aL⟩:=av;have o:Below w.heap.size w (w.alloc (.cells s.cs 46)):=hz.alloc hj _;have O:=o.alloc o.size (.cells se 230);have V:ha ((w.alloc (.cells s.cs 46)).alloc (.cells se 230)) w.heap.size 46 s.cs:=(ha.new w _ _ _ rfl).alloc _;have W:ha ((w.alloc (.cells s.cs 46)).alloc (.cells se 230)) (w.heap.size+1) 230 (lW 0 0 0 0 0):=ha.new (w.alloc (.cells s.cs 46)) _ _ _ (by simp);obtain⟨aw,X⟩:=ho ((w.alloc (.cells s.cs 46)).alloc (.cells se 230));rw[X]at O V W;have ah:=h.to O;have ax:=U.o7;obtain⟨r,Q,ay,az,R,z,A⟩:=k2 U af ag X ah V W;clear X h o af ag ah V W U;go_enter func166,ntmps166;go_wp2_with fail;rw[az.out];refine(Bm _ _ _ s.ms aw R.ms (by omega)).mono ?_;rintro e Y ⟨aM,rfl,ai,o⟩;obtain⟨aA,aB,rfl,_,aj⟩:=pT (by rw[List.length_map];exact R.ms.len Mem.len (by omega)) r.Br ai;have ak:=g' (qx aA _ aB _ _ Y aj (by omega) a Q.a);have Z:=O.trans (o.mono O.size);have aC:=(z.to o).cell r.Bo;have aD:=(z.to o).cell r.Bp;obtain⟨D,E,S⟩:=hs (R.to o) (z.to o) (A.to o);clear ai aj ax R z A;go_wp2_with fail;refine ak.mono ?_;rintro e w' ⟨rfl,rfl⟩;clear ak;go_wp2_with fail;refine hE (Aq _ _ _ _ s.us Y D.us (by omega) b (by have:=Q.b;unfold lS at this;rw[D.us.1]at this;exact this)) ?_;go_wp2_with fail;refine hI (v' _ none _ _ 0 0 s.ds [] Y D.ds (hV.nil _ _ _ _) (by omega) (by omega) (by rw[Bv];exact r.Bs) c Q.c) fun aE F=>?_;have aa:=Z.trans (F.mono Z.size);have aF:=(E.to F).cell r.Bq;obtain⟨al,z,A⟩:=hs (D.to F) (E.to F) (S.to F);clear aC aD D E S Z;go_wp2_with fail;refine hI (v' none _ 0 0 _ _ [] s.es aE (hV.nil _ _ _ _) al.es (by omega) (by omega) (by rw[Bw];exact r.Bt) d Q.d) fun T ab=>?_;have am:=aa.trans (ab.mono aa.size);obtain⟨E,S⟩:=hg (z.to ab) (A.to ab);have aG:=am.size;clear aF al z A aa;obtain⟨an,G⟩:=a;obtain⟨ao,I⟩:=b;obtain⟨ap,J⟩:=c;obtain⟨aq,K⟩:=d;go_wp2_with fail;refine hE (qB (some ⟨T.heap.size,0,none⟩) 4 4 (T.heap.size+1) [G,I,J,K] _ rfl (xb T [G,I,J,K] _ rfl 4 rfl _ _ _ rfl (by omega)) (by omega) g (Bx _ _ _ _ g ay)) ?_;have ar:=am.alloc aG (.cells #[int i64 G,int i64 I,int i64 J,int i64 K] 50);have au:=g' (S.alloc (.cells #[int i64 G,int i64 I,int i64 J,int i64 K] 50));cases g
 ·go_wp2_with (refine ob rfl 230 (.tmp 2) (.tmp 44) rfl (w.heap.size+1) (lW 0 0 0 0 0) rfl rfl 230 _ au o8 rfl (rD ..) ?_)
  intro aH ac ad _ _;have ae:=ad _ _ (by omega) ar;go_wp2;exact bodyPost_ret (v:= .tuple #[.agg (lW 0 0 0 0 0),int i64 10]) (jy results166 _ _ _ _ _ _ _ rfl rfl ac underlying230 rfl o8) rfl ⟨rfl,ae⟩
 have aN:(T.alloc (.cells #[int i64 G,int i64 I,int i64 J,int i64 K] 50)).cell? ⟨w.heap.size,28,none⟩=some (int u64 s.hN):=(E.alloc _).cell r.p1;go_wp2_with (refine ob rfl 230 (.tmp 2) (.tmp 51) rfl (w.heap.size+1) (lW an ao ap aq s.hN) rfl rfl 230 _ au o8 rfl (rD ..) ?_);intro aH ac ad _ _;have ae:=ad _ _ (by omega) ar;go_wp2;exact bodyPost_ret (v:= .tuple #[.agg (lW an ao ap aq s.hN),int i64 0]) (jy results166 _ _ _ _ _ _ _ rfl rfl ac underlying230 rfl o8) rfl ⟨rfl,ae⟩
end hC
end Go.Proofs.YtffbipddbnkdjaaGreat
