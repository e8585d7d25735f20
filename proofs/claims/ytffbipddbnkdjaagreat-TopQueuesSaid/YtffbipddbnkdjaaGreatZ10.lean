/- What functions compute at any arguments, and plain facts: Div64; Quotients of products; slices.Clone at each type of row. Conditions: those that each theorem names. -/
import Derived.Test.YtffbipddbnkdjaaGreatZ05
import Derived.Deep.CutBlock
import Derived.Deep.CutRange
import Derived.Deep.LoopGhost
import Derived.Laws.Bits64b
import Derived.Laws.MathBits
import Derived.Shelf.Small.Bits
set_option maxRecDepth 100000
set_option maxHeartbeats 40000000
set_option linter.all false
open Go Go.Proofs.Tryz
open Go.Value(int)
open Go.IntKind(i64 u64)
variable{A T:Option Addr}{n g b L k B i x a m j q c p s r d h u N y:Nat}{E z:Int}{P:Program}{w W X Z:World}{e t:TypeId}{f:Nat→Value}{l:List Bool}{V U:Value}{Y:List Nat}{S:List Value}{R:List Int}{Q:Array Value}{O:List (List Nat)}{M:Bool}{K:Ending}{J:Addr}{I:Nat→Nat}{H:Option Nat}
namespace Go.Proofs.YtffbipddbnkdjaaGreat
end Go.Proofs.YtffbipddbnkdjaaGreat
namespace Go.Proofs
open Shelf
def Tryz.AG:Go.Shelf.Ren:=⟨fun|129=>270|134=>254|n=>n,fun|3=>3|4=>4|5=>5|9=>9|46=>120|53=>22|n=>n,fun|n=>n⟩
theorem Tryz.AH:Lays.n134 Tryz.prog Tryz.AG:={
 mixed:=by kernel_rfl
 f129:=Tryz.func270.trans (congrArg some rfl)
 f134:=Tryz.func254.trans (congrArg some rfl)
 t3:=Tryz.underlying3
 a3:=Tryz.isAgg3
 z3:=Tryz.sizeOf3
 v3:=Tryz.zeroValue3
 t4:=Tryz.underlying4
 a4:=Tryz.isAgg4
 z4:=Tryz.sizeOf4
 v4:=Tryz.zeroValue4
 t5:=Tryz.underlying5
 a5:=Tryz.isAgg5
 z5:=Tryz.sizeOf5
 v5:=Tryz.zeroValue5
 t9:=Tryz.underlying9
 a9:=Tryz.isAgg9
 z9:=Tryz.sizeOf9
 v9:=Tryz.zeroValue9
 t46:=Tryz.underlying120
 a46:=Tryz.isAgg120
 z46:=Tryz.sizeOf120
 v46:=Tryz.zeroValue120
 t53:=Tryz.underlying22
 a53:=Tryz.isAgg22
 z53:=Tryz.sizeOf22
 v53:=Tryz.zeroValue22}
end Go.Proofs
namespace Go.Proofs.YtffbipddbnkdjaaGreat
namespace hB
open RowKit
open hG hf
theorem AI(x:Nat)(z:x<18446744073709551616)(s:Nat)(r:s=64-Lib.bitLen x)(w:World):
 Calls prog 254 #[int u64 x] w fun e w'=>e= .returned (int i64 s)∧w=w':=by
 have h:=Any.bits_LeadingZeros64 Tryz.AH x w (by omega) (by omega);have o:=Any.bitLen_le64 (x:Int) (by omega) (by omega);rw[Int.toNat_natCast]at o h;subst r;exact h.mono fun e w' h=>⟨by rw[h.1,Int.ofNat_sub o];rfl,h.2.symm⟩
theorem AJ(h l y:Nat)(aS:h<y)(aJ:l<18446744073709551616)(aK:y<18446744073709551616)(w:World)(q r:Nat)(av:q=(h*18446744073709551616+l)/y)(K:r=(h*18446744073709551616+l)%y):
 Calls prog 217 #[int u64 h,int u64 l,int u64 y] w fun e w'=>e= .returned (.tuple #[int u64 q,int u64 r])∧Below w.heap.size w w':=by
 have b4:(y==0)=false:=by rw[beq_eq_false_iff_ne];omega
 have b5:((y:Int)==0)=false:=by rw[beq_eq_false_iff_ne];omega
 have b6:decide (y≤h)=false:=by simp;omega
 by_cases aT:h=0
 ·rw[aT,Nat.zero_mul,Nat.zero_add]at av K
  have bu:((h:Int)==0)=true:=by rw[beq_iff_eq];omega
  have b7:(y=0)=False:=by simp;omega
  have bv:u64.wrap ((l:Int)/(y:Int))=(q:Int):=by
   have e:(l:Int)/(y:Int)=(q:Int):=by rw[av];rfl
   rw[e];refine IntWalk.u64_in _ ?_;have:=Nat.div_le_self l y;omega
  have wr:(l:Int).tmod (y:Int)=(r:Int):=by rw[K];rfl
  clear av K aS aJ aK aT;go_enter func217,ntmps217;go_wp2;refine j8 (fun w'=>True) (by kernel_rfl) (by rintro _ _ (_|_) _ _ h<;>exact h) trivial fun b8 bb=>?_;refine lQ (by rintro _ _ (_|_) _ _ h<;>exact h) 8 (i' 0 8 []) bb (by kernel_rfl) ?_;iterate 8(refine iu rfl rfl (fun w' b9=>by try simp only[S3];skip;go_simp;try rfl) ?_;try simp only[S4,S3])
  refine il ?_;clear bb;refine wpAnyH_done (by kernel_rfl) ?_ _;go_wp2;go_ret2;exact⟨rfl,below_drewN hz _⟩
 have bu:((h:Int)==0)=false:=by rw[beq_eq_false_iff_ne];omega
 obtain⟨s,ac⟩:=hk (64-Lib.bitLen y);have bw:=g' (fun W=>AI y aK s ac W);have aU:=Any.bitLen_le64 (y:Int) (by omega) (by omega);rw[Int.toNat_natCast]at aU;obtain⟨bx,bc,bd⟩:=nT.norm (by omega) aK aU;rw[←ac]at bx bc bd;clear ac aU;have be:=nT.wide (h:=h) (l:=l) (s:=s) (by omega);have bf:=nT.wq (s:=s) (by omega);have bz:0<2^s:=Nat.pow_pos (by omega);have bA:h*2^s+2^s≤y*2^s:=by
  have:=Nat.mul_le_mul_right (2^s) aS;rwa[Nat.succ_mul]at this
 have bg:l/2^(64-s)<2^s:=by
  rw[Nat.div_lt_iff_lt_mul (Nat.pow_pos (by omega)),Nat.mul_comm,bf];exact aJ
 have bh:h*2^s|||l/2^(64-s)=h*2^s+l/2^(64-s):=by
  rw[Nat.mul_comm,Nat.two_pow_add_eq_or_of_lt bg]
 obtain⟨v,aV⟩:=hk (y*2^s);obtain⟨ac,aw⟩:=hk (h*2^s);obtain⟨aL,ax⟩:=hk (l/2^(64-s));obtain⟨u1,aW⟩:=hk (l*2^s%18446744073709551616);have b':u64.wrap ((y:Int)*2^s)=(v:Int):=by
  have e:(y:Int)*2^s=(v:Int):=by rw[aV];push_cast;rfl
  rw[e];exact IntWalk.u64_in _ (by omega)
 have ca:u64.wrap ((h:Int)*2^s)=(ac:Int):=by
  have e:(h:Int)*2^s=(ac:Int):=by rw[aw];push_cast;rfl
  rw[e];exact IntWalk.u64_in _ (by omega)
 have cb:u64.wrap ((l:Int)*2^s)=(u1:Int):=by
  have e:(l:Int)*2^s=((l*2^s:Nat):Int):=by push_cast;rfl
  rw[e,aW];show((l*2^s:Nat):Int)%18446744073709551616=_;omega
 have cc:(l:Int)/2^(64-s)=(aL:Int):=by rw[ax];push_cast;rfl
 obtain⟨E,aX⟩:=hk (ac+aL);have cd:bits BinOp.or IntKind.u64 (ac:Int) (aL:Int)=(E:Int):=by
  rw[bits_or_u64_nat ac aL (by omega) (by rw[ax];exact Nat.lt_of_le_of_lt (Nat.div_le_self _ _) aJ),aX,aw,ax,bh]
 obtain⟨a,Y⟩:=hk (v/4294967296);obtain⟨b,bB⟩:=hk (v%4294967296);obtain⟨O,bC⟩:=hk (u1/4294967296);obtain⟨R,bD⟩:=hk (u1%4294967296);have ce:(v:Int)/4294967296=(a:Int):=by omega
 have cf:bits BinOp.and IntKind.u64 (v:Int) 4294967295=(b:Int):=by rw[and_low32 _ (by omega) (by omega)];omega
 have cg:(u1:Int)/4294967296=(O:Int):=by omega
 have ch:bits BinOp.and IntKind.u64 (u1:Int) 4294967295=(R:Int):=by rw[and_low32 _ (by omega) (by omega)];omega
 have ci:(a=0)=False:=by simp;omega
 obtain⟨ar,ay⟩:=hk (E/a);obtain⟨az,aM⟩:=hk (E%a);obtain⟨aN,aY⟩:=hk (ar*a);have bE:aN+az=E:=by rw[aY,ay,aM,Nat.mul_comm];exact Nat.div_add_mod E a
 have bv:u64.wrap ((E:Int)/(a:Int))=(ar:Int):=by
  have e:(E:Int)/(a:Int)=(ar:Int):=by rw[ay];rfl
  rw[e];refine IntWalk.u64_in _ ?_;have:=Nat.div_le_self E a;omega
 have cj:u64.wrap ((ar:Int)*(a:Int))=(aN:Int):=by
  have e:(ar:Int)*(a:Int)=(aN:Int):=by rw[aY];push_cast;rfl
  rw[e];exact IntWalk.u64_in _ (by omega)
 have wr:u64.wrap ((E:Int) -(aN:Int))=(az:Int):=(IntWalk.u64_in _ (by omega)).trans (by omega);obtain⟨al,S⟩:=nT.ji.start (v:=v) (a:=a) (b:=b) (u:=E) (d:=O) (by omega) (by omega) (by omega) (by omega) (by omega);rw[←ay,←aM]at al;rw[←ay]at S;obtain⟨bF,bG⟩:=hg al S;have bH:az<a:=by rw[aM];exact Nat.mod_lt _ (by omega)
 have bI:=g' (show az<4294967296 by omega);clear al S ay aM aY bE;have bi:v=a*4294967296+b:=by omega
 obtain⟨ad,bJ,bK,bL,bM,ck⟩:=ku (show v=a*4294967296+b∧b<4294967296∧E<v∧O<4294967296∧R<4294967296∧2147483648≤a∧v<18446744073709551616∧u1=O*4294967296+R from⟨bi,by omega,by omega,by omega,by omega,by omega,by omega,by omega⟩) (show(h*18446744073709551616+l)*2^s=E*18446744073709551616+u1 by rw[be,←aw,←ax,←aX,←aW]) aV av K aw;clear bH be aV av K bi bB Y bC bD aX aW ax aw bh bg bA bf bc bd aS aJ aK bz aT;go_enter func217,ntmps217;go_wp2_with fail;refine hE (bw _) ?_;go_upto_block 0 with fail
 obtain⟨ae,bj⟩:=hk ((E*4294967296+O)/v);have aA:=g' bj;clear bj;go_cut [15,16]from 67 to 85 (fun c d aZ=>c=int u64 ae∧(∃x:Nat,d=int u64 x)∧aZ=w)
 case first=>
  go_wp2_with fail;go_loop [15,16] (fun c d=>∃g z:Nat,c=int u64 g∧d=int u64 z∧g≤4294967297∧z<4294967296∧nT.ji v a b E O g z) (fun c _=>(intOf c).toNat)
  case atStart=>exact⟨ar,az,rfl,rfl,bG,bI,bF⟩
  case round=>
   obtain⟨g,z,rfl,rfl,aa,K,F⟩:=hrel;by_cases Z:4294967296≤g
   ·have a0:decide ((4294967296:Int)≤(g:Int))=true:=by simp;omega
    have I:4294967296≤g∨4294967296*z+O<g*b:= .inl Z;clear Z;have T:=F.less I;have D:=F.step I;obtain⟨J,U⟩:=hk (g-1);obtain⟨o,V⟩:=hk (z+a);rw[←U,←V]at D;have ab:0<g:=Nat.lt_of_le_of_lt (h6) T;have Y:a<4294967296:=by have:=ad.out;omega
    have a1:u64.wrap ((g:Int) -1)=(J:Int):=(IntWalk.u64_in _ (by omega)).trans (by omega);have a2:u64.wrap ((z:Int)+(a:Int))=(o:Int):=(IntWalk.u64_in _ (by omega)).trans (by omega);by_cases X:4294967296≤o
    ·have am:decide ((4294967296:Int)≤(o:Int))=true:=by simp;omega
     have A:=g' ((D.full (by omega) X).trans aA.symm);clear T D U V F I aa K X ab Y;go_wp2;go_meet;exact⟨by rw[A.out],⟨o,rfl⟩,rfl⟩
    have am:decide ((4294967296:Int)≤(o:Int))=false:=by simp;omega
    obtain⟨A,an⟩:=hg (show J≤4294967297∧o<4294967296∧J<g from⟨by omega,by omega,by omega⟩) D;clear T D U V F I aa K X ab Y;go_wp2;have ao:=A.2.2;exact⟨⟨J,o,rfl,rfl,A.1,A.2.1,an⟩,by simpa[intOf]using ao⟩
   have a0:decide ((4294967296:Int)≤(g:Int))=false:=by simp;omega
   have Q:=ad.out;obtain⟨af,S⟩:=hk (g*b);have aB:af<18446744073709551616:=by
    have:=Nat.mul_le_mul (Nat.le_of_lt (Nat.lt_of_not_le Z)) (Nat.le_of_lt Q.2.1);have bN:g*b<4294967296*4294967296:=Nat.mul_lt_mul'' (Nat.lt_of_not_le Z) Q.2.1;omega
   have bO:u64.wrap ((g:Int)*(b:Int))=(af:Int):=by
    have e:(g:Int)*(b:Int)=(af:Int):=by rw[S];push_cast;rfl
    rw[e];exact IntWalk.u64_in _ (by omega)
   obtain⟨m,aC⟩:=hk (4294967296*z);obtain⟨t,aD⟩:=hk (m+O);have bP:u64.wrap ((4294967296:Int)*(z:Int))=(m:Int):=(IntWalk.u64_in _ (by omega)).trans (by omega);have bQ:u64.wrap ((m:Int)+(O:Int))=(t:Int):=(IntWalk.u64_in _ (by omega)).trans (by omega);by_cases ag:t<af
   ·have a3:=hZ ag
    have I:4294967296≤g∨4294967296*z+O<g*b:= .inr (by omega);clear Z ag aB aC aD S Q;have T:=F.less I;have D:=F.step I;obtain⟨J,U⟩:=hk (g-1);obtain⟨o,V⟩:=hk (z+a);rw[←U,←V]at D;have ab:0<g:=Nat.lt_of_le_of_lt (h6) T;have Y:a<4294967296:=by have:=ad.out;omega
    have a1:u64.wrap ((g:Int) -1)=(J:Int):=(IntWalk.u64_in _ (by omega)).trans (by omega);have a2:u64.wrap ((z:Int)+(a:Int))=(o:Int):=(IntWalk.u64_in _ (by omega)).trans (by omega);by_cases X:4294967296≤o
    ·have am:decide ((4294967296:Int)≤(o:Int))=true:=by simp;omega
     have A:=g' ((D.full (by omega) X).trans aA.symm);clear T D U V F I aa K X ab Y;go_wp2;go_meet;exact⟨by rw[A.out],⟨o,rfl⟩,rfl⟩
    have am:decide ((4294967296:Int)≤(o:Int))=false:=by simp;omega
    obtain⟨A,an⟩:=hg (show J≤4294967297∧o<4294967296∧J<g from⟨by omega,by omega,by omega⟩) D;clear T D U V F I aa K X ab Y;go_wp2;have ao:=A.2.2;exact⟨⟨J,o,rfl,rfl,A.1,A.2.1,an⟩,by simpa[intOf]using ao⟩
   have a3:=h1 ag;have A:=g' ((F.stop (by omega)).trans aA.symm);clear Z ag aB aC aD S Q F aa K;go_wp2;go_meet;exact⟨by rw[A.out],⟨z,rfl⟩,rfl⟩
 case rest=>
  obtain⟨rfl,⟨cl,rfl⟩,rfl⟩:=hcut;obtain⟨G,a4⟩:=hk ((E*4294967296+O)%v);obtain⟨ah,ai⟩:=hk (ae*v);have Q:=ad.out;have aE:E*4294967296+O=ah+G:=by
   have:=Nat.div_add_mod (E*4294967296+O) v;rw[←a4,←aA.out,Nat.mul_comm v ae,←ai]at this;omega
  have aO:G<v:=by rw[a4];exact Nat.mod_lt _ (by omega)
  obtain⟨aj,a5⟩:=hk (E*4294967296%18446744073709551616);obtain⟨ap,a6⟩:=hk ((aj+O)%18446744073709551616);obtain⟨aq,a7⟩:=hk (ah%18446744073709551616);have bR:u64.wrap ((E:Int)*4294967296)=(aj:Int):=by
   show((E:Int)*4294967296)%18446744073709551616=_;omega
  have bS:u64.wrap ((aj:Int)+(O:Int))=(ap:Int):=by
   show((aj:Int)+(O:Int))%18446744073709551616=_;omega
  have bT:u64.wrap ((ae:Int)*(v:Int))=(aq:Int):=by
   have e:(ae:Int)*(v:Int)=(ah:Int):=by rw[ai];push_cast;rfl
   rw[e];show(ah:Int)%18446744073709551616=_;omega
  have bU:u64.wrap ((ap:Int) -(aq:Int))=(G:Int):=by
   show((ap:Int) -(aq:Int))%18446744073709551616=_;omega
  obtain⟨bV,bk⟩:=hg (show E*4294967296+O=ae*v+G by rw[←ai];exact aE) aO;clear aE aO ai a5 a6 a7 a4 Q;obtain⟨au,aF⟩:=hk (G/a);obtain⟨aG,aP⟩:=hk (G%a);obtain⟨aQ,a8⟩:=hk (au*a);have Q:=ad.out;have aO:=bk.out;have bW:aQ+aG=G:=by rw[a8,aF,aP,Nat.mul_comm];exact Nat.div_add_mod G a
  have cm:u64.wrap ((G:Int)/(a:Int))=(au:Int):=by
   have e:(G:Int)/(a:Int)=(au:Int):=by rw[aF];rfl
   rw[e];refine IntWalk.u64_in _ ?_;have:=Nat.div_le_self G a;omega
  have cn:u64.wrap ((au:Int)*(a:Int))=(aQ:Int):=by
   have e:(au:Int)*(a:Int)=(aQ:Int):=by rw[a8];push_cast;rfl
   rw[e];exact IntWalk.u64_in _ (by omega)
  have co:u64.wrap ((G:Int) -(aQ:Int))=(aG:Int):=(IntWalk.u64_in _ (by omega)).trans (by omega);obtain⟨al,S⟩:=nT.ji.start (v:=v) (a:=a) (b:=b) (u:=G) (d:=R) (by omega) (by omega) (by omega) (by omega) (by omega);rw[←aF,←aP]at al;rw[←aF]at S;obtain⟨bX,bY⟩:=hg al S;have bZ:aG<a:=by rw[aP];exact Nat.mod_lt _ (by omega)
  have b0:=g' (show aG<4294967296 by omega);clear al S aF aP a8 bW bZ Q aO;go_upto_block 2 with fail
  obtain⟨ak,bl⟩:=hk ((G*4294967296+R)/v);have aH:=g' bl;clear bl;go_cut [18,16]from 102 to 120 (fun c d aZ=>c=int u64 ak∧(∃x:Nat,d=int u64 x)∧aZ=wc)
  case first=>
   go_wp2_with fail;go_loop [18,16] (fun c d=>∃g z:Nat,c=int u64 g∧d=int u64 z∧g≤4294967297∧z<4294967296∧nT.ji v a b G R g z) (fun c _=>(intOf c).toNat)
   case atStart=>exact⟨au,aG,rfl,rfl,bY,b0,bX⟩
   case round=>
    obtain⟨g,z,rfl,rfl,aa,K,F⟩:=hrel;by_cases Z:4294967296≤g
    ·have a0:decide ((4294967296:Int)≤(g:Int))=true:=by simp;omega
     have I:4294967296≤g∨4294967296*z+R<g*b:= .inl Z;clear Z;have T:=F.less I;have D:=F.step I;obtain⟨J,U⟩:=hk (g-1);obtain⟨o,V⟩:=hk (z+a);rw[←U,←V]at D;have ab:0<g:=Nat.lt_of_le_of_lt (h6) T;have Y:a<4294967296:=by have:=ad.out;omega
     have a1:u64.wrap ((g:Int) -1)=(J:Int):=(IntWalk.u64_in _ (by omega)).trans (by omega);have a2:u64.wrap ((z:Int)+(a:Int))=(o:Int):=(IntWalk.u64_in _ (by omega)).trans (by omega);by_cases X:4294967296≤o
     ·have am:decide ((4294967296:Int)≤(o:Int))=true:=by simp;omega
      have A:=g' ((D.full (by omega) X).trans aH.symm);clear T D U V F I aa K X ab Y;go_wp2;go_meet;exact⟨by rw[A.out],⟨o,rfl⟩,rfl⟩
     have am:decide ((4294967296:Int)≤(o:Int))=false:=by simp;omega
     obtain⟨A,an⟩:=hg (show J≤4294967297∧o<4294967296∧J<g from⟨by omega,by omega,by omega⟩) D;clear T D U V F I aa K X ab Y;go_wp2;have ao:=A.2.2;exact⟨⟨J,o,rfl,rfl,A.1,A.2.1,an⟩,by simpa[intOf]using ao⟩
    have a0:decide ((4294967296:Int)≤(g:Int))=false:=by simp;omega
    have Q:=ad.out;obtain⟨af,S⟩:=hk (g*b);have aB:af<18446744073709551616:=by
     have:=Nat.mul_le_mul (Nat.le_of_lt (Nat.lt_of_not_le Z)) (Nat.le_of_lt Q.2.1);have bN:g*b<4294967296*4294967296:=Nat.mul_lt_mul'' (Nat.lt_of_not_le Z) Q.2.1;omega
    have bO:u64.wrap ((g:Int)*(b:Int))=(af:Int):=by
     have e:(g:Int)*(b:Int)=(af:Int):=by rw[S];push_cast;rfl
     rw[e];exact IntWalk.u64_in _ (by omega)
    obtain⟨m,aC⟩:=hk (4294967296*z);obtain⟨t,aD⟩:=hk (m+R);have bP:u64.wrap ((4294967296:Int)*(z:Int))=(m:Int):=(IntWalk.u64_in _ (by omega)).trans (by omega);have bQ:u64.wrap ((m:Int)+(R:Int))=(t:Int):=(IntWalk.u64_in _ (by omega)).trans (by omega);by_cases ag:t<af
    ·have a3:=hZ ag
     have I:4294967296≤g∨4294967296*z+R<g*b:= .inr (by omega);clear Z ag aB aC aD S Q;have T:=F.less I;have D:=F.step I;obtain⟨J,U⟩:=hk (g-1);obtain⟨o,V⟩:=hk (z+a);rw[←U,←V]at D;have ab:0<g:=Nat.lt_of_le_of_lt (h6) T;have Y:a<4294967296:=by have:=ad.out;omega
     have a1:u64.wrap ((g:Int) -1)=(J:Int):=(IntWalk.u64_in _ (by omega)).trans (by omega);have a2:u64.wrap ((z:Int)+(a:Int))=(o:Int):=(IntWalk.u64_in _ (by omega)).trans (by omega);by_cases X:4294967296≤o
     ·have am:decide ((4294967296:Int)≤(o:Int))=true:=by simp;omega
      have A:=g' ((D.full (by omega) X).trans aH.symm);clear T D U V F I aa K X ab Y;go_wp2;go_meet;exact⟨by rw[A.out],⟨o,rfl⟩,rfl⟩
     have am:decide ((4294967296:Int)≤(o:Int))=false:=by simp;omega
     obtain⟨A,an⟩:=hg (show J≤4294967297∧o<4294967296∧J<g from⟨by omega,by omega,by omega⟩) D;clear T D U V F I aa K X ab Y;go_wp2;have ao:=A.2.2;exact⟨⟨J,o,rfl,rfl,A.1,A.2.1,an⟩,by simpa[intOf]using ao⟩
    have a3:=h1 ag;have A:=g' ((F.stop (by omega)).trans aH.symm);clear Z ag aB aC aD S Q F aa K;go_wp2;go_meet;exact⟨by rw[A.out],⟨z,rfl⟩,rfl⟩
  case rest=>
   obtain⟨rfl,⟨cp,rfl⟩,rfl⟩:=hcut;obtain⟨aI,a9⟩:=hk ((G*4294967296+R)%v);obtain⟨ah,ai⟩:=hk (ak*v);have Q:=ad.out;have aE:G*4294967296+R=ah+aI:=by
    have:=Nat.div_add_mod (G*4294967296+R) v;rw[←a9,←aH.out,Nat.mul_comm v ak,←ai]at this;omega
   have bm:aI<v:=by rw[a9];exact Nat.mod_lt _ (by omega)
   have a':0<v:=by omega
   have b1:ae<4294967296:=by
    rw[aA.out,Nat.div_lt_iff_lt_mul a',Nat.mul_comm];have:=Nat.mul_le_mul_right 4294967296 Q.2.2.1;omega
   have b2:ak<4294967296:=by
    rw[aH.out,Nat.div_lt_iff_lt_mul a',Nat.mul_comm];have:=Nat.mul_le_mul_right 4294967296 bk;omega
   obtain⟨ba,bn⟩:=hk (ae*4294967296);have cq:u64.wrap ((ae:Int)*4294967296)=(ba:Int):=(IntWalk.u64_in _ (by omega)).trans (by omega);have aR:=bK.out;have bo:0<y:=by
    rcases Nat.eq_zero_or_pos y with h|h
    ·subst h;rw[Nat.zero_mul]at aR;omega
    exact h
   have bp:(h*18446744073709551616+l)*2^s=(ba+ak)*(y*2^s)+aI:=by
    rw[←aR,bn];exact nT.nU bV bJ Q.2.2.2.2.2.2.2 (by rw[aE,ai])
   obtain⟨bq,br⟩:=nT.fin bo bp (by rw[←aR];exact bm);have b3:=bL.trans bq;have bt:=bM.trans br;obtain⟨aj,a5⟩:=hk (G*4294967296%18446744073709551616);obtain⟨ap,a6⟩:=hk ((aj+R)%18446744073709551616);obtain⟨aq,a7⟩:=hk (ah%18446744073709551616);have cr:u64.wrap ((ba:Int)+(ak:Int))=(q:Int):=(IntWalk.u64_in _ (by omega)).trans (by omega);have bR:u64.wrap ((G:Int)*4294967296)=(aj:Int):=by
    show((G:Int)*4294967296)%18446744073709551616=_;omega
   have bS:u64.wrap ((aj:Int)+(R:Int))=(ap:Int):=by
    show((aj:Int)+(R:Int))%18446744073709551616=_;omega
   have bT:u64.wrap ((ak:Int)*(v:Int))=(aq:Int):=by
    have e:(ak:Int)*(v:Int)=(ah:Int):=by rw[ai];push_cast;rfl
    rw[e];show(ah:Int)%18446744073709551616=_;omega
   have bU:u64.wrap ((ap:Int) -(aq:Int))=(aI:Int):=by
    show((ap:Int) -(aq:Int))%18446744073709551616=_;omega
   have cs:(aI:Int)/2^s=(r:Int):=by rw[bt];push_cast;rfl
   clear a5 a6 a7 b3 bt bq br bp bo aR bn b2 b1 a' bm aE Q ai a9;go_wp2;go_ret2;exact⟨rfl,hz⟩
def sC(N c:Nat):Nat×Nat×Bool:=if N/18446744073709551616<c then(N/c,N%c,true)else(0,0,false)
theorem wN(N c:Nat)(I:c<18446744073709551616)(w:World)(r:Nat×Nat×Bool)(o:r=sC N c):
 Calls prog 154 #[.agg (lG N),int u64 c] w fun e w'=>e= .returned (.tuple #[int u64 r.1,int u64 r.2.1,.bool r.2.2])∧Below w.heap.size w w':=by
 have D:Below w.heap.size w (w.alloc (.cells (lG N) 154)):=hz.alloc hj _;have z:N=N/18446744073709551616*18446744073709551616+N%18446744073709551616:=by omega
 unfold sC at o;have E:N%18446744073709551616<18446744073709551616:=Nat.mod_lt _ (by omega);unfold lG at*;obtain⟨h,J⟩:=ho (N/18446744073709551616);obtain⟨l,K⟩:=ho (N%18446744073709551616);rw[J,K]at z D⊢;rw[J]at o;rw[K]at E;clear J K;obtain⟨q,F⟩:=ho (N/c);obtain⟨m,G⟩:=ho (N%c);rw[F,G]at o;by_cases A:h<c
 ·have Q:decide (c≤h)=false:=by simp;omega
  have H:=g' (fun W=>AJ h l c A E I W q m (by rw[←z,F]) (by rw[←z,G]));rw[if_pos A]at o;subst o;clear A E I z F G;go_enter func154,ntmps154;go_wp2_with fail;refine hI (H _) fun S O=>?_;have R:=hJ D O;clear O D;go_wp2;go_ret3;exact⟨rfl,R⟩
 have Q:decide (c≤h)=true:=by simp;omega
 rw[if_neg A]at o;subst o;clear A E I z F G;go_enter func154,ntmps154;go_wp2;go_ret3;exact⟨rfl,D⟩
def rB(N c:Nat):Array Value:= #[int u64 ((N/18446744073709551616:Nat):Int),int u64 ((N%18446744073709551616:Nat):Int),int u64 c]
instance{N c:Nat}:hf.jP (rB N c) fun o r=>(∀j,o.frozen? ⟨r,j,none⟩=false)∧hf.hh o r 0 (int u64 ((N/18446744073709551616:Nat):Int))∧hf.hh o r 1 (int u64 ((N%18446744073709551616:Nat):Int))∧hf.hh o r 2 (int u64 c):=⟨fun h=>⟨h.frozen,hf.jX h⟩⟩
def mr(N c:Nat):Nat×Nat×Int:=if c=0 then(0,0,20)else if N/18446744073709551616<c then(N/c,N%c,0)else(0,0,10)
theorem A3(N:Nat):(prog.info? 154).map (·.size)=some (lG N).toList.length:=by kernel_rfl
theorem A4(N c:Nat)(j:Nat)(v:Value)(h:(lG N).toList[j]?=some v):(rB N c)[j]?=some v:=by
 unfold lG at h;rcases j with _|_|j
 ·exact h
 ·exact h
 simp at h
theorem A5(N c:Nat)(A:c<18446744073709551616)(w:World)(r:Nat×Nat×Int)(o:r=mr N c):
 Calls prog 83 #[.agg (rB N c)] w fun e w'=>e= .returned (.tuple #[int u64 r.1,int u64 r.2.1,int i64 r.2.2])∧Below w.heap.size w w':=by
 unfold mr at o;obtain⟨T,G,I,J⟩:=iF w (rB N c) 157;obtain⟨K,O⟩:=hg J G;clear G J;have U:=K.all;by_cases D:c=0
 ·subst D
  rw[if_pos rfl]at o;subst o;clear A;go_enter func83,ntmps83;go_upto_region 1 with(fail)
  rw[O.out];go_wp2;go_ret3;exact⟨rfl,I⟩
 have V:((c:Int)==0)=false:=by rw[beq_eq_false_iff_ne];omega
 rw[if_neg D]at o;by_cases z:N/18446744073709551616<c;focus
  rw[if_pos z]at o;obtain⟨q,E⟩:=ho (N/c);obtain⟨m,F⟩:=ho (N%c);have H:=g' (fun W=>wN N c A W (q,m,true) (by unfold sC;rw[if_pos z,E,F]));rw[E,F]at o;subst o;clear z D A E F
 rotate_left;focus
  rw[if_neg z]at o;have H:=g' (fun W=>wN N c A W (0,0,false) (by unfold sC;rw[if_neg z]));subst o;clear z D A
 all_goals
  go_enter func83,ntmps83;go_upto_region 1 with(fail)
  rw[O.out];go_wp2_with (refine wpList_load_mid rfl 154 (.tmp 10) rfl w.heap.size 0 rfl (lG N).toList _ (fun j v R=>by rw[Nat.zero_add];exact K.cell (A4 _ _ _ _ R)) underlying154 rfl (A3 _) ?_);go_wp2_with fail;refine hI (H _) fun X Q=>?_;have S:=hJ I Q;clear Q;go_wp2;go_ret3;exact⟨rfl,S⟩
theorem wO(a b c:Nat)(o:a<18446744073709551616)(z:b<18446744073709551616)(A:c<18446744073709551616)(w:World)(r:Nat×Nat×Int)(D:r=mr (a*b) c):
 Calls prog 47 #[int u64 a,int u64 b,int u64 c] w fun e w'=>e= .returned (.tuple #[int u64 r.1,int u64 r.2.1,int i64 r.2.2])∧Below w.heap.size w w':=by
 obtain⟨G,I⟩:=hg (fun W=>tS a b o z W) (fun W=>A5 (a*b) c A W r D);obtain⟨K,O,Q⟩:=r;clear o z A D;generalize a*b=N at*;go_enter func47,ntmps47;go_wp2_with fail;refine hI (G _) fun R E=>?_;go_wp2_with (refine wpList_build rfl 157 #[(0,.tmp 11),(1,.tmp 12)] rfl (.agg (rB N c)) (fun w'=>by kernel_rfl) ?_);refine hI (I _) fun S F=>?_;have J:=hJ E F;clear E F;go_wp2;go_ret3;exact⟨rfl,J⟩
def mO(a b c:Nat):Nat×Int:=((mr (a*b) c).1,(mr (a*b) c).2.2)
theorem sD(a b c:Nat)(A:a<18446744073709551616)(D:b<18446744073709551616)(E:c<18446744073709551616)(w:World)(r:Nat×Int)(o:r=mO a b c):
 Calls prog 24 #[int u64 a,int u64 b,int u64 c] w fun e w'=>e= .returned (.tuple #[int u64 r.1,int i64 r.2])∧Below w.heap.size w w':=by
 obtain⟨F,z⟩:∃x:Nat×Nat×Int,x=mr (a*b) c:=⟨_,rfl⟩;have H:=g' (fun W=>wO a b c A D E W F z);unfold mO at o;rw[←z]at o;obtain⟨I,J,K⟩:=F;subst o;clear A D E z;go_enter func24,ntmps24;go_wp2_with fail;refine hI (H _) fun O G=>?_;go_wp2;go_ret2;exact⟨rfl,G⟩
def sE(a b c:Nat):Nat×Int:=
 let r:=mr (a*b) c;if r.2.2≠0∨r.2.1=0 then(r.1,r.2.2)else if r.1=18446744073709551615 then(0,10)else(r.1+1,0)
theorem wP(N c:Nat)(z:c<18446744073709551616):(mr N c).1<18446744073709551616∧(mr N c).2.1<18446744073709551616:=by
 unfold mr;by_cases r:c=0
 ·rw[if_pos r];exact⟨by show(0:Nat)<_;omega,by show(0:Nat)<_;omega⟩
 rw[if_neg r];by_cases o:N/18446744073709551616<c
 ·rw[if_pos o]
  constructor
  ·show N/c<_
   rw[Nat.div_lt_iff_lt_mul (by omega),Nat.mul_comm];rw[Nat.div_lt_iff_lt_mul (by omega)]at o;exact o
  show N%c<_;have:=Nat.mod_lt N (show 0<c by omega);omega
 rw[if_neg o];exact⟨by show(0:Nat)<_;omega,by show(0:Nat)<_;omega⟩
theorem wQ(a b c:Nat)(K:a<18446744073709551616)(O:b<18446744073709551616)(E:c<18446744073709551616)(w:World)(r:Nat×Int)(o:r=sE a b c):
 Calls prog 93 #[int u64 a,int u64 b,int u64 c] w fun e w'=>e= .returned (.tuple #[int u64 r.1,int i64 r.2])∧Below w.heap.size w w':=by
 have z:=wP (a*b) c E;obtain⟨Q,F⟩:∃x:Nat×Nat×Int,x=mr (a*b) c:=⟨_,rfl⟩;have H:=g' (fun W=>wO a b c K O E W Q F);unfold sE at o;simp only[←F]at o z;obtain⟨A,R,G⟩:=Q;clear K O E F;simp only at z o;by_cases D:G=0;focus
  subst D;by_cases I:R=0;focus
   subst I;rw[if_pos (.inr rfl)]at o;subst o;clear z
  rotate_left;focus
   have U:((R:Int)==0)=false:=by rw[beq_eq_false_iff_ne];omega
   rw[if_neg (by simp[I])]at o;by_cases J:A=18446744073709551615;focus
    have S:((A:Int)==18446744073709551615)=true:=by rw[beq_iff_eq];omega
    rw[if_pos J]at o
   rotate_left;focus
    have S:((A:Int)==18446744073709551615)=false:=by rw[beq_eq_false_iff_ne];omega
    rw[if_neg J]at o;have V:u64.wrap ((A:Int)+1)=((A+1:Nat):Int):=(IntWalk.u64_in _ (by omega)).trans (by omega)
   all_goals
    subst o;clear z J I
 rotate_left 3;focus
  have X:(G==0)=false:=by rw[beq_eq_false_iff_ne];exact D
  have Y:(G !=0)=true:=by rw[bne_iff_ne];exact D
  rw[if_pos (.inl D)]at o;subst o;clear z D
 all_goals
  go_enter func93,ntmps93;go_wp2_with fail;refine hI (H _) fun Z T=>?_;go_wp2;go_ret2;exact⟨rfl,T⟩
open hU
theorem wR:(prog.info? 22).map (fun i=>(i.zero,i.size,i.bytes))=some (some (int u64 0),1,8):=by kernel_rfl
theorem wS(A:Option Addr)(n c:Nat)(xs:List Value)(w:World)(h:hV w w.heap.size A n 1 xs)(z:∀u∈xs,u.oneCell'=true)(W:n≤1000000)(D:A=none→n=0∧c=0):
 Calls prog 31 #[.slice A n c] w fun e w'=>∃v,e= .returned v∧w'.ownsRow w.heap.size 22 1 v n xs∧Below w.heap.size w w':=by
 obtain⟨E,F,G,I,J⟩:=info_parts wR;rcases A with _|o
 ·obtain⟨rfl,rfl⟩:=D rfl
  have K:xs=[]:=List.eq_nil_of_length_eq_zero (by have:=h.1;omega);subst K;have O:=fun w=>Lib.run_eql_slice_nil (P:=prog) w 25 22 none 0 0 0 0 kO;go_enter func31,ntmps31;go_wp2;go_ret;exact⟨_,rfl,World.ownsRow_nil _ _ _ _,hz⟩
 have O:=fun w=>Lib.run_eql_slice_nil (P:=prog) w 25 22 (some o) n c 0 0 kO;have Q:=h.to (show Below w.heap.size w (w.alloc (.cells #[] 22))from hz.alloc hj _);go_enter func31,ntmps31;go_wp2_with (at_builtin;refine mK _ rfl _ _ 25 rfl w.heap.size 22 E (int u64 0) 1 8 kO F G I J rfl (by decide) _ _ _ rfl (nS w 22 w.heap.size 1 hj) (some o) n c _ rfl Q z ?_ ?_ (by simp) ?_)
 ·unfold maxLen;omega
 ·omega
 intro v r R S;have T:r.ownsRow w.heap.size 22 1 v n xs:=by simpa using R
 have U:Below w.heap.size w r:=(hz.alloc hj (.cells #[] 22)).grown S (by simp) (fun k V=>by cases V;exact hj);go_wp2;go_ret;exact⟨_,rfl,T,U⟩
theorem A6:(prog.info? 3).map (fun i=>(i.zero,i.size,i.bytes))=some (some (int i64 0),1,8):=by kernel_rfl
theorem wT(A:Option Addr)(n c:Nat)(xs:List Value)(w:World)(h:hV w w.heap.size A n 1 xs)(z:∀u∈xs,u.oneCell'=true)(W:n≤1000000)(D:A=none→n=0∧c=0):
 Calls prog 33 #[.slice A n c] w fun e w'=>∃v,e= .returned v∧w'.ownsRow w.heap.size 3 1 v n xs∧Below w.heap.size w w':=by
 obtain⟨E,F,G,I,J⟩:=info_parts A6;rcases A with _|o
 ·obtain⟨rfl,rfl⟩:=D rfl
  have K:xs=[]:=List.eq_nil_of_length_eq_zero (by have:=h.1;omega);subst K;have O:=fun w=>Lib.run_eql_slice_nil (P:=prog) w 40 3 none 0 0 0 0 kB;go_enter func33,ntmps33;go_wp2;go_ret;exact⟨_,rfl,World.ownsRow_nil _ _ _ _,hz⟩
 have O:=fun w=>Lib.run_eql_slice_nil (P:=prog) w 40 3 (some o) n c 0 0 kB;have Q:=h.to (show Below w.heap.size w (w.alloc (.cells #[] 3))from hz.alloc hj _);go_enter func33,ntmps33;go_wp2_with (at_builtin;refine mK _ rfl _ _ 40 rfl w.heap.size 3 E (int i64 0) 1 8 kB F G I J rfl (by decide) _ _ _ rfl (nS w 3 w.heap.size 1 hj) (some o) n c _ rfl Q z ?_ ?_ (by simp) ?_)
 ·unfold maxLen;omega
 ·omega
 intro v r R S;have T:r.ownsRow w.heap.size 3 1 v n xs:=by simpa using R
 have U:Below w.heap.size w r:=(hz.alloc hj (.cells #[] 3)).grown S (by simp) (fun k V=>by cases V;exact hj);go_wp2;go_ret;exact⟨_,rfl,T,U⟩
theorem A7:(prog.info? 5).map (fun i=>(i.zero,i.size,i.bytes))=some (some (int .u8 0),1,1):=by kernel_rfl
theorem wU(A:Option Addr)(n c:Nat)(xs:List Value)(w:World)(h:hV w w.heap.size A n 1 xs)(z:∀u∈xs,u.oneCell'=true)(W:n≤1000000)(D:A=none→n=0∧c=0):
 Calls prog 37 #[.slice A n c] w fun e w'=>∃v,e= .returned v∧w'.ownsRow w.heap.size 5 1 v n xs∧Below w.heap.size w w':=by
 obtain⟨E,F,G,I,J⟩:=info_parts A7;rcases A with _|o
 ·obtain⟨rfl,rfl⟩:=D rfl
  have K:xs=[]:=List.eq_nil_of_length_eq_zero (by have:=h.1;omega);subst K;have O:=fun w=>Lib.run_eql_slice_nil (P:=prog) w 36 5 none 0 0 0 0 lF;go_enter func37,ntmps37;go_wp2;go_ret;exact⟨_,rfl,World.ownsRow_nil _ _ _ _,hz⟩
 have O:=fun w=>Lib.run_eql_slice_nil (P:=prog) w 36 5 (some o) n c 0 0 lF;have Q:=h.to (show Below w.heap.size w (w.alloc (.cells #[] 5))from hz.alloc hj _);go_enter func37,ntmps37;go_wp2_with (at_builtin;refine mK _ rfl _ _ 36 rfl w.heap.size 5 E (int .u8 0) 1 1 lF F G I J rfl (by decide) _ _ _ rfl (nS w 5 w.heap.size 1 hj) (some o) n c _ rfl Q z ?_ ?_ (by simp) ?_)
 ·unfold maxLen;omega
 ·omega
 intro v r R S;have T:r.ownsRow w.heap.size 5 1 v n xs:=by simpa using R
 have U:Below w.heap.size w r:=(hz.alloc hj (.cells #[] 5)).grown S (by simp) (fun k V=>by cases V;exact hj);go_wp2;go_ret;exact⟨_,rfl,T,U⟩
theorem A8:(prog.info? 98).map (fun i=>(i.zero,i.size,i.bytes))=some (some (.agg #[int u64 0,int u64 0,int u64 0,int i64 0,int i64 0,int i64 0]),6,48):=by kernel_rfl
theorem A9(A:Option Addr)(n c:Nat)(xs:List Value)(w:World)(h:hV w w.heap.size A n 6 xs)(z:∀u∈xs,u.oneCell'=true)(W:n≤1000000)(D:A=none→n=0∧c=0):
 Calls prog 32 #[.slice A n c] w fun e w'=>∃v,e= .returned v∧w'.ownsRow w.heap.size 98 6 v n xs∧Below w.heap.size w w':=by
 obtain⟨E,F,G,I,J⟩:=info_parts A8;rcases A with _|o
 ·obtain⟨rfl,rfl⟩:=D rfl
  have K:xs=[]:=List.eq_nil_of_length_eq_zero (by have:=h.1;omega);subst K;have O:=fun w=>Lib.run_eql_slice_nil (P:=prog) w 39 98 none 0 0 0 0 rC;go_enter func32,ntmps32;go_wp2;go_ret;exact⟨_,rfl,World.ownsRow_nil _ _ _ _,hz⟩
 have O:=fun w=>Lib.run_eql_slice_nil (P:=prog) w 39 98 (some o) n c 0 0 rC;have Q:=h.to (show Below w.heap.size w (w.alloc (.cells #[] 98))from hz.alloc hj _);go_enter func32,ntmps32;go_wp2_with (at_builtin;refine mK _ rfl _ _ 39 rfl w.heap.size 98 E _ 6 48 rC F G I J rfl (by decide) _ _ _ rfl (nS w 98 w.heap.size 6 hj) (some o) n c _ rfl Q z ?_ ?_ (by simp) ?_)
 ·unfold maxLen;omega
 ·omega
 intro v r R S;have T:r.ownsRow w.heap.size 98 6 v n xs:=by simpa using R
 have U:Below w.heap.size w r:=(hz.alloc hj (.cells #[] 98)).grown S (by simp) (fun k V=>by cases V;exact hj);go_wp2;go_ret;exact⟨_,rfl,T,U⟩
theorem A':(prog.info? 102).map (fun i=>(i.zero,i.size,i.bytes))=some (some (.agg #[int i64 0,int i64 0,int u64 0,.bool false]),4,32):=by kernel_rfl
theorem qA(A:Option Addr)(n c:Nat)(xs:List Value)(w:World)(h:hV w w.heap.size A n 4 xs)(z:∀u∈xs,u.oneCell'=true)(W:n≤1000000)(D:A=none→n=0∧c=0):
 Calls prog 34 #[.slice A n c] w fun e w'=>∃v,e= .returned v∧w'.ownsRow w.heap.size 102 4 v n xs∧Below w.heap.size w w':=by
 obtain⟨E,F,G,I,J⟩:=info_parts A';rcases A with _|o
 ·obtain⟨rfl,rfl⟩:=D rfl
  have K:xs=[]:=List.eq_nil_of_length_eq_zero (by have:=h.1;omega);subst K;have O:=fun w=>Lib.run_eql_slice_nil (P:=prog) w 41 102 none 0 0 0 0 nV;go_enter func34,ntmps34;go_wp2;go_ret;exact⟨_,rfl,World.ownsRow_nil _ _ _ _,hz⟩
 have O:=fun w=>Lib.run_eql_slice_nil (P:=prog) w 41 102 (some o) n c 0 0 nV;have Q:=h.to (show Below w.heap.size w (w.alloc (.cells #[] 102))from hz.alloc hj _);go_enter func34,ntmps34;go_wp2_with (at_builtin;refine mK _ rfl _ _ 41 rfl w.heap.size 102 E _ 4 32 nV F G I J rfl (by decide) _ _ _ rfl (nS w 102 w.heap.size 4 hj) (some o) n c _ rfl Q z ?_ ?_ (by simp) ?_)
 ·unfold maxLen;omega
 ·omega
 intro v r R S;have T:r.ownsRow w.heap.size 102 4 v n xs:=by simpa using R
 have U:Below w.heap.size w r:=(hz.alloc hj (.cells #[] 102)).grown S (by simp) (fun k V=>by cases V;exact hj);go_wp2;go_ret;exact⟨_,rfl,T,U⟩
theorem Ba:(prog.info? 57).map (fun i=>(i.zero,i.size,i.bytes))=some (some (.agg #[int i64 0,int i64 0,int u64 0]),3,24):=by kernel_rfl
theorem pV(A:Option Addr)(n c:Nat)(xs:List Value)(w:World)(h:hV w w.heap.size A n 3 xs)(z:∀u∈xs,u.oneCell'=true)(W:n≤1000000)(D:A=none→n=0∧c=0):
 Calls prog 35 #[.slice A n c] w fun e w'=>∃v,e= .returned v∧w'.ownsRow w.heap.size 57 3 v n xs∧Below w.heap.size w w':=by
 obtain⟨E,F,G,I,J⟩:=info_parts Ba;rcases A with _|o
 ·obtain⟨rfl,rfl⟩:=D rfl
  have K:xs=[]:=List.eq_nil_of_length_eq_zero (by have:=h.1;omega);subst K;have O:=fun w=>Lib.run_eql_slice_nil (P:=prog) w 42 57 none 0 0 0 0 lT;go_enter func35,ntmps35;go_wp2;go_ret;exact⟨_,rfl,World.ownsRow_nil _ _ _ _,hz⟩
 have O:=fun w=>Lib.run_eql_slice_nil (P:=prog) w 42 57 (some o) n c 0 0 lT;have Q:=h.to (show Below w.heap.size w (w.alloc (.cells #[] 57))from hz.alloc hj _);go_enter func35,ntmps35;go_wp2_with (at_builtin;refine mK _ rfl _ _ 42 rfl w.heap.size 57 E _ 3 24 lT F G I J rfl (by decide) _ _ _ rfl (nS w 57 w.heap.size 3 hj) (some o) n c _ rfl Q z ?_ ?_ (by simp) ?_)
 ·unfold maxLen;omega
 ·omega
 intro v r R S;have T:r.ownsRow w.heap.size 57 3 v n xs:=by simpa using R
 have U:Below w.heap.size w r:=(hz.alloc hj (.cells #[] 57)).grown S (by simp) (fun k V=>by cases V;exact hj);go_wp2;go_ret;exact⟨_,rfl,T,U⟩
theorem wV:(prog.info? 59).map (fun i=>(i.zero,i.size,i.bytes))=some (some (.agg #[int i64 0,int i64 0,int u64 0,int u64 0,int u64 0,int u64 0,int u64 0,int u64 0,int u64 0,int u64 0,int u64 0,int u64 0,int u64 0,int u64 0,int u64 0,int u64 0,int i64 0,int i64 0,int i64 0,int i64 0,int i64 0,int i64 0,int i64 0,int i64 0,int i64 0,int i64 0,int i64 0,int u64 0,int i64 0,int i64 0,int i64 0,.slice none 0 0,.slice none 0 0]),33,296):=by kernel_rfl
theorem wW(A:Option Addr)(n c:Nat)(xs:List Value)(w:World)(h:hV w w.heap.size A n 33 xs)(z:∀u∈xs,u.oneCell'=true)(W:n≤1000000)(D:A=none→n=0∧c=0):
 Calls prog 36 #[.slice A n c] w fun e w'=>∃v,e= .returned v∧w'.ownsRow w.heap.size 59 33 v n xs∧Below w.heap.size w w':=by
 obtain⟨E,F,G,I,J⟩:=info_parts wV;rcases A with _|o
 ·obtain⟨rfl,rfl⟩:=D rfl
  have K:xs=[]:=List.eq_nil_of_length_eq_zero (by have:=h.1;omega);subst K;have O:=fun w=>Lib.run_eql_slice_nil (P:=prog) w 43 59 none 0 0 0 0 sG;go_enter func36,ntmps36;go_wp2;go_ret;exact⟨_,rfl,World.ownsRow_nil _ _ _ _,hz⟩
 have O:=fun w=>Lib.run_eql_slice_nil (P:=prog) w 43 59 (some o) n c 0 0 sG;have Q:=h.to (show Below w.heap.size w (w.alloc (.cells #[] 59))from hz.alloc hj _);go_enter func36,ntmps36;go_wp2_with (at_builtin;refine mK _ rfl _ _ 43 rfl w.heap.size 59 E _ 33 296 sG F G I J rfl (by decide) _ _ _ rfl (nS w 59 w.heap.size 33 hj) (some o) n c _ rfl Q z ?_ ?_ (by simp) ?_)
 ·unfold maxLen;omega
 ·omega
 intro v r R S;have T:r.ownsRow w.heap.size 59 33 v n xs:=by simpa using R
 have U:Below w.heap.size w r:=(hz.alloc hj (.cells #[] 59)).grown S (by simp) (fun k V=>by cases V;exact hj);go_wp2;go_ret;exact⟨_,rfl,T,U⟩
theorem Bb:(prog.info? 36).map (fun i=>(i.zero,i.size,i.bytes))=some (some (.slice none 0 0),1,24):=by kernel_rfl
theorem Bc(A:Option Addr)(n c:Nat)(xs:List Value)(w:World)(h:hV w w.heap.size A n 1 xs)(z:∀u∈xs,u.oneCell'=true)(W:n≤1000000)(D:A=none→n=0∧c=0):
 Calls prog 38 #[.slice A n c] w fun e w'=>∃v,e= .returned v∧w'.ownsRow w.heap.size 36 1 v n xs∧Below w.heap.size w w':=by
 obtain⟨E,F,G,I,J⟩:=info_parts Bb;rcases A with _|o
 ·obtain⟨rfl,rfl⟩:=D rfl
  have K:xs=[]:=List.eq_nil_of_length_eq_zero (by have:=h.1;omega);subst K;have O:=fun w=>Lib.run_eql_slice_nil (P:=prog) w 44 36 none 0 0 0 0 sH;go_enter func38,ntmps38;go_wp2;go_ret;exact⟨_,rfl,World.ownsRow_nil _ _ _ _,hz⟩
 have O:=fun w=>Lib.run_eql_slice_nil (P:=prog) w 44 36 (some o) n c 0 0 sH;have Q:=h.to (show Below w.heap.size w (w.alloc (.cells #[] 36))from hz.alloc hj _);go_enter func38,ntmps38;go_wp2_with (at_builtin;refine mK _ rfl _ _ 44 rfl w.heap.size 36 E (.slice none 0 0) 1 24 sH F G I J rfl (by decide) _ _ _ rfl (nS w 36 w.heap.size 1 hj) (some o) n c _ rfl Q z ?_ ?_ (by simp) ?_)
 ·unfold maxLen;omega
 ·omega
 intro v r R S;have T:r.ownsRow w.heap.size 36 1 v n xs:=by simpa using R
 have U:Below w.heap.size w r:=(hz.alloc hj (.cells #[] 36)).grown S (by simp) (fun k V=>by cases V;exact hj);go_wp2;go_ret;exact⟨_,rfl,T,U⟩
end hB
end Go.Proofs.YtffbipddbnkdjaaGreat
