/- TopMotions: what changes parameters or the emergency is a motion that was done. No conditions. -/
import Derived.Test.YtffbipddbnkdjaaGreatZMotions01
import Derived.Below
import Derived.ChangeOld
import Derived.ShutString
set_option maxRecDepth 100000
set_option maxHeartbeats 40000000
set_option linter.all false
open Go Go.Proofs.Tryz
open Go.Value(int)
open Go.IntKind(i64 u64)
variable{A T:Option Addr}{n g b L k B i x a m j q c p s r d h u N y:Nat}{E z:Int}{P:Program}{w W X Z:World}{e t:TypeId}{f:Nat→Value}{l:List Bool}{V U:Value}{Y:List Nat}{S:List Value}{R:List Int}{Q:Array Value}{O:List (List Nat)}{M:Bool}{K:Ending}{J:Addr}{I:Nat→Nat}{H:Option Nat}
namespace Go.Proofs.YtffbipddbnkdjaaGreat
namespace topMotions
open ChangeShapes WideShapes ChangeAt RowKit
theorem own:ownKnob prog.godebug=none:=by kernel_rfl
theorem laidOut:laidOutB prog=true:=by kernel_rfl
theorem lifted(A:Os)(R:A.Started)(H:Type)(enc:TypeId×Value→H):
 ReturnsInHanded {} Tryz.checked A 5 .any (Rows.topMotionsSpec.pre6 enc prog Tryz.f5 Rows.topMotionsRow.domain false) (Rows.topMotionsSpec.post enc prog Tryz.f5 false true false false):=by
 refine returnsInHanded_of_change (C:=Tryz.checked) own R (by kernel_rfl) func5
  (ChangeSpec.witness6 (enc:=enc) (C:=Tryz.checked) false ⟨#[],#[.agg #[.int .u64 0,.int .u64 0,.int .u64 0,.int .u64 0,.int .u64 0,.int .u64 0,.int .u64 0,.int .u64 0,.int .u64 0,.int .u64 0,.int .u64 0,.int .u64 0,.int .u64 0,.int .u64 0,.int .i64 0,.int .i64 0,.int .i64 0,.int .i64 0,.int .i64 0,.int .i64 0,.int .i64 0,.int .i64 0,.int .i64 0,.int .i64 0,.int .u64 0,.slice none 0 0,.slice none 0 0],.slice none 0 0],[]⟩ 8 (by kernel_rfl) (by kernel_rfl) (by kernel_rfl) (by kernel_rfl)) ?_
 intro W S o ds av aw pH D ax _;have la:∀(j:Nat) t v,Tryz.f5.params[j]?=some t→o[j]?=some v→Value.okWide prog W .any S t v:=pH;have T:=D;obtain⟨p,q,E,U,rfl,ay,az⟩:=D;have F:DataW.TrodAll enc prog W 0 (fun _=>true) true Tryz.f5.params.toList o.toList ds p:=E;rw[params5]at F la;obtain⟨G,aA,aB,aC,V,aD,aE,rfl,rfl,I,X⟩:=trodAll_cons F;obtain⟨J,aF,aG,aH,Y,aI,rfl,rfl,rfl,K,Z⟩:=trodAll_cons X;obtain⟨rfl,rfl,rfl⟩:=trodAll_nil Z;obtain rfl:o= #[G,J]:=by cases o;simp_all
 obtain⟨rfl,rfl⟩:=trodVars_none U;have O:=I;have aa:∀x∈V,x.block<W.heap.size:=by obtain⟨m,r⟩:=O;exact DataW.trod_lt m _ _ _ r
 have Q:=K;have ab:∀x∈Y,x.block<W.heap.size:=by obtain⟨m,r⟩:=Q;exact DataW.trod_lt m _ _ _ r
 obtain⟨ac,ad,pu,ae,af,ag,us,ah,rfl,ai,aj,ak,al,am⟩:=hB.vz (la 0 28 G rfl rfl) I;obtain⟨an,ao,ap,rfl⟩:=okWide_slice tx (la 1 29 J rfl rfl);obtain⟨aq,xs,ar⟩:=hB.vA K;clear E pH;refine(hB.HL ac ad pu ae af ag us ah an ao ap xs W ⟨ai,aj,ak,al,am,ar,aq⟩).mono fun e aJ ⟨au,z⟩=>?_;subst au;exact⟨_,rfl,_,_,_,[],_,[],T,trodAll_mk1 (shut_bool kv _),(trodAll_cons_mk (Below.trod laidOut (by kernel_rfl) (of_decide_eq_true (by kernel_rfl)) O z aa) (trodAll_cons_mk (Below.trod laidOut (by kernel_rfl) (of_decide_eq_true (by kernel_rfl)) Q z ab) trodAll_mk0)),rfl,z.frame _,fun h=>by cases h⟩
theorem sa:Rows.topMotionsRow.holds Tryz.pinned (OpenSpec.ofChange Rows.topMotionsSpec):=
 OpenClaim.holds_of_wide 5 Tryz.f5 rfl rfl rfl rfl rfl rfl rfl ⟨rfl,rfl,rfl,rfl,rfl⟩ rfl rfl rfl rfl rfl (by kernel_rfl) func5 (by kernel_rfl)
  (of_decide_eq_true (by kernel_rfl)) (by unfold Func.isWrapper;first|(rw[if_pos (by decide+kernel)];kernel_rfl)|(rw[if_neg (by decide+kernel)];exact⟨rfl,rfl⟩))
  (fun o r H enc _=>lifted o r H enc)
theorem proved:Rows.TopMotionsSaid:=sa
end topMotions
end Go.Proofs.YtffbipddbnkdjaaGreat
