/- Every play of who comes, goes and is dropped is the document's: the law LinePlays returns true at any list and any steps. No conditions. -/
import Derived.Test.YtblpekeikmblmaaLine18
import Derived.Test.YtblpekeikmblmaaStructs
import Derived.WalkKit
import Derived.ProofKit
import Derived.OpenShut
import Derived.ShutString
import Derived.ChangeOld
import Derived.Below
namespace Go.Proofs.Ytblpekeikmblmaa.linePlays
open Go.ChangeShapes Go.WideShapes Go.ChangeAt Go.RowKit
set_option linter.unusedVariables false

theorem own : ownKnob Try.prog.godebug = none := by kernel_rfl
theorem laidOut : laidOutB Try.prog = true := by kernel_rfl
set_option maxRecDepth 100000 in
theorem lifted (os : Os) (started : os.Started) (H : Type) (enc : TypeId × Value → H) :
    ReturnsInHanded {} Try.checked os 11 .any (Rows.linePlaysSpec.pre6 enc Try.prog Try.f11 Rows.linePlaysRow.domain false) (Rows.linePlaysSpec.post enc Try.prog Try.f11 false true false false) := by
  refine returnsInHanded_of_change (C := Try.checked) own started (by kernel_rfl) Try.func11
    (ChangeSpec.witness6 (enc := enc) (C := Try.checked) false ⟨#[], #[.slice none 0 0, .slice none 0 0], []⟩ 8 (by kernel_rfl) (by kernel_rfl) (by kernel_rfl) (by kernel_rfl)) ?_
  intro W base args ds gs before hval0 hW hcnd _
  have hval : ∀ (j : Nat) t v, Try.f11.params[j]? = some t → args[j]? = some v → Value.okWide Try.prog W .any base t v := hval0
  have hW' := hW
  obtain ⟨p, q, hA0, hV, rfl, hfz, hnd⟩ := hW
  have hA : DataW.TrodAll enc Try.prog W 0 (fun _ => true) true Try.f11.params.toList args.toList ds p := hA0
  rw [Try.params11] at hA hval
  obtain ⟨v0, vs0, d0, ds0, p0, q0, hargs, rfl, rfl, h0, r0⟩ := trodAll_cons hA
  obtain ⟨v1, vs1, d1, ds1, p1, q1, rfl, rfl, rfl, h1, r1⟩ := trodAll_cons r0
  obtain ⟨rfl, rfl, rfl⟩ := trodAll_nil r1
  obtain rfl : args = #[v0, v1] := by cases args; simp_all
  obtain ⟨rfl, rfl⟩ := trodVars_none hV
  have k0 := h0
  have lt0 : ∀ x ∈ p0, x.block < W.heap.size := by obtain ⟨m, hm⟩ := k0; exact DataW.trod_lt m _ _ _ hm
  have k1 := h1
  have lt1 : ∀ x ∈ p1, x.block < W.heap.size := by obtain ⟨m, hm⟩ := k1; exact DataW.trod_lt m _ _ _ hm
  obtain ⟨a0, len0, cap0, rfl⟩ := okWide_slice Try.underlying57 (hval 0 57 v0 rfl rfl)
  obtain ⟨hnc0, hcm0, zs, hl0, hb0, hr0⟩ := Opens.open_nums Try.underlying57 Try.underlying3 (by kernel_rfl) h0
  have hz0 : ∀ j, j < len0 → zs.getD j 0 ≤ 9223372036854775807 := fun j hj => by rw [List.getD_eq_getElem?_getD, List.getElem?_eq_getElem (show j < zs.length by omega)]; exact (Opens.i64_bd (hb0 _ (List.getElem_mem _))).2
  obtain ⟨a1, len1, cap1, rfl⟩ := okWide_slice Try.underlying58 (hval 1 58 v1 rfl rfl)
  obtain ⟨hnc1, hcm1, hx1⟩ := Opens.open_fields Try.underlying58 Try.underlying64 (by kernel_rfl) (by kernel_rfl) (by decide) h1
  have hops : LineW.OpsAt W a1 len1 (fun i => Opens.toInt (Opens.cellOf W a1 (i * 2))) (fun i => Opens.toInt (Opens.cellOf W a1 (i * 2 + 1))) := fun i hi => by
    obtain ⟨ad, e, hl, hall⟩ := hx1 i hi
    obtain ⟨c0, m0, y0, t0⟩ := hall 0 _ rfl
    obtain ⟨c1, m1, y1, t1⟩ := hall 1 _ rfl
    refine ⟨ad, e, hl, ?_, ?_⟩
    · exact c0.trans (congrArg some (Opens.cell_int Try.underlying3 t0).1)
    · rw [Words.add_add]; exact c1.trans (congrArg some (Opens.cell_int Try.underlying3 t1).1)
  clear hA0 hval0
  refine (LineW.plays_law a0 len0 cap0 a1 len1 cap1 zs _ _ W hl0 hr0 hnc0 hz0 hops).mono fun e W' ⟨he, bel⟩ => ?_
  subst he
  exact ⟨_, rfl, _, _, _, [], _, [], hW', trodAll_mk1 (shut_bool Try.underlying4 _), (trodAll_cons_mk (Below.trod laidOut (by kernel_rfl) (of_decide_eq_true (by kernel_rfl)) k0 bel lt0) (trodAll_cons_mk (Below.trod laidOut (by kernel_rfl) (of_decide_eq_true (by kernel_rfl)) k1 bel lt1) trodAll_mk0)), rfl, bel.frame _, fun h => by cases h⟩

theorem over : Rows.linePlaysRow.holds Try.pinned (OpenSpec.ofChange Rows.linePlaysSpec) :=
  OpenClaim.holds_of_wide 11 Try.f11 rfl rfl rfl rfl rfl rfl rfl ⟨rfl, rfl, rfl, rfl, rfl⟩ rfl rfl rfl rfl rfl (by kernel_rfl) Try.func11 (by kernel_rfl)
    (of_decide_eq_true (by kernel_rfl)) (by unfold Func.isWrapper; first | (rw [if_pos (by decide +kernel)]; kernel_rfl) | (rw [if_neg (by decide +kernel)]; exact ⟨rfl, rfl⟩))
    (fun os started H enc _ => lifted os started H enc)

theorem proved : Rows.LinePlaysSaid := over
#print axioms proved
end Go.Proofs.Ytblpekeikmblmaa.linePlays
