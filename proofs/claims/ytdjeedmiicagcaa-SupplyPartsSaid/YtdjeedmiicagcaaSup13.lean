/- The walks of the document's supply, third part: Holds. Conditions: lists are read rightly and are not too long. Printed by gen_sup13.py. -/
import Derived.Test.YtdjeedmiicagcaaSup10
namespace Go.Proofs.Ytdjeedmiicagcaa.SupplyW
open Go.RowKit
open Go.Proofs.Ytdjeedmiicagcaa.Words Go.Proofs.Ytdjeedmiicagcaa.Agg Go.Proofs.Ytdjeedmiicagcaa.NatW Go.Proofs.Ytdjeedmiicagcaa.PurseW Go.Proofs.Ytdjeedmiicagcaa.PoolW

theorem cmp_is {lo lo' : Nat} (a b : Value) (N M : Nat) (w : World) (ha : NatAt lo w a N) (hb : NatAt lo' w b M) (hN : Sm N) (hM : Sm M) (c : Int) (hc : cmpN N M = c) :
    Calls Try.prog 56 #[a, b] w fun e w' => e = .returned (.int .i64 c) ∧ Below w.heap.size w w' := by subst hc; exact cmp_v a b N M w ha hb hN hM
def rtot (m : Mon) : Nat := sm m.l1 m.n1 + sm m.l2 m.n2 + (sm m.l3 m.n3 + sm m.l4 m.n4) + m.trs
theorem info_mon (m : Mon) : (Try.prog.info? 66).map (·.size) = some m.cs.toList.length := by kernel_rfl
set_option maxHeartbeats 8000000 in
set_option maxRecDepth 100000 in
theorem rholds_any (m : Mon) (hm : m.Ok) (w : World) (hA : m.At w w.heap.size) (b : Bool) (hb : b = rholdsB m) :
    Calls Try.prog 39 #[.agg m.cs] w fun e w' => e = .returned (.bool b) ∧ Below w.heap.size w w' := by
  have hbW : Below w.heap.size w (w.alloc (.cells m.cs 66)) := (Below.refl _ _).alloc (Nat.le_refl _) _
  have hB0 : Blk (w.alloc (.cells m.cs 66)) w.heap.size 66 m.cs := Blk.new w _ _ _ rfl
  obtain ⟨W0, hW0⟩ : ∃ W0, w.alloc (.cells m.cs 66) = W0 := ⟨_, rfl⟩
  rw [hW0] at hbW hB0
  have hs0 : w.heap.size < W0.heap.size := hB0.lt
  have HB0 := Lib.hid hB0
  have HIs := Lib.hid (fun W => issued_any m hm W)
  have HTo : Hid (∀ W, Below W0.heap.size W0 W → Calls Try.prog 43 #[.agg m.cs] W fun e w' => ∃ v, e = .returned v ∧ NatAt W.heap.size w' v (rtot m) ∧ Below W.heap.size W w') := Lib.hid (fun W h' => rtotal_any m hm W ((hA.to hbW).to h'))
  have HO1 := Lib.hid (of_any m.most hm.most)
  have HO2 := Lib.hid (of_any m.brn hm.brn)
  have L1 := smul hA.l1.2.1 hm.n1
  have L2 := smul hA.l2.2.1 hm.n2
  have L3 := smul hA.l3.2.1 hm.n3
  have L4 := smul hA.l4.2.1 hm.n4
  have S1 := Lib.hid (Sm.of (N := m.gen + m.mnt) (by have := hm.gen; have := hm.mnt; omega))
  have S2 := Lib.hid (Sm.of (N := m.most) (by have := hm.most; omega))
  have S3 := Lib.hid (Sm.of (N := rtot m) (by unfold rtot; have := hm.trs; omega))
  have S4 := Lib.hid (Sm.of (N := m.brn) (by have := hm.brn; omega))
  have S5 := Lib.hid (Sm.of (N := rtot m + m.brn) (by unfold rtot; have := hm.trs; have := hm.brn; omega))
  have HM := Lib.hid hm
  have HB : Hid (b = decide (m.gen + m.mnt ≤ m.most ∧ m.most ≤ 4611686018427387904 ∧ rtot m + m.brn = m.gen + m.mnt)) := Lib.hid hb
  clear hA hm hb hB0 L1 L2 L3 L4
  obtain ⟨c1, hc1⟩ : ∃ c, cmpN (m.gen + m.mnt) m.most = c := ⟨_, rfl⟩
  have HC1 := Lib.hid hc1
  clear hc1
  by_cases h1 : m.gen + m.mnt ≤ m.most
  · have d1 : decide (c1 ≤ 0) = true := by rw [← HC1.out, cmpN_le]; simpa using h1
    by_cases h2 : m.most ≤ 4611686018427387904
    · have d2 : decide ((m.most : Int) ≤ 4611686018427387904) = true := by simp; omega
      obtain ⟨c2, hc2⟩ : ∃ c, cmpN (rtot m + m.brn) (m.gen + m.mnt) = c := ⟨_, rfl⟩
      have HC2 := Lib.hid hc2
      by_cases h3 : rtot m + m.brn = m.gen + m.mnt
      · obtain rfl : b = true := by rw [HB.out]; simp [h1, h2, h3]
        have d3 : ((c2 : Int) == 0) = true := by rw [← hc2, cmpN_eq h3]; rfl
        clear h1 h2 h3 HB hc2
        go_enter Try.func39, Try.ntmps39
        go_upto_region 1 with (fail)
        clear hW0
        refine wp_region_held_drew (S := fun w' => Blk w' w.heap.size 66 m.cs ∧ Below W0.heap.size W0 w') (by kernel_rfl) ⟨HB0.out, (Below.refl _ _).drew⟩ (fun hHeld => ?_)
        refine wpAnyH_take (i := 0) (v := .agg m.cs.toList.toArray) rfl (by kernel_rfl) (by kernel_rfl) (by kernel_rfl) (fun _ _ _ h => h) (yieldsIf_load_mid (by rfl) 66 (.tmp 1) rfl w.heap.size 0 rfl m.cs.toList _ (fun w' hS j v hv => by rw [Nat.zero_add]; exact hS.1.cell (by simpa using hv)) Try.underlying66 rfl (info_mon m)) hHeld ?_
        try simp only [Act.put, List.setIfInBounds_toArray, List.set_cons_zero, List.set_cons_succ, List.getElem_toArray, List.getElem_cons_zero]
        refine wpAnyH_take (i := 2) (v := ?vc2) rfl (by kernel_rfl) (by kernel_rfl) (by kernel_rfl) (fun _ _ _ h => h) (Or.inl ⟨by rfl, ?yc2⟩) hHeld ?rc2
        case yc2 =>
          intro w' hSw
          try simp only [List.getElem_toArray, List.getElem_cons_zero, List.getElem_cons_succ]
          have f0 := hSw.1.cell (j := 0) (v := .int .u64 m.most) rfl
          have f3 := hSw.1.cell (j := 3) (v := .int .u64 m.brn) rfl
          go_simp
          try with_reducible rfl
        try simp only [Act.put, List.setIfInBounds_toArray, List.set_cons_zero, List.set_cons_succ, List.getElem_toArray, List.getElem_cons_zero, List.getElem_cons_succ]
        refine wpAnyH_take (i := 3) (v := ?vc3) rfl (by kernel_rfl) (by kernel_rfl) (by kernel_rfl) (fun _ _ _ h => h) (Or.inl ⟨by rfl, ?yc3⟩) hHeld ?rc3
        case yc3 =>
          intro w' hSw
          try simp only [List.getElem_toArray, List.getElem_cons_zero, List.getElem_cons_succ]
          have f0 := hSw.1.cell (j := 0) (v := .int .u64 m.most) rfl
          have f3 := hSw.1.cell (j := 3) (v := .int .u64 m.brn) rfl
          go_simp
          try with_reducible rfl
        try simp only [Act.put, List.setIfInBounds_toArray, List.set_cons_zero, List.set_cons_succ, List.getElem_toArray, List.getElem_cons_zero, List.getElem_cons_succ]
        refine wpAnyH_ready (rs := [1]) (by kernel_rfl) (by simp) ?_
        refine AllReadyH.cons rfl (fun K hK => ?_) AllReadyH.nil
        try simp only [List.getElem_toArray, List.getElem_cons_zero, List.getElem_cons_succ]
        go_simp
        refine (HIs.out _).mono ?_
        rintro e wi ⟨vi, rfl, hN_vi, hb_wi⟩
        have hB_wi : Below W0.heap.size W0 wi := nxt (Below.drew (Below.refl _ _)) hb_wi
        refine hK.out _ _ ⟨HB0.out.to hB_wi, hB_wi⟩ (fun hHeld => ?_)
        clear hK K
        try simp only [Act.put, List.setIfInBounds_toArray, List.set_cons_zero, List.set_cons_succ, List.getElem_toArray, List.getElem_cons_zero, List.getElem_cons_succ]
        refine wpAnyH_ready (rs := [4]) (by kernel_rfl) (by simp) ?_
        refine AllReadyH.cons rfl (fun K hK => ?_) AllReadyH.nil
        try simp only [List.getElem_toArray, List.getElem_cons_zero, List.getElem_cons_succ]
        go_simp
        refine (HO1.out _).mono ?_
        rintro e wo ⟨vo, rfl, hN_vo, hb_wo⟩
        have hB_wo : Below W0.heap.size W0 wo := nxt hB_wi hb_wo
        have hN_vi := hN_vi.to hb_wo
        refine hK.out _ _ ⟨HB0.out.to hB_wo, hB_wo⟩ (fun hHeld => ?_)
        clear hK K
        try simp only [Act.put, List.setIfInBounds_toArray, List.set_cons_zero, List.set_cons_succ, List.getElem_toArray, List.getElem_cons_zero, List.getElem_cons_succ]
        refine wpAnyH_ready (rs := [5]) (by kernel_rfl) (by simp) ?_
        refine AllReadyH.cons rfl (fun K hK => ?_) AllReadyH.nil
        try simp only [List.getElem_toArray, List.getElem_cons_zero, List.getElem_cons_succ]
        go_simp
        refine (cmp_is vi vo (m.gen + m.mnt) m.most _ hN_vi hN_vo S1.out S2.out c1 HC1.out).mono ?_
        rintro e wc ⟨rfl, hb_wc⟩
        have hB_wc : Below W0.heap.size W0 wc := nxt hB_wo hb_wc
        refine hK.out _ _ ⟨HB0.out.to hB_wc, hB_wc⟩ (fun hHeld => ?_)
        clear hK K
        try simp only [Act.put, List.setIfInBounds_toArray, List.set_cons_zero, List.set_cons_succ, List.getElem_toArray, List.getElem_cons_zero, List.getElem_cons_succ]
        refine wpAnyH_take (i := 6) (v := ?vc6) rfl (by kernel_rfl) (by kernel_rfl) (by kernel_rfl) (fun _ _ _ h => h) (Or.inl ⟨by rfl, ?yc6⟩) hHeld ?rc6
        case yc6 =>
          intro w' hSw
          try simp only [List.getElem_toArray, List.getElem_cons_zero, List.getElem_cons_succ]
          have f0 := hSw.1.cell (j := 0) (v := .int .u64 m.most) rfl
          have f3 := hSw.1.cell (j := 3) (v := .int .u64 m.brn) rfl
          go_simp
          try with_reducible rfl
        try simp only [Act.put, List.setIfInBounds_toArray, List.set_cons_zero, List.set_cons_succ, List.getElem_toArray, List.getElem_cons_zero, List.getElem_cons_succ]
        refine wpAnyH_take (i := 7) (v := ?vc7) rfl (by kernel_rfl) (by kernel_rfl) (by kernel_rfl) (fun _ _ _ h => h) (Or.inl ⟨by rfl, ?yc7⟩) hHeld ?rc7
        case yc7 =>
          intro w' hSw
          try simp only [List.getElem_toArray, List.getElem_cons_zero, List.getElem_cons_succ]
          have f0 := hSw.1.cell (j := 0) (v := .int .u64 m.most) rfl
          have f3 := hSw.1.cell (j := 3) (v := .int .u64 m.brn) rfl
          go_simp
          try with_reducible rfl
        try simp only [Act.put, List.setIfInBounds_toArray, List.set_cons_zero, List.set_cons_succ, List.getElem_toArray, List.getElem_cons_zero, List.getElem_cons_succ]
        refine wpAnyH_take (i := 8) (v := ?vc8) rfl (by kernel_rfl) (by kernel_rfl) (by kernel_rfl) (fun _ _ _ h => h) (Or.inl ⟨by rfl, ?yc8⟩) hHeld ?rc8
        case yc8 =>
          intro w' hSw
          try simp only [List.getElem_toArray, List.getElem_cons_zero, List.getElem_cons_succ]
          have f0 := hSw.1.cell (j := 0) (v := .int .u64 m.most) rfl
          have f3 := hSw.1.cell (j := 3) (v := .int .u64 m.brn) rfl
          go_simp
          try with_reducible rfl
        try simp only [Act.put, List.setIfInBounds_toArray, List.set_cons_zero, List.set_cons_succ, List.getElem_toArray, List.getElem_cons_zero, List.getElem_cons_succ]
        refine wpAnyH_take (i := 9) (v := ?vc9) rfl (by kernel_rfl) (by kernel_rfl) (by kernel_rfl) (fun _ _ _ h => h) (Or.inl ⟨by rfl, ?yc9⟩) hHeld ?rc9
        case yc9 =>
          intro w' hSw
          try simp only [List.getElem_toArray, List.getElem_cons_zero, List.getElem_cons_succ]
          have f0 := hSw.1.cell (j := 0) (v := .int .u64 m.most) rfl
          have f3 := hSw.1.cell (j := 3) (v := .int .u64 m.brn) rfl
          go_simp
          try with_reducible rfl
        try simp only [Act.put, List.setIfInBounds_toArray, List.set_cons_zero, List.set_cons_succ, List.getElem_toArray, List.getElem_cons_zero, List.getElem_cons_succ]
        refine wpAnyH_take (i := 10) (v := ?vc10) rfl (by kernel_rfl) (by kernel_rfl) (by kernel_rfl) (fun _ _ _ h => h) (Or.inl ⟨by rfl, ?yc10⟩) hHeld ?rc10
        case yc10 =>
          intro w' hSw
          try simp only [List.getElem_toArray, List.getElem_cons_zero, List.getElem_cons_succ]
          have f0 := hSw.1.cell (j := 0) (v := .int .u64 m.most) rfl
          have f3 := hSw.1.cell (j := 3) (v := .int .u64 m.brn) rfl
          go_simp
          try with_reducible rfl
        try simp only [Act.put, List.setIfInBounds_toArray, List.set_cons_zero, List.set_cons_succ, List.getElem_toArray, List.getElem_cons_zero, List.getElem_cons_succ]
        refine wpAnyH_take (i := 11) (v := ?vc11) rfl (by kernel_rfl) (by kernel_rfl) (by kernel_rfl) (fun _ _ _ h => h) (Or.inl ⟨by rfl, ?yc11⟩) hHeld ?rc11
        case yc11 =>
          intro w' hSw
          try simp only [List.getElem_toArray, List.getElem_cons_zero, List.getElem_cons_succ]
          have f0 := hSw.1.cell (j := 0) (v := .int .u64 m.most) rfl
          have f3 := hSw.1.cell (j := 3) (v := .int .u64 m.brn) rfl
          go_simp
          try with_reducible rfl
        try simp only [Act.put, List.setIfInBounds_toArray, List.set_cons_zero, List.set_cons_succ, List.getElem_toArray, List.getElem_cons_zero, List.getElem_cons_succ]
        refine wpAnyH_take (i := 12) (v := ?vc12) rfl (by kernel_rfl) (by kernel_rfl) (by kernel_rfl) (fun _ _ _ h => h) (Or.inl ⟨by rfl, ?yc12⟩) hHeld ?rc12
        case yc12 =>
          intro w' hSw
          try simp only [List.getElem_toArray, List.getElem_cons_zero, List.getElem_cons_succ]
          have f0 := hSw.1.cell (j := 0) (v := .int .u64 m.most) rfl
          have f3 := hSw.1.cell (j := 3) (v := .int .u64 m.brn) rfl
          go_simp
          try with_reducible rfl
        try simp only [Act.put, List.setIfInBounds_toArray, List.set_cons_zero, List.set_cons_succ, List.getElem_toArray, List.getElem_cons_zero, List.getElem_cons_succ]
        refine wpAnyH_take (i := 13) (v := .agg m.cs.toList.toArray) rfl (by kernel_rfl) (by kernel_rfl) (by kernel_rfl) (fun _ _ _ h => h) (yieldsIf_load_mid (by rfl) 66 (.tmp 1) rfl w.heap.size 0 rfl m.cs.toList _ (fun w' hS j v hv => by rw [Nat.zero_add]; exact hS.1.cell (by simpa using hv)) Try.underlying66 rfl (info_mon m)) hHeld ?_
        try simp only [Act.put, List.setIfInBounds_toArray, List.set_cons_zero, List.set_cons_succ, List.getElem_toArray, List.getElem_cons_zero, List.getElem_cons_succ]
        refine wpAnyH_take (i := 15) (v := ?vc15) rfl (by kernel_rfl) (by kernel_rfl) (by kernel_rfl) (fun _ _ _ h => h) (Or.inl ⟨by rfl, ?yc15⟩) hHeld ?rc15
        case yc15 =>
          intro w' hSw
          try simp only [List.getElem_toArray, List.getElem_cons_zero, List.getElem_cons_succ]
          have f0 := hSw.1.cell (j := 0) (v := .int .u64 m.most) rfl
          have f3 := hSw.1.cell (j := 3) (v := .int .u64 m.brn) rfl
          go_simp
          try with_reducible rfl
        try simp only [Act.put, List.setIfInBounds_toArray, List.set_cons_zero, List.set_cons_succ, List.getElem_toArray, List.getElem_cons_zero, List.getElem_cons_succ]
        refine wpAnyH_take (i := 16) (v := ?vc16) rfl (by kernel_rfl) (by kernel_rfl) (by kernel_rfl) (fun _ _ _ h => h) (Or.inl ⟨by rfl, ?yc16⟩) hHeld ?rc16
        case yc16 =>
          intro w' hSw
          try simp only [List.getElem_toArray, List.getElem_cons_zero, List.getElem_cons_succ]
          have f0 := hSw.1.cell (j := 0) (v := .int .u64 m.most) rfl
          have f3 := hSw.1.cell (j := 3) (v := .int .u64 m.brn) rfl
          go_simp
          try with_reducible rfl
        try simp only [Act.put, List.setIfInBounds_toArray, List.set_cons_zero, List.set_cons_succ, List.getElem_toArray, List.getElem_cons_zero, List.getElem_cons_succ]
        refine wpAnyH_take (i := 19) (v := .agg m.cs.toList.toArray) rfl (by kernel_rfl) (by kernel_rfl) (by kernel_rfl) (fun _ _ _ h => h) (yieldsIf_load_mid (by rfl) 66 (.tmp 1) rfl w.heap.size 0 rfl m.cs.toList _ (fun w' hS j v hv => by rw [Nat.zero_add]; exact hS.1.cell (by simpa using hv)) Try.underlying66 rfl (info_mon m)) hHeld ?_
        try simp only [Act.put, List.setIfInBounds_toArray, List.set_cons_zero, List.set_cons_succ, List.getElem_toArray, List.getElem_cons_zero, List.getElem_cons_succ]
        refine wpAnyH_ready (rs := [14]) (by kernel_rfl) (by simp) ?_
        refine AllReadyH.cons rfl (fun K hK => ?_) AllReadyH.nil
        try simp only [List.getElem_toArray, List.getElem_cons_zero, List.getElem_cons_succ]
        go_simp
        refine (HTo.out _ hB_wc).mono ?_
        rintro e wt ⟨vt, rfl, hN_vt, hb_wt⟩
        have hB_wt : Below W0.heap.size W0 wt := nxt hB_wc hb_wt
        refine hK.out _ _ ⟨HB0.out.to hB_wt, hB_wt⟩ (fun hHeld => ?_)
        clear hK K
        try simp only [Act.put, List.setIfInBounds_toArray, List.set_cons_zero, List.set_cons_succ, List.getElem_toArray, List.getElem_cons_zero, List.getElem_cons_succ]
        refine wpAnyH_ready (rs := [17]) (by kernel_rfl) (by simp) ?_
        refine AllReadyH.cons rfl (fun K hK => ?_) AllReadyH.nil
        try simp only [List.getElem_toArray, List.getElem_cons_zero, List.getElem_cons_succ]
        go_simp
        refine (HO2.out _).mono ?_
        rintro e wb ⟨vb, rfl, hN_vb, hb_wb⟩
        have hB_wb : Below W0.heap.size W0 wb := nxt hB_wt hb_wb
        have hN_vt := hN_vt.to hb_wb
        refine hK.out _ _ ⟨HB0.out.to hB_wb, hB_wb⟩ (fun hHeld => ?_)
        clear hK K
        try simp only [Act.put, List.setIfInBounds_toArray, List.set_cons_zero, List.set_cons_succ, List.getElem_toArray, List.getElem_cons_zero, List.getElem_cons_succ]
        refine wpAnyH_ready (rs := [18]) (by kernel_rfl) (by simp) ?_
        refine AllReadyH.cons rfl (fun K hK => ?_) AllReadyH.nil
        try simp only [List.getElem_toArray, List.getElem_cons_zero, List.getElem_cons_succ]
        go_simp
        refine (add_any vt vb (rtot m) m.brn _ hN_vt hN_vb S3.out S4.out).mono ?_
        rintro e wa ⟨va, rfl, hN_va, hb_wa⟩
        have hB_wa : Below W0.heap.size W0 wa := nxt hB_wb hb_wa
        refine hK.out _ _ ⟨HB0.out.to hB_wa, hB_wa⟩ (fun hHeld => ?_)
        clear hK K
        try simp only [Act.put, List.setIfInBounds_toArray, List.set_cons_zero, List.set_cons_succ, List.getElem_toArray, List.getElem_cons_zero, List.getElem_cons_succ]
        refine wpAnyH_ready (rs := [20]) (by kernel_rfl) (by simp) ?_
        refine AllReadyH.cons rfl (fun K hK => ?_) AllReadyH.nil
        try simp only [List.getElem_toArray, List.getElem_cons_zero, List.getElem_cons_succ]
        go_simp
        refine (HIs.out _).mono ?_
        rintro e wj ⟨vj, rfl, hN_vj, hb_wj⟩
        have hB_wj : Below W0.heap.size W0 wj := nxt hB_wa hb_wj
        have hN_va := hN_va.to hb_wj
        refine hK.out _ _ ⟨HB0.out.to hB_wj, hB_wj⟩ (fun hHeld => ?_)
        clear hK K
        try simp only [Act.put, List.setIfInBounds_toArray, List.set_cons_zero, List.set_cons_succ, List.getElem_toArray, List.getElem_cons_zero, List.getElem_cons_succ]
        refine wpAnyH_ready (rs := [21]) (by kernel_rfl) (by simp) ?_
        refine AllReadyH.cons rfl (fun K hK => ?_) AllReadyH.nil
        try simp only [List.getElem_toArray, List.getElem_cons_zero, List.getElem_cons_succ]
        go_simp
        refine (cmp_is va vj (rtot m + m.brn) (m.gen + m.mnt) _ hN_va hN_vj S5.out S1.out c2 HC2.out).mono ?_
        rintro e wd ⟨rfl, hb_wd⟩
        have hB_wd : Below W0.heap.size W0 wd := nxt hB_wj hb_wd
        refine hK.out _ _ ⟨HB0.out.to hB_wd, hB_wd⟩ (fun hHeld => ?_)
        clear hK K
        try simp only [Act.put, List.setIfInBounds_toArray, List.set_cons_zero, List.set_cons_succ, List.getElem_toArray, List.getElem_cons_zero, List.getElem_cons_succ]
        refine wpAnyH_take (i := 22) (v := ?vc22) rfl (by kernel_rfl) (by kernel_rfl) (by kernel_rfl) (fun _ _ _ h => h) (Or.inl ⟨by rfl, ?yc22⟩) hHeld ?rc22
        case yc22 =>
          intro w' hSw
          try simp only [List.getElem_toArray, List.getElem_cons_zero, List.getElem_cons_succ]
          have f0 := hSw.1.cell (j := 0) (v := .int .u64 m.most) rfl
          have f3 := hSw.1.cell (j := 3) (v := .int .u64 m.brn) rfl
          go_simp
          try with_reducible rfl
        try simp only [Act.put, List.setIfInBounds_toArray, List.set_cons_zero, List.set_cons_succ, List.getElem_toArray, List.getElem_cons_zero, List.getElem_cons_succ]
        refine wpAnyH_take (i := 23) (v := ?vc23) rfl (by kernel_rfl) (by kernel_rfl) (by kernel_rfl) (fun _ _ _ h => h) (Or.inl ⟨by rfl, ?yc23⟩) hHeld ?rc23
        case yc23 =>
          intro w' hSw
          try simp only [List.getElem_toArray, List.getElem_cons_zero, List.getElem_cons_succ]
          have f0 := hSw.1.cell (j := 0) (v := .int .u64 m.most) rfl
          have f3 := hSw.1.cell (j := 3) (v := .int .u64 m.brn) rfl
          go_simp
          try with_reducible rfl
        try simp only [Act.put, List.setIfInBounds_toArray, List.set_cons_zero, List.set_cons_succ, List.getElem_toArray, List.getElem_cons_zero, List.getElem_cons_succ]
        refine wpAnyH_take (i := 24) (v := ?vc24) rfl (by kernel_rfl) (by kernel_rfl) (by kernel_rfl) (fun _ _ _ h => h) (Or.inl ⟨by rfl, ?yc24⟩) hHeld ?rc24
        case yc24 =>
          intro w' hSw
          try simp only [List.getElem_toArray, List.getElem_cons_zero, List.getElem_cons_succ]
          have f0 := hSw.1.cell (j := 0) (v := .int .u64 m.most) rfl
          have f3 := hSw.1.cell (j := 3) (v := .int .u64 m.brn) rfl
          go_simp
          try with_reducible rfl
        try simp only [Act.put, List.setIfInBounds_toArray, List.set_cons_zero, List.set_cons_succ, List.getElem_toArray, List.getElem_cons_zero, List.getElem_cons_succ]
        refine wpAnyH_done (by kernel_rfl) ?_ _
        go_wp2
        go_ret
        exact ⟨rfl, hbW.trans (hB_wd.mono hbW.size)⟩
      · obtain rfl : b = false := by rw [HB.out]; simp [h3]
        have d3 : ((c2 : Int) == 0) = false := by
          rw [← hc2, beq_eq_false_iff_ne]
          rcases Nat.lt_or_gt_of_ne h3 with h | h
          · rw [cmpN_lt h]; decide
          · rw [cmpN_gt h]; decide
        clear h1 h2 h3 HB hc2
        go_enter Try.func39, Try.ntmps39
        go_upto_region 1 with (fail)
        clear hW0
        refine wp_region_held_drew (S := fun w' => Blk w' w.heap.size 66 m.cs ∧ Below W0.heap.size W0 w') (by kernel_rfl) ⟨HB0.out, (Below.refl _ _).drew⟩ (fun hHeld => ?_)
        refine wpAnyH_take (i := 0) (v := .agg m.cs.toList.toArray) rfl (by kernel_rfl) (by kernel_rfl) (by kernel_rfl) (fun _ _ _ h => h) (yieldsIf_load_mid (by rfl) 66 (.tmp 1) rfl w.heap.size 0 rfl m.cs.toList _ (fun w' hS j v hv => by rw [Nat.zero_add]; exact hS.1.cell (by simpa using hv)) Try.underlying66 rfl (info_mon m)) hHeld ?_
        try simp only [Act.put, List.setIfInBounds_toArray, List.set_cons_zero, List.set_cons_succ, List.getElem_toArray, List.getElem_cons_zero]
        refine wpAnyH_take (i := 2) (v := ?vd2) rfl (by kernel_rfl) (by kernel_rfl) (by kernel_rfl) (fun _ _ _ h => h) (Or.inl ⟨by rfl, ?yd2⟩) hHeld ?rd2
        case yd2 =>
          intro w' hSw
          try simp only [List.getElem_toArray, List.getElem_cons_zero, List.getElem_cons_succ]
          have f0 := hSw.1.cell (j := 0) (v := .int .u64 m.most) rfl
          have f3 := hSw.1.cell (j := 3) (v := .int .u64 m.brn) rfl
          go_simp
          try with_reducible rfl
        try simp only [Act.put, List.setIfInBounds_toArray, List.set_cons_zero, List.set_cons_succ, List.getElem_toArray, List.getElem_cons_zero, List.getElem_cons_succ]
        refine wpAnyH_take (i := 3) (v := ?vd3) rfl (by kernel_rfl) (by kernel_rfl) (by kernel_rfl) (fun _ _ _ h => h) (Or.inl ⟨by rfl, ?yd3⟩) hHeld ?rd3
        case yd3 =>
          intro w' hSw
          try simp only [List.getElem_toArray, List.getElem_cons_zero, List.getElem_cons_succ]
          have f0 := hSw.1.cell (j := 0) (v := .int .u64 m.most) rfl
          have f3 := hSw.1.cell (j := 3) (v := .int .u64 m.brn) rfl
          go_simp
          try with_reducible rfl
        try simp only [Act.put, List.setIfInBounds_toArray, List.set_cons_zero, List.set_cons_succ, List.getElem_toArray, List.getElem_cons_zero, List.getElem_cons_succ]
        refine wpAnyH_ready (rs := [1]) (by kernel_rfl) (by simp) ?_
        refine AllReadyH.cons rfl (fun K hK => ?_) AllReadyH.nil
        try simp only [List.getElem_toArray, List.getElem_cons_zero, List.getElem_cons_succ]
        go_simp
        refine (HIs.out _).mono ?_
        rintro e wi ⟨vi, rfl, hN_vi, hb_wi⟩
        have hB_wi : Below W0.heap.size W0 wi := nxt (Below.drew (Below.refl _ _)) hb_wi
        refine hK.out _ _ ⟨HB0.out.to hB_wi, hB_wi⟩ (fun hHeld => ?_)
        clear hK K
        try simp only [Act.put, List.setIfInBounds_toArray, List.set_cons_zero, List.set_cons_succ, List.getElem_toArray, List.getElem_cons_zero, List.getElem_cons_succ]
        refine wpAnyH_ready (rs := [4]) (by kernel_rfl) (by simp) ?_
        refine AllReadyH.cons rfl (fun K hK => ?_) AllReadyH.nil
        try simp only [List.getElem_toArray, List.getElem_cons_zero, List.getElem_cons_succ]
        go_simp
        refine (HO1.out _).mono ?_
        rintro e wo ⟨vo, rfl, hN_vo, hb_wo⟩
        have hB_wo : Below W0.heap.size W0 wo := nxt hB_wi hb_wo
        have hN_vi := hN_vi.to hb_wo
        refine hK.out _ _ ⟨HB0.out.to hB_wo, hB_wo⟩ (fun hHeld => ?_)
        clear hK K
        try simp only [Act.put, List.setIfInBounds_toArray, List.set_cons_zero, List.set_cons_succ, List.getElem_toArray, List.getElem_cons_zero, List.getElem_cons_succ]
        refine wpAnyH_ready (rs := [5]) (by kernel_rfl) (by simp) ?_
        refine AllReadyH.cons rfl (fun K hK => ?_) AllReadyH.nil
        try simp only [List.getElem_toArray, List.getElem_cons_zero, List.getElem_cons_succ]
        go_simp
        refine (cmp_is vi vo (m.gen + m.mnt) m.most _ hN_vi hN_vo S1.out S2.out c1 HC1.out).mono ?_
        rintro e wc ⟨rfl, hb_wc⟩
        have hB_wc : Below W0.heap.size W0 wc := nxt hB_wo hb_wc
        refine hK.out _ _ ⟨HB0.out.to hB_wc, hB_wc⟩ (fun hHeld => ?_)
        clear hK K
        try simp only [Act.put, List.setIfInBounds_toArray, List.set_cons_zero, List.set_cons_succ, List.getElem_toArray, List.getElem_cons_zero, List.getElem_cons_succ]
        refine wpAnyH_take (i := 6) (v := ?vd6) rfl (by kernel_rfl) (by kernel_rfl) (by kernel_rfl) (fun _ _ _ h => h) (Or.inl ⟨by rfl, ?yd6⟩) hHeld ?rd6
        case yd6 =>
          intro w' hSw
          try simp only [List.getElem_toArray, List.getElem_cons_zero, List.getElem_cons_succ]
          have f0 := hSw.1.cell (j := 0) (v := .int .u64 m.most) rfl
          have f3 := hSw.1.cell (j := 3) (v := .int .u64 m.brn) rfl
          go_simp
          try with_reducible rfl
        try simp only [Act.put, List.setIfInBounds_toArray, List.set_cons_zero, List.set_cons_succ, List.getElem_toArray, List.getElem_cons_zero, List.getElem_cons_succ]
        refine wpAnyH_take (i := 7) (v := ?vd7) rfl (by kernel_rfl) (by kernel_rfl) (by kernel_rfl) (fun _ _ _ h => h) (Or.inl ⟨by rfl, ?yd7⟩) hHeld ?rd7
        case yd7 =>
          intro w' hSw
          try simp only [List.getElem_toArray, List.getElem_cons_zero, List.getElem_cons_succ]
          have f0 := hSw.1.cell (j := 0) (v := .int .u64 m.most) rfl
          have f3 := hSw.1.cell (j := 3) (v := .int .u64 m.brn) rfl
          go_simp
          try with_reducible rfl
        try simp only [Act.put, List.setIfInBounds_toArray, List.set_cons_zero, List.set_cons_succ, List.getElem_toArray, List.getElem_cons_zero, List.getElem_cons_succ]
        refine wpAnyH_take (i := 8) (v := ?vd8) rfl (by kernel_rfl) (by kernel_rfl) (by kernel_rfl) (fun _ _ _ h => h) (Or.inl ⟨by rfl, ?yd8⟩) hHeld ?rd8
        case yd8 =>
          intro w' hSw
          try simp only [List.getElem_toArray, List.getElem_cons_zero, List.getElem_cons_succ]
          have f0 := hSw.1.cell (j := 0) (v := .int .u64 m.most) rfl
          have f3 := hSw.1.cell (j := 3) (v := .int .u64 m.brn) rfl
          go_simp
          try with_reducible rfl
        try simp only [Act.put, List.setIfInBounds_toArray, List.set_cons_zero, List.set_cons_succ, List.getElem_toArray, List.getElem_cons_zero, List.getElem_cons_succ]
        refine wpAnyH_take (i := 9) (v := ?vd9) rfl (by kernel_rfl) (by kernel_rfl) (by kernel_rfl) (fun _ _ _ h => h) (Or.inl ⟨by rfl, ?yd9⟩) hHeld ?rd9
        case yd9 =>
          intro w' hSw
          try simp only [List.getElem_toArray, List.getElem_cons_zero, List.getElem_cons_succ]
          have f0 := hSw.1.cell (j := 0) (v := .int .u64 m.most) rfl
          have f3 := hSw.1.cell (j := 3) (v := .int .u64 m.brn) rfl
          go_simp
          try with_reducible rfl
        try simp only [Act.put, List.setIfInBounds_toArray, List.set_cons_zero, List.set_cons_succ, List.getElem_toArray, List.getElem_cons_zero, List.getElem_cons_succ]
        refine wpAnyH_take (i := 10) (v := ?vd10) rfl (by kernel_rfl) (by kernel_rfl) (by kernel_rfl) (fun _ _ _ h => h) (Or.inl ⟨by rfl, ?yd10⟩) hHeld ?rd10
        case yd10 =>
          intro w' hSw
          try simp only [List.getElem_toArray, List.getElem_cons_zero, List.getElem_cons_succ]
          have f0 := hSw.1.cell (j := 0) (v := .int .u64 m.most) rfl
          have f3 := hSw.1.cell (j := 3) (v := .int .u64 m.brn) rfl
          go_simp
          try with_reducible rfl
        try simp only [Act.put, List.setIfInBounds_toArray, List.set_cons_zero, List.set_cons_succ, List.getElem_toArray, List.getElem_cons_zero, List.getElem_cons_succ]
        refine wpAnyH_take (i := 11) (v := ?vd11) rfl (by kernel_rfl) (by kernel_rfl) (by kernel_rfl) (fun _ _ _ h => h) (Or.inl ⟨by rfl, ?yd11⟩) hHeld ?rd11
        case yd11 =>
          intro w' hSw
          try simp only [List.getElem_toArray, List.getElem_cons_zero, List.getElem_cons_succ]
          have f0 := hSw.1.cell (j := 0) (v := .int .u64 m.most) rfl
          have f3 := hSw.1.cell (j := 3) (v := .int .u64 m.brn) rfl
          go_simp
          try with_reducible rfl
        try simp only [Act.put, List.setIfInBounds_toArray, List.set_cons_zero, List.set_cons_succ, List.getElem_toArray, List.getElem_cons_zero, List.getElem_cons_succ]
        refine wpAnyH_take (i := 12) (v := ?vd12) rfl (by kernel_rfl) (by kernel_rfl) (by kernel_rfl) (fun _ _ _ h => h) (Or.inl ⟨by rfl, ?yd12⟩) hHeld ?rd12
        case yd12 =>
          intro w' hSw
          try simp only [List.getElem_toArray, List.getElem_cons_zero, List.getElem_cons_succ]
          have f0 := hSw.1.cell (j := 0) (v := .int .u64 m.most) rfl
          have f3 := hSw.1.cell (j := 3) (v := .int .u64 m.brn) rfl
          go_simp
          try with_reducible rfl
        try simp only [Act.put, List.setIfInBounds_toArray, List.set_cons_zero, List.set_cons_succ, List.getElem_toArray, List.getElem_cons_zero, List.getElem_cons_succ]
        refine wpAnyH_take (i := 13) (v := .agg m.cs.toList.toArray) rfl (by kernel_rfl) (by kernel_rfl) (by kernel_rfl) (fun _ _ _ h => h) (yieldsIf_load_mid (by rfl) 66 (.tmp 1) rfl w.heap.size 0 rfl m.cs.toList _ (fun w' hS j v hv => by rw [Nat.zero_add]; exact hS.1.cell (by simpa using hv)) Try.underlying66 rfl (info_mon m)) hHeld ?_
        try simp only [Act.put, List.setIfInBounds_toArray, List.set_cons_zero, List.set_cons_succ, List.getElem_toArray, List.getElem_cons_zero, List.getElem_cons_succ]
        refine wpAnyH_take (i := 15) (v := ?vd15) rfl (by kernel_rfl) (by kernel_rfl) (by kernel_rfl) (fun _ _ _ h => h) (Or.inl ⟨by rfl, ?yd15⟩) hHeld ?rd15
        case yd15 =>
          intro w' hSw
          try simp only [List.getElem_toArray, List.getElem_cons_zero, List.getElem_cons_succ]
          have f0 := hSw.1.cell (j := 0) (v := .int .u64 m.most) rfl
          have f3 := hSw.1.cell (j := 3) (v := .int .u64 m.brn) rfl
          go_simp
          try with_reducible rfl
        try simp only [Act.put, List.setIfInBounds_toArray, List.set_cons_zero, List.set_cons_succ, List.getElem_toArray, List.getElem_cons_zero, List.getElem_cons_succ]
        refine wpAnyH_take (i := 16) (v := ?vd16) rfl (by kernel_rfl) (by kernel_rfl) (by kernel_rfl) (fun _ _ _ h => h) (Or.inl ⟨by rfl, ?yd16⟩) hHeld ?rd16
        case yd16 =>
          intro w' hSw
          try simp only [List.getElem_toArray, List.getElem_cons_zero, List.getElem_cons_succ]
          have f0 := hSw.1.cell (j := 0) (v := .int .u64 m.most) rfl
          have f3 := hSw.1.cell (j := 3) (v := .int .u64 m.brn) rfl
          go_simp
          try with_reducible rfl
        try simp only [Act.put, List.setIfInBounds_toArray, List.set_cons_zero, List.set_cons_succ, List.getElem_toArray, List.getElem_cons_zero, List.getElem_cons_succ]
        refine wpAnyH_take (i := 19) (v := .agg m.cs.toList.toArray) rfl (by kernel_rfl) (by kernel_rfl) (by kernel_rfl) (fun _ _ _ h => h) (yieldsIf_load_mid (by rfl) 66 (.tmp 1) rfl w.heap.size 0 rfl m.cs.toList _ (fun w' hS j v hv => by rw [Nat.zero_add]; exact hS.1.cell (by simpa using hv)) Try.underlying66 rfl (info_mon m)) hHeld ?_
        try simp only [Act.put, List.setIfInBounds_toArray, List.set_cons_zero, List.set_cons_succ, List.getElem_toArray, List.getElem_cons_zero, List.getElem_cons_succ]
        refine wpAnyH_ready (rs := [14]) (by kernel_rfl) (by simp) ?_
        refine AllReadyH.cons rfl (fun K hK => ?_) AllReadyH.nil
        try simp only [List.getElem_toArray, List.getElem_cons_zero, List.getElem_cons_succ]
        go_simp
        refine (HTo.out _ hB_wc).mono ?_
        rintro e wt ⟨vt, rfl, hN_vt, hb_wt⟩
        have hB_wt : Below W0.heap.size W0 wt := nxt hB_wc hb_wt
        refine hK.out _ _ ⟨HB0.out.to hB_wt, hB_wt⟩ (fun hHeld => ?_)
        clear hK K
        try simp only [Act.put, List.setIfInBounds_toArray, List.set_cons_zero, List.set_cons_succ, List.getElem_toArray, List.getElem_cons_zero, List.getElem_cons_succ]
        refine wpAnyH_ready (rs := [17]) (by kernel_rfl) (by simp) ?_
        refine AllReadyH.cons rfl (fun K hK => ?_) AllReadyH.nil
        try simp only [List.getElem_toArray, List.getElem_cons_zero, List.getElem_cons_succ]
        go_simp
        refine (HO2.out _).mono ?_
        rintro e wb ⟨vb, rfl, hN_vb, hb_wb⟩
        have hB_wb : Below W0.heap.size W0 wb := nxt hB_wt hb_wb
        have hN_vt := hN_vt.to hb_wb
        refine hK.out _ _ ⟨HB0.out.to hB_wb, hB_wb⟩ (fun hHeld => ?_)
        clear hK K
        try simp only [Act.put, List.setIfInBounds_toArray, List.set_cons_zero, List.set_cons_succ, List.getElem_toArray, List.getElem_cons_zero, List.getElem_cons_succ]
        refine wpAnyH_ready (rs := [18]) (by kernel_rfl) (by simp) ?_
        refine AllReadyH.cons rfl (fun K hK => ?_) AllReadyH.nil
        try simp only [List.getElem_toArray, List.getElem_cons_zero, List.getElem_cons_succ]
        go_simp
        refine (add_any vt vb (rtot m) m.brn _ hN_vt hN_vb S3.out S4.out).mono ?_
        rintro e wa ⟨va, rfl, hN_va, hb_wa⟩
        have hB_wa : Below W0.heap.size W0 wa := nxt hB_wb hb_wa
        refine hK.out _ _ ⟨HB0.out.to hB_wa, hB_wa⟩ (fun hHeld => ?_)
        clear hK K
        try simp only [Act.put, List.setIfInBounds_toArray, List.set_cons_zero, List.set_cons_succ, List.getElem_toArray, List.getElem_cons_zero, List.getElem_cons_succ]
        refine wpAnyH_ready (rs := [20]) (by kernel_rfl) (by simp) ?_
        refine AllReadyH.cons rfl (fun K hK => ?_) AllReadyH.nil
        try simp only [List.getElem_toArray, List.getElem_cons_zero, List.getElem_cons_succ]
        go_simp
        refine (HIs.out _).mono ?_
        rintro e wj ⟨vj, rfl, hN_vj, hb_wj⟩
        have hB_wj : Below W0.heap.size W0 wj := nxt hB_wa hb_wj
        have hN_va := hN_va.to hb_wj
        refine hK.out _ _ ⟨HB0.out.to hB_wj, hB_wj⟩ (fun hHeld => ?_)
        clear hK K
        try simp only [Act.put, List.setIfInBounds_toArray, List.set_cons_zero, List.set_cons_succ, List.getElem_toArray, List.getElem_cons_zero, List.getElem_cons_succ]
        refine wpAnyH_ready (rs := [21]) (by kernel_rfl) (by simp) ?_
        refine AllReadyH.cons rfl (fun K hK => ?_) AllReadyH.nil
        try simp only [List.getElem_toArray, List.getElem_cons_zero, List.getElem_cons_succ]
        go_simp
        refine (cmp_is va vj (rtot m + m.brn) (m.gen + m.mnt) _ hN_va hN_vj S5.out S1.out c2 HC2.out).mono ?_
        rintro e wd ⟨rfl, hb_wd⟩
        have hB_wd : Below W0.heap.size W0 wd := nxt hB_wj hb_wd
        refine hK.out _ _ ⟨HB0.out.to hB_wd, hB_wd⟩ (fun hHeld => ?_)
        clear hK K
        try simp only [Act.put, List.setIfInBounds_toArray, List.set_cons_zero, List.set_cons_succ, List.getElem_toArray, List.getElem_cons_zero, List.getElem_cons_succ]
        refine wpAnyH_take (i := 22) (v := ?vd22) rfl (by kernel_rfl) (by kernel_rfl) (by kernel_rfl) (fun _ _ _ h => h) (Or.inl ⟨by rfl, ?yd22⟩) hHeld ?rd22
        case yd22 =>
          intro w' hSw
          try simp only [List.getElem_toArray, List.getElem_cons_zero, List.getElem_cons_succ]
          have f0 := hSw.1.cell (j := 0) (v := .int .u64 m.most) rfl
          have f3 := hSw.1.cell (j := 3) (v := .int .u64 m.brn) rfl
          go_simp
          try with_reducible rfl
        try simp only [Act.put, List.setIfInBounds_toArray, List.set_cons_zero, List.set_cons_succ, List.getElem_toArray, List.getElem_cons_zero, List.getElem_cons_succ]
        refine wpAnyH_take (i := 23) (v := ?vd23) rfl (by kernel_rfl) (by kernel_rfl) (by kernel_rfl) (fun _ _ _ h => h) (Or.inl ⟨by rfl, ?yd23⟩) hHeld ?rd23
        case yd23 =>
          intro w' hSw
          try simp only [List.getElem_toArray, List.getElem_cons_zero, List.getElem_cons_succ]
          have f0 := hSw.1.cell (j := 0) (v := .int .u64 m.most) rfl
          have f3 := hSw.1.cell (j := 3) (v := .int .u64 m.brn) rfl
          go_simp
          try with_reducible rfl
        try simp only [Act.put, List.setIfInBounds_toArray, List.set_cons_zero, List.set_cons_succ, List.getElem_toArray, List.getElem_cons_zero, List.getElem_cons_succ]
        refine wpAnyH_take (i := 24) (v := ?vd24) rfl (by kernel_rfl) (by kernel_rfl) (by kernel_rfl) (fun _ _ _ h => h) (Or.inl ⟨by rfl, ?yd24⟩) hHeld ?rd24
        case yd24 =>
          intro w' hSw
          try simp only [List.getElem_toArray, List.getElem_cons_zero, List.getElem_cons_succ]
          have f0 := hSw.1.cell (j := 0) (v := .int .u64 m.most) rfl
          have f3 := hSw.1.cell (j := 3) (v := .int .u64 m.brn) rfl
          go_simp
          try with_reducible rfl
        try simp only [Act.put, List.setIfInBounds_toArray, List.set_cons_zero, List.set_cons_succ, List.getElem_toArray, List.getElem_cons_zero, List.getElem_cons_succ]
        refine wpAnyH_done (by kernel_rfl) ?_ _
        go_wp2
        go_ret
        exact ⟨rfl, hbW.trans (hB_wd.mono hbW.size)⟩
    · have d2 : decide ((m.most : Int) ≤ 4611686018427387904) = false := by simp; omega
      obtain rfl : b = false := by rw [HB.out]; simp [h2]
      clear h1 h2 HB
      go_enter Try.func39, Try.ntmps39
      go_upto_region 1 with (fail)
      clear hW0
      refine wp_region_held_drew (S := fun w' => Blk w' w.heap.size 66 m.cs ∧ Below W0.heap.size W0 w') (by kernel_rfl) ⟨HB0.out, (Below.refl _ _).drew⟩ (fun hHeld => ?_)
      refine wpAnyH_take (i := 0) (v := .agg m.cs.toList.toArray) rfl (by kernel_rfl) (by kernel_rfl) (by kernel_rfl) (fun _ _ _ h => h) (yieldsIf_load_mid (by rfl) 66 (.tmp 1) rfl w.heap.size 0 rfl m.cs.toList _ (fun w' hS j v hv => by rw [Nat.zero_add]; exact hS.1.cell (by simpa using hv)) Try.underlying66 rfl (info_mon m)) hHeld ?_
      try simp only [Act.put, List.setIfInBounds_toArray, List.set_cons_zero, List.set_cons_succ, List.getElem_toArray, List.getElem_cons_zero]
      refine wpAnyH_take (i := 2) (v := ?vb2) rfl (by kernel_rfl) (by kernel_rfl) (by kernel_rfl) (fun _ _ _ h => h) (Or.inl ⟨by rfl, ?yb2⟩) hHeld ?rb2
      case yb2 =>
        intro w' hSw
        try simp only [List.getElem_toArray, List.getElem_cons_zero, List.getElem_cons_succ]
        have f0 := hSw.1.cell (j := 0) (v := .int .u64 m.most) rfl
        have f3 := hSw.1.cell (j := 3) (v := .int .u64 m.brn) rfl
        go_simp
        try with_reducible rfl
      try simp only [Act.put, List.setIfInBounds_toArray, List.set_cons_zero, List.set_cons_succ, List.getElem_toArray, List.getElem_cons_zero, List.getElem_cons_succ]
      refine wpAnyH_take (i := 3) (v := ?vb3) rfl (by kernel_rfl) (by kernel_rfl) (by kernel_rfl) (fun _ _ _ h => h) (Or.inl ⟨by rfl, ?yb3⟩) hHeld ?rb3
      case yb3 =>
        intro w' hSw
        try simp only [List.getElem_toArray, List.getElem_cons_zero, List.getElem_cons_succ]
        have f0 := hSw.1.cell (j := 0) (v := .int .u64 m.most) rfl
        have f3 := hSw.1.cell (j := 3) (v := .int .u64 m.brn) rfl
        go_simp
        try with_reducible rfl
      try simp only [Act.put, List.setIfInBounds_toArray, List.set_cons_zero, List.set_cons_succ, List.getElem_toArray, List.getElem_cons_zero, List.getElem_cons_succ]
      refine wpAnyH_ready (rs := [1]) (by kernel_rfl) (by simp) ?_
      refine AllReadyH.cons rfl (fun K hK => ?_) AllReadyH.nil
      try simp only [List.getElem_toArray, List.getElem_cons_zero, List.getElem_cons_succ]
      go_simp
      refine (HIs.out _).mono ?_
      rintro e wi ⟨vi, rfl, hN_vi, hb_wi⟩
      have hB_wi : Below W0.heap.size W0 wi := nxt (Below.drew (Below.refl _ _)) hb_wi
      refine hK.out _ _ ⟨HB0.out.to hB_wi, hB_wi⟩ (fun hHeld => ?_)
      clear hK K
      try simp only [Act.put, List.setIfInBounds_toArray, List.set_cons_zero, List.set_cons_succ, List.getElem_toArray, List.getElem_cons_zero, List.getElem_cons_succ]
      refine wpAnyH_ready (rs := [4]) (by kernel_rfl) (by simp) ?_
      refine AllReadyH.cons rfl (fun K hK => ?_) AllReadyH.nil
      try simp only [List.getElem_toArray, List.getElem_cons_zero, List.getElem_cons_succ]
      go_simp
      refine (HO1.out _).mono ?_
      rintro e wo ⟨vo, rfl, hN_vo, hb_wo⟩
      have hB_wo : Below W0.heap.size W0 wo := nxt hB_wi hb_wo
      have hN_vi := hN_vi.to hb_wo
      refine hK.out _ _ ⟨HB0.out.to hB_wo, hB_wo⟩ (fun hHeld => ?_)
      clear hK K
      try simp only [Act.put, List.setIfInBounds_toArray, List.set_cons_zero, List.set_cons_succ, List.getElem_toArray, List.getElem_cons_zero, List.getElem_cons_succ]
      refine wpAnyH_ready (rs := [5]) (by kernel_rfl) (by simp) ?_
      refine AllReadyH.cons rfl (fun K hK => ?_) AllReadyH.nil
      try simp only [List.getElem_toArray, List.getElem_cons_zero, List.getElem_cons_succ]
      go_simp
      refine (cmp_is vi vo (m.gen + m.mnt) m.most _ hN_vi hN_vo S1.out S2.out c1 HC1.out).mono ?_
      rintro e wc ⟨rfl, hb_wc⟩
      have hB_wc : Below W0.heap.size W0 wc := nxt hB_wo hb_wc
      refine hK.out _ _ ⟨HB0.out.to hB_wc, hB_wc⟩ (fun hHeld => ?_)
      clear hK K
      try simp only [Act.put, List.setIfInBounds_toArray, List.set_cons_zero, List.set_cons_succ, List.getElem_toArray, List.getElem_cons_zero, List.getElem_cons_succ]
      refine wpAnyH_take (i := 6) (v := ?vb6) rfl (by kernel_rfl) (by kernel_rfl) (by kernel_rfl) (fun _ _ _ h => h) (Or.inl ⟨by rfl, ?yb6⟩) hHeld ?rb6
      case yb6 =>
        intro w' hSw
        try simp only [List.getElem_toArray, List.getElem_cons_zero, List.getElem_cons_succ]
        have f0 := hSw.1.cell (j := 0) (v := .int .u64 m.most) rfl
        have f3 := hSw.1.cell (j := 3) (v := .int .u64 m.brn) rfl
        go_simp
        try with_reducible rfl
      try simp only [Act.put, List.setIfInBounds_toArray, List.set_cons_zero, List.set_cons_succ, List.getElem_toArray, List.getElem_cons_zero, List.getElem_cons_succ]
      refine wpAnyH_take (i := 7) (v := ?vb7) rfl (by kernel_rfl) (by kernel_rfl) (by kernel_rfl) (fun _ _ _ h => h) (Or.inl ⟨by rfl, ?yb7⟩) hHeld ?rb7
      case yb7 =>
        intro w' hSw
        try simp only [List.getElem_toArray, List.getElem_cons_zero, List.getElem_cons_succ]
        have f0 := hSw.1.cell (j := 0) (v := .int .u64 m.most) rfl
        have f3 := hSw.1.cell (j := 3) (v := .int .u64 m.brn) rfl
        go_simp
        try with_reducible rfl
      try simp only [Act.put, List.setIfInBounds_toArray, List.set_cons_zero, List.set_cons_succ, List.getElem_toArray, List.getElem_cons_zero, List.getElem_cons_succ]
      refine wpAnyH_take (i := 8) (v := ?vb8) rfl (by kernel_rfl) (by kernel_rfl) (by kernel_rfl) (fun _ _ _ h => h) (Or.inl ⟨by rfl, ?yb8⟩) hHeld ?rb8
      case yb8 =>
        intro w' hSw
        try simp only [List.getElem_toArray, List.getElem_cons_zero, List.getElem_cons_succ]
        have f0 := hSw.1.cell (j := 0) (v := .int .u64 m.most) rfl
        have f3 := hSw.1.cell (j := 3) (v := .int .u64 m.brn) rfl
        go_simp
        try with_reducible rfl
      try simp only [Act.put, List.setIfInBounds_toArray, List.set_cons_zero, List.set_cons_succ, List.getElem_toArray, List.getElem_cons_zero, List.getElem_cons_succ]
      refine wpAnyH_take (i := 9) (v := ?vb9) rfl (by kernel_rfl) (by kernel_rfl) (by kernel_rfl) (fun _ _ _ h => h) (Or.inl ⟨by rfl, ?yb9⟩) hHeld ?rb9
      case yb9 =>
        intro w' hSw
        try simp only [List.getElem_toArray, List.getElem_cons_zero, List.getElem_cons_succ]
        have f0 := hSw.1.cell (j := 0) (v := .int .u64 m.most) rfl
        have f3 := hSw.1.cell (j := 3) (v := .int .u64 m.brn) rfl
        go_simp
        try with_reducible rfl
      try simp only [Act.put, List.setIfInBounds_toArray, List.set_cons_zero, List.set_cons_succ, List.getElem_toArray, List.getElem_cons_zero, List.getElem_cons_succ]
      refine wpAnyH_take (i := 10) (v := ?vb10) rfl (by kernel_rfl) (by kernel_rfl) (by kernel_rfl) (fun _ _ _ h => h) (Or.inl ⟨by rfl, ?yb10⟩) hHeld ?rb10
      case yb10 =>
        intro w' hSw
        try simp only [List.getElem_toArray, List.getElem_cons_zero, List.getElem_cons_succ]
        have f0 := hSw.1.cell (j := 0) (v := .int .u64 m.most) rfl
        have f3 := hSw.1.cell (j := 3) (v := .int .u64 m.brn) rfl
        go_simp
        try with_reducible rfl
      try simp only [Act.put, List.setIfInBounds_toArray, List.set_cons_zero, List.set_cons_succ, List.getElem_toArray, List.getElem_cons_zero, List.getElem_cons_succ]
      refine wpAnyH_take (i := 11) (v := ?vb11) rfl (by kernel_rfl) (by kernel_rfl) (by kernel_rfl) (fun _ _ _ h => h) (Or.inl ⟨by rfl, ?yb11⟩) hHeld ?rb11
      case yb11 =>
        intro w' hSw
        try simp only [List.getElem_toArray, List.getElem_cons_zero, List.getElem_cons_succ]
        have f0 := hSw.1.cell (j := 0) (v := .int .u64 m.most) rfl
        have f3 := hSw.1.cell (j := 3) (v := .int .u64 m.brn) rfl
        go_simp
        try with_reducible rfl
      try simp only [Act.put, List.setIfInBounds_toArray, List.set_cons_zero, List.set_cons_succ, List.getElem_toArray, List.getElem_cons_zero, List.getElem_cons_succ]
      refine wpAnyH_take (i := 12) (v := ?vb12) rfl (by kernel_rfl) (by kernel_rfl) (by kernel_rfl) (fun _ _ _ h => h) (Or.inl ⟨by rfl, ?yb12⟩) hHeld ?rb12
      case yb12 =>
        intro w' hSw
        try simp only [List.getElem_toArray, List.getElem_cons_zero, List.getElem_cons_succ]
        have f0 := hSw.1.cell (j := 0) (v := .int .u64 m.most) rfl
        have f3 := hSw.1.cell (j := 3) (v := .int .u64 m.brn) rfl
        go_simp
        try with_reducible rfl
      try simp only [Act.put, List.setIfInBounds_toArray, List.set_cons_zero, List.set_cons_succ, List.getElem_toArray, List.getElem_cons_zero, List.getElem_cons_succ]
      refine wpAnyH_take (i := 13) (v := undef) rfl (by kernel_rfl) (by kernel_rfl) (by kernel_rfl) (fun _ _ _ h => h) (Or.inr ⟨by rfl, rfl⟩) hHeld ?_
      try simp only [Act.put, List.setIfInBounds_toArray, List.set_cons_zero, List.set_cons_succ, List.getElem_toArray, List.getElem_cons_zero, List.getElem_cons_succ]
      refine wpAnyH_take (i := 14) (v := undef) rfl (by kernel_rfl) (by kernel_rfl) (by kernel_rfl) (fun _ _ _ h => h) (Or.inr ⟨by rfl, rfl⟩) hHeld ?_
      try simp only [Act.put, List.setIfInBounds_toArray, List.set_cons_zero, List.set_cons_succ, List.getElem_toArray, List.getElem_cons_zero, List.getElem_cons_succ]
      refine wpAnyH_take (i := 15) (v := undef) rfl (by kernel_rfl) (by kernel_rfl) (by kernel_rfl) (fun _ _ _ h => h) (Or.inr ⟨by rfl, rfl⟩) hHeld ?_
      try simp only [Act.put, List.setIfInBounds_toArray, List.set_cons_zero, List.set_cons_succ, List.getElem_toArray, List.getElem_cons_zero, List.getElem_cons_succ]
      refine wpAnyH_take (i := 16) (v := undef) rfl (by kernel_rfl) (by kernel_rfl) (by kernel_rfl) (fun _ _ _ h => h) (Or.inr ⟨by rfl, rfl⟩) hHeld ?_
      try simp only [Act.put, List.setIfInBounds_toArray, List.set_cons_zero, List.set_cons_succ, List.getElem_toArray, List.getElem_cons_zero, List.getElem_cons_succ]
      refine wpAnyH_take (i := 17) (v := undef) rfl (by kernel_rfl) (by kernel_rfl) (by kernel_rfl) (fun _ _ _ h => h) (Or.inr ⟨by rfl, rfl⟩) hHeld ?_
      try simp only [Act.put, List.setIfInBounds_toArray, List.set_cons_zero, List.set_cons_succ, List.getElem_toArray, List.getElem_cons_zero, List.getElem_cons_succ]
      refine wpAnyH_take (i := 18) (v := undef) rfl (by kernel_rfl) (by kernel_rfl) (by kernel_rfl) (fun _ _ _ h => h) (Or.inr ⟨by rfl, rfl⟩) hHeld ?_
      try simp only [Act.put, List.setIfInBounds_toArray, List.set_cons_zero, List.set_cons_succ, List.getElem_toArray, List.getElem_cons_zero, List.getElem_cons_succ]
      refine wpAnyH_take (i := 19) (v := undef) rfl (by kernel_rfl) (by kernel_rfl) (by kernel_rfl) (fun _ _ _ h => h) (Or.inr ⟨by rfl, rfl⟩) hHeld ?_
      try simp only [Act.put, List.setIfInBounds_toArray, List.set_cons_zero, List.set_cons_succ, List.getElem_toArray, List.getElem_cons_zero, List.getElem_cons_succ]
      refine wpAnyH_take (i := 20) (v := undef) rfl (by kernel_rfl) (by kernel_rfl) (by kernel_rfl) (fun _ _ _ h => h) (Or.inr ⟨by rfl, rfl⟩) hHeld ?_
      try simp only [Act.put, List.setIfInBounds_toArray, List.set_cons_zero, List.set_cons_succ, List.getElem_toArray, List.getElem_cons_zero, List.getElem_cons_succ]
      refine wpAnyH_take (i := 21) (v := undef) rfl (by kernel_rfl) (by kernel_rfl) (by kernel_rfl) (fun _ _ _ h => h) (Or.inr ⟨by rfl, rfl⟩) hHeld ?_
      try simp only [Act.put, List.setIfInBounds_toArray, List.set_cons_zero, List.set_cons_succ, List.getElem_toArray, List.getElem_cons_zero, List.getElem_cons_succ]
      refine wpAnyH_take (i := 22) (v := undef) rfl (by kernel_rfl) (by kernel_rfl) (by kernel_rfl) (fun _ _ _ h => h) (Or.inr ⟨by rfl, rfl⟩) hHeld ?_
      try simp only [Act.put, List.setIfInBounds_toArray, List.set_cons_zero, List.set_cons_succ, List.getElem_toArray, List.getElem_cons_zero, List.getElem_cons_succ]
      refine wpAnyH_take (i := 23) (v := ?vb23) rfl (by kernel_rfl) (by kernel_rfl) (by kernel_rfl) (fun _ _ _ h => h) (Or.inl ⟨by rfl, ?yb23⟩) hHeld ?rb23
      case yb23 =>
        intro w' hSw
        try simp only [List.getElem_toArray, List.getElem_cons_zero, List.getElem_cons_succ]
        have f0 := hSw.1.cell (j := 0) (v := .int .u64 m.most) rfl
        have f3 := hSw.1.cell (j := 3) (v := .int .u64 m.brn) rfl
        go_simp
        try with_reducible rfl
      try simp only [Act.put, List.setIfInBounds_toArray, List.set_cons_zero, List.set_cons_succ, List.getElem_toArray, List.getElem_cons_zero, List.getElem_cons_succ]
      refine wpAnyH_take (i := 24) (v := ?vb24) rfl (by kernel_rfl) (by kernel_rfl) (by kernel_rfl) (fun _ _ _ h => h) (Or.inl ⟨by rfl, ?yb24⟩) hHeld ?rb24
      case yb24 =>
        intro w' hSw
        try simp only [List.getElem_toArray, List.getElem_cons_zero, List.getElem_cons_succ]
        have f0 := hSw.1.cell (j := 0) (v := .int .u64 m.most) rfl
        have f3 := hSw.1.cell (j := 3) (v := .int .u64 m.brn) rfl
        go_simp
        try with_reducible rfl
      try simp only [Act.put, List.setIfInBounds_toArray, List.set_cons_zero, List.set_cons_succ, List.getElem_toArray, List.getElem_cons_zero, List.getElem_cons_succ]
      refine wpAnyH_done (by kernel_rfl) ?_ _
      go_wp2
      go_ret
      exact ⟨rfl, hbW.trans (hB_wc.mono hbW.size)⟩
  · have d1 : decide (c1 ≤ 0) = false := by rw [← HC1.out, cmpN_le]; simpa using h1
    obtain rfl : b = false := by rw [HB.out]; simp [h1]
    clear h1 HB
    go_enter Try.func39, Try.ntmps39
    go_upto_region 1 with (fail)
    clear hW0
    refine wp_region_held_drew (S := fun w' => Blk w' w.heap.size 66 m.cs ∧ Below W0.heap.size W0 w') (by kernel_rfl) ⟨HB0.out, (Below.refl _ _).drew⟩ (fun hHeld => ?_)
    refine wpAnyH_take (i := 0) (v := .agg m.cs.toList.toArray) rfl (by kernel_rfl) (by kernel_rfl) (by kernel_rfl) (fun _ _ _ h => h) (yieldsIf_load_mid (by rfl) 66 (.tmp 1) rfl w.heap.size 0 rfl m.cs.toList _ (fun w' hS j v hv => by rw [Nat.zero_add]; exact hS.1.cell (by simpa using hv)) Try.underlying66 rfl (info_mon m)) hHeld ?_
    try simp only [Act.put, List.setIfInBounds_toArray, List.set_cons_zero, List.set_cons_succ, List.getElem_toArray, List.getElem_cons_zero]
    refine wpAnyH_take (i := 2) (v := ?va2) rfl (by kernel_rfl) (by kernel_rfl) (by kernel_rfl) (fun _ _ _ h => h) (Or.inl ⟨by rfl, ?ya2⟩) hHeld ?ra2
    case ya2 =>
      intro w' hSw
      try simp only [List.getElem_toArray, List.getElem_cons_zero, List.getElem_cons_succ]
      have f0 := hSw.1.cell (j := 0) (v := .int .u64 m.most) rfl
      have f3 := hSw.1.cell (j := 3) (v := .int .u64 m.brn) rfl
      go_simp
      try with_reducible rfl
    try simp only [Act.put, List.setIfInBounds_toArray, List.set_cons_zero, List.set_cons_succ, List.getElem_toArray, List.getElem_cons_zero, List.getElem_cons_succ]
    refine wpAnyH_take (i := 3) (v := ?va3) rfl (by kernel_rfl) (by kernel_rfl) (by kernel_rfl) (fun _ _ _ h => h) (Or.inl ⟨by rfl, ?ya3⟩) hHeld ?ra3
    case ya3 =>
      intro w' hSw
      try simp only [List.getElem_toArray, List.getElem_cons_zero, List.getElem_cons_succ]
      have f0 := hSw.1.cell (j := 0) (v := .int .u64 m.most) rfl
      have f3 := hSw.1.cell (j := 3) (v := .int .u64 m.brn) rfl
      go_simp
      try with_reducible rfl
    try simp only [Act.put, List.setIfInBounds_toArray, List.set_cons_zero, List.set_cons_succ, List.getElem_toArray, List.getElem_cons_zero, List.getElem_cons_succ]
    refine wpAnyH_ready (rs := [1]) (by kernel_rfl) (by simp) ?_
    refine AllReadyH.cons rfl (fun K hK => ?_) AllReadyH.nil
    try simp only [List.getElem_toArray, List.getElem_cons_zero, List.getElem_cons_succ]
    go_simp
    refine (HIs.out _).mono ?_
    rintro e wi ⟨vi, rfl, hN_vi, hb_wi⟩
    have hB_wi : Below W0.heap.size W0 wi := nxt (Below.drew (Below.refl _ _)) hb_wi
    refine hK.out _ _ ⟨HB0.out.to hB_wi, hB_wi⟩ (fun hHeld => ?_)
    clear hK K
    try simp only [Act.put, List.setIfInBounds_toArray, List.set_cons_zero, List.set_cons_succ, List.getElem_toArray, List.getElem_cons_zero, List.getElem_cons_succ]
    refine wpAnyH_ready (rs := [4]) (by kernel_rfl) (by simp) ?_
    refine AllReadyH.cons rfl (fun K hK => ?_) AllReadyH.nil
    try simp only [List.getElem_toArray, List.getElem_cons_zero, List.getElem_cons_succ]
    go_simp
    refine (HO1.out _).mono ?_
    rintro e wo ⟨vo, rfl, hN_vo, hb_wo⟩
    have hB_wo : Below W0.heap.size W0 wo := nxt hB_wi hb_wo
    have hN_vi := hN_vi.to hb_wo
    refine hK.out _ _ ⟨HB0.out.to hB_wo, hB_wo⟩ (fun hHeld => ?_)
    clear hK K
    try simp only [Act.put, List.setIfInBounds_toArray, List.set_cons_zero, List.set_cons_succ, List.getElem_toArray, List.getElem_cons_zero, List.getElem_cons_succ]
    refine wpAnyH_ready (rs := [5]) (by kernel_rfl) (by simp) ?_
    refine AllReadyH.cons rfl (fun K hK => ?_) AllReadyH.nil
    try simp only [List.getElem_toArray, List.getElem_cons_zero, List.getElem_cons_succ]
    go_simp
    refine (cmp_is vi vo (m.gen + m.mnt) m.most _ hN_vi hN_vo S1.out S2.out c1 HC1.out).mono ?_
    rintro e wc ⟨rfl, hb_wc⟩
    have hB_wc : Below W0.heap.size W0 wc := nxt hB_wo hb_wc
    refine hK.out _ _ ⟨HB0.out.to hB_wc, hB_wc⟩ (fun hHeld => ?_)
    clear hK K
    try simp only [Act.put, List.setIfInBounds_toArray, List.set_cons_zero, List.set_cons_succ, List.getElem_toArray, List.getElem_cons_zero, List.getElem_cons_succ]
    refine wpAnyH_take (i := 6) (v := ?va6) rfl (by kernel_rfl) (by kernel_rfl) (by kernel_rfl) (fun _ _ _ h => h) (Or.inl ⟨by rfl, ?ya6⟩) hHeld ?ra6
    case ya6 =>
      intro w' hSw
      try simp only [List.getElem_toArray, List.getElem_cons_zero, List.getElem_cons_succ]
      have f0 := hSw.1.cell (j := 0) (v := .int .u64 m.most) rfl
      have f3 := hSw.1.cell (j := 3) (v := .int .u64 m.brn) rfl
      go_simp
      try with_reducible rfl
    try simp only [Act.put, List.setIfInBounds_toArray, List.set_cons_zero, List.set_cons_succ, List.getElem_toArray, List.getElem_cons_zero, List.getElem_cons_succ]
    refine wpAnyH_take (i := 7) (v := ?va7) rfl (by kernel_rfl) (by kernel_rfl) (by kernel_rfl) (fun _ _ _ h => h) (Or.inl ⟨by rfl, ?ya7⟩) hHeld ?ra7
    case ya7 =>
      intro w' hSw
      try simp only [List.getElem_toArray, List.getElem_cons_zero, List.getElem_cons_succ]
      have f0 := hSw.1.cell (j := 0) (v := .int .u64 m.most) rfl
      have f3 := hSw.1.cell (j := 3) (v := .int .u64 m.brn) rfl
      go_simp
      try with_reducible rfl
    try simp only [Act.put, List.setIfInBounds_toArray, List.set_cons_zero, List.set_cons_succ, List.getElem_toArray, List.getElem_cons_zero, List.getElem_cons_succ]
    refine wpAnyH_take (i := 8) (v := undef) rfl (by kernel_rfl) (by kernel_rfl) (by kernel_rfl) (fun _ _ _ h => h) (Or.inr ⟨by rfl, rfl⟩) hHeld ?_
    try simp only [Act.put, List.setIfInBounds_toArray, List.set_cons_zero, List.set_cons_succ, List.getElem_toArray, List.getElem_cons_zero, List.getElem_cons_succ]
    refine wpAnyH_take (i := 9) (v := undef) rfl (by kernel_rfl) (by kernel_rfl) (by kernel_rfl) (fun _ _ _ h => h) (Or.inr ⟨by rfl, rfl⟩) hHeld ?_
    try simp only [Act.put, List.setIfInBounds_toArray, List.set_cons_zero, List.set_cons_succ, List.getElem_toArray, List.getElem_cons_zero, List.getElem_cons_succ]
    refine wpAnyH_take (i := 10) (v := undef) rfl (by kernel_rfl) (by kernel_rfl) (by kernel_rfl) (fun _ _ _ h => h) (Or.inr ⟨by rfl, rfl⟩) hHeld ?_
    try simp only [Act.put, List.setIfInBounds_toArray, List.set_cons_zero, List.set_cons_succ, List.getElem_toArray, List.getElem_cons_zero, List.getElem_cons_succ]
    refine wpAnyH_take (i := 11) (v := ?va11) rfl (by kernel_rfl) (by kernel_rfl) (by kernel_rfl) (fun _ _ _ h => h) (Or.inl ⟨by rfl, ?ya11⟩) hHeld ?ra11
    case ya11 =>
      intro w' hSw
      try simp only [List.getElem_toArray, List.getElem_cons_zero, List.getElem_cons_succ]
      have f0 := hSw.1.cell (j := 0) (v := .int .u64 m.most) rfl
      have f3 := hSw.1.cell (j := 3) (v := .int .u64 m.brn) rfl
      go_simp
      try with_reducible rfl
    try simp only [Act.put, List.setIfInBounds_toArray, List.set_cons_zero, List.set_cons_succ, List.getElem_toArray, List.getElem_cons_zero, List.getElem_cons_succ]
    refine wpAnyH_take (i := 12) (v := ?va12) rfl (by kernel_rfl) (by kernel_rfl) (by kernel_rfl) (fun _ _ _ h => h) (Or.inl ⟨by rfl, ?ya12⟩) hHeld ?ra12
    case ya12 =>
      intro w' hSw
      try simp only [List.getElem_toArray, List.getElem_cons_zero, List.getElem_cons_succ]
      have f0 := hSw.1.cell (j := 0) (v := .int .u64 m.most) rfl
      have f3 := hSw.1.cell (j := 3) (v := .int .u64 m.brn) rfl
      go_simp
      try with_reducible rfl
    try simp only [Act.put, List.setIfInBounds_toArray, List.set_cons_zero, List.set_cons_succ, List.getElem_toArray, List.getElem_cons_zero, List.getElem_cons_succ]
    refine wpAnyH_take (i := 13) (v := undef) rfl (by kernel_rfl) (by kernel_rfl) (by kernel_rfl) (fun _ _ _ h => h) (Or.inr ⟨by rfl, rfl⟩) hHeld ?_
    try simp only [Act.put, List.setIfInBounds_toArray, List.set_cons_zero, List.set_cons_succ, List.getElem_toArray, List.getElem_cons_zero, List.getElem_cons_succ]
    refine wpAnyH_take (i := 14) (v := undef) rfl (by kernel_rfl) (by kernel_rfl) (by kernel_rfl) (fun _ _ _ h => h) (Or.inr ⟨by rfl, rfl⟩) hHeld ?_
    try simp only [Act.put, List.setIfInBounds_toArray, List.set_cons_zero, List.set_cons_succ, List.getElem_toArray, List.getElem_cons_zero, List.getElem_cons_succ]
    refine wpAnyH_take (i := 15) (v := undef) rfl (by kernel_rfl) (by kernel_rfl) (by kernel_rfl) (fun _ _ _ h => h) (Or.inr ⟨by rfl, rfl⟩) hHeld ?_
    try simp only [Act.put, List.setIfInBounds_toArray, List.set_cons_zero, List.set_cons_succ, List.getElem_toArray, List.getElem_cons_zero, List.getElem_cons_succ]
    refine wpAnyH_take (i := 16) (v := undef) rfl (by kernel_rfl) (by kernel_rfl) (by kernel_rfl) (fun _ _ _ h => h) (Or.inr ⟨by rfl, rfl⟩) hHeld ?_
    try simp only [Act.put, List.setIfInBounds_toArray, List.set_cons_zero, List.set_cons_succ, List.getElem_toArray, List.getElem_cons_zero, List.getElem_cons_succ]
    refine wpAnyH_take (i := 17) (v := undef) rfl (by kernel_rfl) (by kernel_rfl) (by kernel_rfl) (fun _ _ _ h => h) (Or.inr ⟨by rfl, rfl⟩) hHeld ?_
    try simp only [Act.put, List.setIfInBounds_toArray, List.set_cons_zero, List.set_cons_succ, List.getElem_toArray, List.getElem_cons_zero, List.getElem_cons_succ]
    refine wpAnyH_take (i := 18) (v := undef) rfl (by kernel_rfl) (by kernel_rfl) (by kernel_rfl) (fun _ _ _ h => h) (Or.inr ⟨by rfl, rfl⟩) hHeld ?_
    try simp only [Act.put, List.setIfInBounds_toArray, List.set_cons_zero, List.set_cons_succ, List.getElem_toArray, List.getElem_cons_zero, List.getElem_cons_succ]
    refine wpAnyH_take (i := 19) (v := undef) rfl (by kernel_rfl) (by kernel_rfl) (by kernel_rfl) (fun _ _ _ h => h) (Or.inr ⟨by rfl, rfl⟩) hHeld ?_
    try simp only [Act.put, List.setIfInBounds_toArray, List.set_cons_zero, List.set_cons_succ, List.getElem_toArray, List.getElem_cons_zero, List.getElem_cons_succ]
    refine wpAnyH_take (i := 20) (v := undef) rfl (by kernel_rfl) (by kernel_rfl) (by kernel_rfl) (fun _ _ _ h => h) (Or.inr ⟨by rfl, rfl⟩) hHeld ?_
    try simp only [Act.put, List.setIfInBounds_toArray, List.set_cons_zero, List.set_cons_succ, List.getElem_toArray, List.getElem_cons_zero, List.getElem_cons_succ]
    refine wpAnyH_take (i := 21) (v := undef) rfl (by kernel_rfl) (by kernel_rfl) (by kernel_rfl) (fun _ _ _ h => h) (Or.inr ⟨by rfl, rfl⟩) hHeld ?_
    try simp only [Act.put, List.setIfInBounds_toArray, List.set_cons_zero, List.set_cons_succ, List.getElem_toArray, List.getElem_cons_zero, List.getElem_cons_succ]
    refine wpAnyH_take (i := 22) (v := undef) rfl (by kernel_rfl) (by kernel_rfl) (by kernel_rfl) (fun _ _ _ h => h) (Or.inr ⟨by rfl, rfl⟩) hHeld ?_
    try simp only [Act.put, List.setIfInBounds_toArray, List.set_cons_zero, List.set_cons_succ, List.getElem_toArray, List.getElem_cons_zero, List.getElem_cons_succ]
    refine wpAnyH_take (i := 23) (v := ?va23) rfl (by kernel_rfl) (by kernel_rfl) (by kernel_rfl) (fun _ _ _ h => h) (Or.inl ⟨by rfl, ?ya23⟩) hHeld ?ra23
    case ya23 =>
      intro w' hSw
      try simp only [List.getElem_toArray, List.getElem_cons_zero, List.getElem_cons_succ]
      have f0 := hSw.1.cell (j := 0) (v := .int .u64 m.most) rfl
      have f3 := hSw.1.cell (j := 3) (v := .int .u64 m.brn) rfl
      go_simp
      try with_reducible rfl
    try simp only [Act.put, List.setIfInBounds_toArray, List.set_cons_zero, List.set_cons_succ, List.getElem_toArray, List.getElem_cons_zero, List.getElem_cons_succ]
    refine wpAnyH_take (i := 24) (v := ?va24) rfl (by kernel_rfl) (by kernel_rfl) (by kernel_rfl) (fun _ _ _ h => h) (Or.inl ⟨by rfl, ?ya24⟩) hHeld ?ra24
    case ya24 =>
      intro w' hSw
      try simp only [List.getElem_toArray, List.getElem_cons_zero, List.getElem_cons_succ]
      have f0 := hSw.1.cell (j := 0) (v := .int .u64 m.most) rfl
      have f3 := hSw.1.cell (j := 3) (v := .int .u64 m.brn) rfl
      go_simp
      try with_reducible rfl
    try simp only [Act.put, List.setIfInBounds_toArray, List.set_cons_zero, List.set_cons_succ, List.getElem_toArray, List.getElem_cons_zero, List.getElem_cons_succ]
    refine wpAnyH_done (by kernel_rfl) ?_ _
    go_wp2
    go_ret
    exact ⟨rfl, hbW.trans (hB_wc.mono hbW.size)⟩
end Go.Proofs.Ytdjeedmiicagcaa.SupplyW
