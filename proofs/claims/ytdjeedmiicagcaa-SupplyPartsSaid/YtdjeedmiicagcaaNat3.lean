/- The walks of bullionref01, third part: Mul, Uint, Most, Told, Sum. Conditions: the numbers are held rightly and have not too many digits. -/
import Derived.Test.YtdjeedmiicagcaaNat2
namespace Go.Proofs.Ytdjeedmiicagcaa.NatW
open Go.RowKit
open Go.Proofs.Ytdjeedmiicagcaa.Words Go.Proofs.Ytdjeedmiicagcaa.Dec

set_option maxHeartbeats 1000000 in
set_option maxRecDepth 100000 in
theorem mul_row (A A' : Option Addr) (n c n' c' : Nat) (ds es : List Nat) (w : World) (h : DRow w w.heap.size A n ds) (h' : DRow w w.heap.size A' n' es) (hd : Nrm ds) (hd' : Nrm es) (hn : n ≤ 1000000) (hn' : n' ≤ 1000000) :
    Calls Try.prog 84 #[.agg #[.slice A n c], .agg #[.slice A' n' c']] w fun e w' => ∃ v, e = .returned v ∧ NatAt w.heap.size w' v (dv ds * dv es) ∧ Below w.heap.size w w' := by
  obtain ⟨i0, hi0, hz0, hz1, hz2⟩ := info_parts info_int
  obtain ⟨W0, hW0⟩ : ∃ W0, ((w.alloc (.cells #[.slice A n c] 51)).alloc (.cells #[.slice A' n' c'] 51)).alloc (.cells #[.slice none 0 0] 51) = W0 := ⟨_, rfl⟩
  have hbW : Below w.heap.size w W0 := by rw [← hW0]; exact (((Below.refl _ _).alloc (Nat.le_refl _) _).alloc (by simp) _).alloc (by simp; omega) _
  have hsz : w.heap.size + 1 + 1 < W0.heap.size := by rw [← hW0]; simp
  have hc0 : W0.cell? ⟨w.heap.size, 0, none⟩ = some (.slice A n c) := by rw [← hW0, World.cell?_alloc_past _ _ _ (by simp; omega), World.cell?_alloc_past _ _ _ (by simp), World.cell?_alloc_at _ _ _ _ rfl]; rfl
  have hc1 : W0.cell? ⟨w.heap.size + 1, 0, none⟩ = some (.slice A' n' c') := by rw [← hW0, World.cell?_alloc_past _ _ _ (by simp), World.cell?_alloc_at _ _ _ _ (by simp)]; rfl
  have hc2 : W0.cell? ⟨w.heap.size + 1 + 1, 0, none⟩ = some (.slice none 0 0) := by rw [← hW0, World.cell?_alloc_at _ _ _ _ (by simp)]; rfl
  have hf2 : W0.frozen? ⟨w.heap.size + 1 + 1, 0, none⟩ = false := by rw [← hW0]; exact World.frozen?_alloc_at _ _ _ _ (by simp)
  have hA := (h.below hbW).more (show w.heap.size ≤ W0.heap.size by omega)
  have hA' := (h'.below hbW).more (show w.heap.size ≤ W0.heap.size by omega)
  clear h h'
  have HL := Lib.hid hA.1
  have HL' := Lib.hid hA'.1
  go_enter Try.func84, Try.ntmps84
  go_wp2_with (at_make; clear hW0; refine wpList_make_full _ rfl _ _ 49 rfl W0.heap.size 3 i0 (.int .i64 0) 1 Try.underlying49 hi0 hz0 hz1 _ _ _ _ (n + n' + 1) rfl rfl (by omega) (by omega) ?_ (by unfold maxLen; omega) (Nat.le_refl _) ?_)
  · rw [hz2]; omega
  intro w1 hown hgrow
  have hb1 : Below W0.heap.size W0 w1 := (Below.refl _ _).grown hgrow (Nat.le_refl _) (fun _ h => by cases h)
  have hown1 : w1.ownsRow W0.heap.size 3 1 (.slice (some ⟨W0.heap.size, 0, none⟩) (n + n' + 1) (n + n' + 1)) (n + n' + 1) ((List.replicate (n + n' + 1) 0).map dig) := by
    have e : (madeCells #[Value.int .i64 0] (n + n' + 1)).toList = (List.replicate (n + n' + 1) 0).map dig := by
      rw [List.map_replicate]; exact toList_madeCells_one _ _
    rw [← e]; exact hown
  have hst := Lib.hid (MulO.start ds es)
  clear hown hgrow
  go_wp2
  go_loopw [6] (fun iv wr => ∃ (i : Nat) (d : List Nat), iv = .int .i64 i ∧ i ≤ n ∧ MulO ds es d i ∧ wr.ownsRow W0.heap.size 3 1 (.slice (some ⟨W0.heap.size, 0, none⟩) (n + n' + 1) (n + n' + 1)) (n + n' + 1) (d.map dig) ∧ Below W0.heap.size W0 wr) (fun iv _ => n - (intOf iv).toNat)
  case atStart => exact ⟨0, _, rfl, Nat.zero_le _, hst.out, by rw [HL.out, HL'.out]; exact hown1, hb1⟩
  case round =>
    obtain ⟨i, d0, rfl, hin, hO, hown, hbw⟩ := hrel
    by_cases hi : i < n
    · have d1 : decide (i < n) = true := by simpa using hi
      have hr0 := bcell hbw (by show w.heap.size < _; omega) hc0
      have hrow := Lib.hid hO.row
      clear hO hst hb1 hown1
      go_wp2
      obtain ⟨wo, rfl⟩ : ∃ wo : World, wo = wr := ⟨_, rfl⟩
      go_loopw [7, 8] (fun cv kv wr => ∃ (carry k : Nat) (d : List Nat), kv = .int .i64 k ∧ cv = .int .i64 carry ∧ MulI ds es d carry i k ∧ wr.ownsRow W0.heap.size 3 1 (.slice (some ⟨W0.heap.size, 0, none⟩) (n + n' + 1) (n + n' + 1)) (n + n' + 1) (d.map dig) ∧ Below W0.heap.size W0 wr) (fun _ kv _ => n' + 2 - (intOf kv).toNat)
      case atStart => exact ⟨0, 0, d0, rfl, rfl, hrow.out, hown, hbw⟩
      case round =>
        clear hown hbw hr0
        obtain ⟨carry, k, d, rfl, rfl, hI, hown, hbw⟩ := hrel
        have hr0 := bcell hbw (by show w.heap.size < _; omega) hc0
        have hr1 := bcell hbw (by show w.heap.size + 1 < _; omega) hc1
        have hAr := hA.below hbw
        have hAr' := hA'.below hbw
        obtain ⟨ad, hAe, _, hcell⟩ := hAr.2 i hi
        subst hAe
        have hcar := hI.2.2.1
        have h5 := hI.2.2.2.2
        rw [HL'.out] at h5
        have g1 := hd.1.dg i
        have g2 := hd'.1.dg k
        have g4 := mul_bd (a := dg ds i) (b := dg es k) (by omega) (by omega)
        have m1 : ((dg ds i * dg es k : Nat) : Int) = (dg ds i : Int) * (dg es k : Int) := by simp
        have g5 : 0 ≤ (dg ds i : Int) * (dg es k : Int) := by rw [← m1]; omega
        have g6 : (dg ds i : Int) * (dg es k : Int) ≤ 81 := by rw [← m1]; omega
        clear hAr
        by_cases hgo : k < n' ∨ 0 < carry
        · have hp := hI.place (by rw [HL.out]; exact hi)
          have hlen : d.length = n + n' + 1 := by rw [hI.2.1, HL.out, HL'.out]
          have hpl : i + k < n + n' + 1 := by omega
          have g3 := hI.1.dg (i + k)
          have hcd : wr.cell? ⟨W0.heap.size, i + k, none⟩ = some (.int .i64 (dg d (i + k))) := by rw [hown.cellAt (i + k) (by omega)]; exact digs_at hp
          have hS := Lib.hid (hI.step hd.1 hd'.1 (by rw [HL.out]; exact hi) (by rw [HL'.out]; exact hgo))
          have hcs : ((((dg d (i + k) + dg ds i * dg es k + carry) % 10 : Nat) : Nat) : Int) = ((dg d (i + k) : Int) + (dg ds i : Int) * (dg es k : Int) + carry) % 10 := by rw [← m1]; omega
          have hcc : ((((dg d (i + k) + dg ds i * dg es k + carry) / 10 : Nat) : Nat) : Int) = ((dg d (i + k) : Int) + (dg ds i : Int) * (dg es k : Int) + carry) / 10 := by rw [← m1]; omega
          have HCS := Lib.hid hcs
          have HCC := Lib.hid hcc
          clear hcs hcc hI hp hlen
          have e1 : IntKind.i64.wrap ((dg ds i : Int) * (dg es k : Int)) = (dg ds i : Int) * (dg es k : Int) := IntWalk.i64_in _ (by omega)
          have e2 : IntKind.i64.wrap ((dg d (i + k) : Int) + (dg ds i : Int) * (dg es k : Int)) = (dg d (i + k) : Int) + (dg ds i : Int) * (dg es k : Int) := IntWalk.i64_in _ (by omega)
          have e3 : IntKind.i64.wrap ((dg d (i + k) : Int) + (dg ds i : Int) * (dg es k : Int) + carry) = (dg d (i + k) : Int) + (dg ds i : Int) * (dg es k : Int) + carry := IntWalk.i64_in _ (by omega)
          have e4 : IntKind.i64.wrap ((i : Int) + (k : Int)) = (i : Int) + (k : Int) := IntWalk.i64_in _ (by omega)
          have e5 : ((i : Int) + (k : Int)).toNat = i + k := by omega
          have e6 : (0 : Int) ≤ (i : Int) + (k : Int) := by omega
          have e7 : (i : Int) + (k : Int) < (n : Int) + (n' : Int) + 1 := by omega
          clear m1 g4
          by_cases hk : k < n'
          · have d2 : decide (k < n') = true := by simpa using hk
            clear hgo
            go_wp2
            go_quiet ((go_at_call 83; (with_reducible exact q_left (at_any A' n' c' es _ _ _ (hAr'.drewN _)))))
            have hbq := below_drewN hbw nq
            have hownq := own_drewN hown nq
            have hfq := hownq.frozenAt (i + k)
            have hcq : (wr.drewN nq).cell? ⟨W0.heap.size, i + k, none⟩ = some (.int .i64 (dg d (i + k))) := hcd
            clear hown hbw hr0 hr1 hAr' hcd
            generalize wr.drewN nq = wq at hbq hownq hfq hcq ⊢
            go_wp2
            exact ⟨⟨_, k + 1, _, by go_num, by rw [HCC.out], hS.out, by rw [List.map_set, dig, HCS.out]; exact (hownq.stored _ _).1, hbq.setCell (Nat.le_refl _) _⟩, by simp [intOf]; omega⟩
          · have d2 : decide (k < n') = false := by simpa using hk
            have d3 : decide (0 < carry) = true := by simp; omega
            clear hgo
            go_wp2
            go_quiet ((go_at_call 83; (with_reducible exact q_left (at_any A' n' c' es _ _ _ (hAr'.drewN _)))))
            have hbq := below_drewN hbw nq
            have hownq := own_drewN hown nq
            have hfq := hownq.frozenAt (i + k)
            have hcq : (wr.drewN nq).cell? ⟨W0.heap.size, i + k, none⟩ = some (.int .i64 (dg d (i + k))) := hcd
            clear hown hbw hr0 hr1 hAr' hcd
            generalize wr.drewN nq = wq at hbq hownq hfq hcq ⊢
            go_wp2
            exact ⟨⟨_, k + 1, _, by go_num, by rw [HCC.out], hS.out, by rw [List.map_set, dig, HCS.out]; exact (hownq.stored _ _).1, hbq.setCell (Nat.le_refl _) _⟩, by simp [intOf]; omega⟩
        · obtain rfl : carry = 0 := by omega
          have d2 : decide (k < n') = false := by simp; omega
          have hO := Lib.hid (hI.done (by rw [HL'.out]; omega))
          clear hI
          go_wp2
          exact ⟨⟨i + 1, d, by go_num, by omega, hO.out, hown, hbw⟩, by simp [intOf]; omega⟩
    · obtain rfl : i = n := by omega
      have d1 : decide (i < i) = false := by simp
      · have hdone := Lib.hid (MulO.done (by rw [HL.out]; exact hO))
        have hr0 := bcell hbw (by show w.heap.size < _; omega) hc0
        have hlen : d0.length = i + n' + 1 := by rw [hO.2.1, HL.out, HL'.out]
        have hdd := hO.1
        obtain ⟨A2, c2, hv, hnc, _, hlo, hrd⟩ := Rd.own hown (fun j hj => digs_at (by rw [hlen]; exact hj))
        have hrow : DRow wr wr.heap.size A2 (i + n' + 1) d0 := ⟨hlen, hrd⟩
        simp only [Value.slice.injEq, true_and] at hv
        obtain ⟨rfl, rfl⟩ := hv
        have hr2 := bcell hbw (by show w.heap.size + 1 + 1 < _; omega) hc2
        have hf := (hbw.frozen (p := ⟨w.heap.size + 1 + 1, 0, none⟩) (by show w.heap.size + 1 + 1 < _; omega)).trans hf2
        clear hown hO hst hb1 hown1 hlen hrd
        go_wp2_with fail
        refine (trim_any _ _ _ d0 _ hrow hdd (Nat.le_refl _) (by omega)).mono ?_
        rintro e w2 ⟨m, rfl, hm, hN, hV, hb2⟩
        have hb3 := hb2.mono hbw.size
        have hr3 := bcell hb3 (by show w.heap.size + 1 + 1 < _; omega) hr2
        have hf3 := (hb3.frozen (p := ⟨w.heap.size + 1 + 1, 0, none⟩) (by show w.heap.size + 1 + 1 < _; omega)).trans hf
        have hV' := Lib.hid (hV.trans hdone.out)
        clear hV
        go_wp2
        refine bodyPost_ret (v := .agg #[.slice (some ⟨W0.heap.size, 0, none⟩) m (i + n' + 1)]) (by simp [results, Try.results84, go_sem, World.cell?_setCell_same _ _ _ hr3]) rfl ?_
        refine ⟨_, rfl, ⟨_, m, _, _, rfl, by omega, ?_, hN, hV'.out, fun ad h => by have := hlo ad h; omega⟩, ?_⟩
        · rw [World.size_setCell]
          exact ((drow_take hrow hm).to hb2).set (fun ad h => by have := hlo ad h; show ad.block ≠ w.heap.size + 1 + 1; omega) _
        · exact (hbW.trans ((hbw.trans hb3).mono (by omega))).setCell (by show w.heap.size ≤ w.heap.size + 1 + 1; omega) _
end Go.Proofs.Ytdjeedmiicagcaa.NatW
