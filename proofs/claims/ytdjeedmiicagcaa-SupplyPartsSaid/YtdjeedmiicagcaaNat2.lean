/- The walks of bullionref01, second part: Add, Sub, Mul, Uint, Most, Told, Sum. Conditions: the numbers are held rightly and have not too many digits. -/
import Derived.Test.YtdjeedmiicagcaaNat
namespace Go.Proofs.Ytdjeedmiicagcaa.NatW
open Go.RowKit
open Go.Proofs.Ytdjeedmiicagcaa.Words Go.Proofs.Ytdjeedmiicagcaa.Dec

theorem own_drewN {w : World} {base : Nat} {e : TypeId} {size : Nat} {v : Value} {n : Nat} {xs : List Value} (h : w.ownsRow base e size v n xs) (q : Nat) : (w.drewN q).ownsRow base e size v n xs := h

set_option maxHeartbeats 1000000 in
set_option maxRecDepth 100000 in
theorem add_row (A A' : Option Addr) (n c n' c' : Nat) (ds es : List Nat) (w : World) (h : DRow w w.heap.size A n ds) (h' : DRow w w.heap.size A' n' es) (hd : Nrm ds) (hd' : Nrm es) (hn : n ≤ 1000000) (hn' : n' ≤ 1000000) :
    Calls Try.prog 67 #[.agg #[.slice A n c], .agg #[.slice A' n' c']] w fun e w' => ∃ v, e = .returned v ∧ NatAt w.heap.size w' v (dv ds + dv es) ∧ Below w.heap.size w w' := by
  obtain ⟨i0, hi0, hz0, hz1, hz2⟩ := info_parts info_int
  obtain ⟨W0, hW0⟩ : ∃ W0, ((w.alloc (.cells #[.slice A n c] 51)).alloc (.cells #[.slice A' n' c'] 51)).alloc (.cells #[.slice none 0 0] 51) = W0 := ⟨_, rfl⟩
  have hbW : Below w.heap.size w W0 := by rw [← hW0]; exact (((Below.refl _ _).alloc (Nat.le_refl _) _).alloc (by simp) _).alloc (by simp; omega) _
  have hsz : w.heap.size + 1 + 1 < W0.heap.size := by rw [← hW0]; simp
  have hc0 : W0.cell? ⟨w.heap.size, 0, none⟩ = some (.slice A n c) := by rw [← hW0, World.cell?_alloc_past _ _ _ (by simp; omega), World.cell?_alloc_past _ _ _ (by simp), World.cell?_alloc_at _ _ _ _ rfl]; rfl
  have hc1 : W0.cell? ⟨w.heap.size + 1, 0, none⟩ = some (.slice A' n' c') := by rw [← hW0, World.cell?_alloc_past _ _ _ (by simp), World.cell?_alloc_at _ _ _ _ (by simp)]; rfl
  have hc2 : W0.cell? ⟨w.heap.size + 1 + 1, 0, none⟩ = some (.slice none 0 0) := by rw [← hW0, World.cell?_alloc_at _ _ _ _ (by simp)]; rfl
  have hf2 : W0.frozen? ⟨w.heap.size + 1 + 1, 0, none⟩ = false := by rw [← hW0]; exact World.frozen?_alloc_at _ _ _ _ (by simp)
  have hA := (h.below hbW).more (show w.heap.size ≤ W0.heap.size by omega)
  have hA' := (h'.below hbW).more (show w.heap.size ≤ W0.heap.size by omega)
  clear h h'
  have HL := Lib.hid hA.1
  have HL' := Lib.hid hA'.1
  rcases Nat.lt_or_ge n n' with hc | hc
  · skip
    go_enter Try.func67, Try.ntmps67
    go_wp2
    clear hW0
    go_loopw [5, 6, 7] (fun v cv iv wr => ∃ (out : List Nat) (carry i : Nat), iv = .int .i64 i ∧ cv = .int .i64 carry ∧ AddI ds es n' out carry i ∧ wr.ownsRow W0.heap.size 3 1 v out.length (out.map dig) ∧ Below W0.heap.size W0 wr) (fun _ _ iv _ => n' + 2 - (intOf iv).toNat)
    case atStart => exact ⟨[], 0, 0, rfl, rfl, AddI.start _ _ _, World.ownsRow_nil _ _ _ _, Below.refl _ _⟩
    case round =>
      obtain ⟨out, carry, i, rfl, rfl, hI, hown, hbw⟩ := hrel
      have hb5 := hI.2.2.2.2
      have hcar := hI.2.2.1
      have hol := Lib.hid hI.2.1
      have hr0 := bcell hbw (by show w.heap.size < _; omega) hc0
      have hr1 := bcell hbw (by show w.heap.size + 1 < _; omega) hc1
      have hAr := hA.below hbw
      have hAr' := hA'.below hbw
      by_cases hgo : i < n' ∨ 0 < carry
      · have hS := Lib.hid (hI.step hd.1 hd'.1 (by have := HL.out; omega) (by have := HL'.out; omega) hgo)
        have g1 := hd.1.dg i
        have g2 := hd'.1.dg i
        clear hI
        by_cases hi : i < n'
        · have d1 : decide (i < n') = true := by simpa using hi
          clear hgo
          go_wp2
          go_quiet ((go_at_call 83; first | (with_reducible exact q_left (at_any A n c ds _ _ _ (hAr.drewN _))) | (with_reducible exact q_left (at_any A' n' c' es _ _ _ (hAr'.drewN _)))))
          have hbq := below_drewN hbw nq
          have hownq := own_drewN hown nq
          clear hown hbw hr0 hr1 hAr hAr'
          generalize wr.drewN nq = wq at hbq hownq ⊢
          go_wp2_with (at_builtin; refine wpList_append_own _ rfl _ _ 49 rfl W0.heap.size 3 i0 (.int .i64 0) 1 8 Try.underlying49 hi0 hz0 hz1 hz2 rfl (by decide) _ _ _ rfl (hownq.alloc _) ⟨wq.heap.size, 0, none⟩ 1 1 [.int .i64 (((dg ds i : Int) + dg es i + carry) % 10)] rfl rfl (cell_one_new _ _ _) ?_ ?_ ?_ ?_ ?_)
          · intro u hu; simp at hu; subst hu; rfl
          · unfold maxLen; have := hol.out; omega
          · have := hol.out; omega
          · have := hbq.size; simp; omega
          intro v' w1 hown' hgrow _
          have hb1 := app_below hbq hownq hgrow
          clear hgrow hownq hbq
          go_wp2
          exact ⟨⟨_, _, i + 1, by go_num, by go_num, hS.out, by rw [List.length_append, List.map_append]; exact hown', hb1⟩, by simp [intOf]; omega⟩
        · have d1 : decide (i < n') = false := by simpa using hi
          have d2 : decide (0 < carry) = true := by simp; omega
          clear hgo
          go_wp2
          go_quiet ((go_at_call 83; first | (with_reducible exact q_left (at_any A n c ds _ _ _ (hAr.drewN _))) | (with_reducible exact q_left (at_any A' n' c' es _ _ _ (hAr'.drewN _)))))
          have hbq := below_drewN hbw nq
          have hownq := own_drewN hown nq
          clear hown hbw hr0 hr1 hAr hAr'
          generalize wr.drewN nq = wq at hbq hownq ⊢
          go_wp2_with (at_builtin; refine wpList_append_own _ rfl _ _ 49 rfl W0.heap.size 3 i0 (.int .i64 0) 1 8 Try.underlying49 hi0 hz0 hz1 hz2 rfl (by decide) _ _ _ rfl (hownq.alloc _) ⟨wq.heap.size, 0, none⟩ 1 1 [.int .i64 (((dg ds i : Int) + dg es i + carry) % 10)] rfl rfl (cell_one_new _ _ _) ?_ ?_ ?_ ?_ ?_)
          · intro u hu; simp at hu; subst hu; rfl
          · unfold maxLen; have := hol.out; omega
          · have := hol.out; omega
          · have := hbq.size; simp; omega
          intro v' w1 hown' hgrow _
          have hb1 := app_below hbq hownq hgrow
          clear hgrow hownq hbq
          go_wp2
          exact ⟨⟨_, _, i + 1, by go_num, by go_num, hS.out, by rw [List.length_append, List.map_append]; exact hown', hb1⟩, by simp [intOf]; omega⟩
      · obtain rfl : carry = 0 := by omega
        have d1 : decide (i < n') = false := by simp; omega
        have hdone := Lib.hid (hI.done (by have := HL.out; omega) (by have := HL'.out; omega) (by omega))
        clear hI
        obtain ⟨A2, c2, rfl, hnc, hlo, hrow⟩ := drow_of_own hown
        have hr2 := bcell hbw (by show w.heap.size + 1 + 1 < _; omega) hc2
        have hf := (hbw.frozen (p := ⟨w.heap.size + 1 + 1, 0, none⟩) (by show w.heap.size + 1 + 1 < _; omega)).trans hf2
        have hlen : out.length ≤ 2000010 := by have := hol.out; omega
        clear hown
        go_wp2_with fail
        refine (trim_any A2 out.length c2 out _ hrow hdone.out.1 hnc hlen).mono ?_
        rintro e w2 ⟨m, rfl, hm, hN, hV, hb2⟩
        have hb3 := hb2.mono hbw.size
        have hr3 := bcell hb3 (by show w.heap.size + 1 + 1 < _; omega) hr2
        have hf3 := (hb3.frozen (p := ⟨w.heap.size + 1 + 1, 0, none⟩) (by show w.heap.size + 1 + 1 < _; omega)).trans hf
        have hV' := Lib.hid (hV.trans hdone.out.2)
        clear hV
        go_wp2
        refine bodyPost_ret (v := .agg #[.slice A2 m c2]) (by simp [results, Try.results67, go_sem, World.cell?_setCell_same _ _ _ hr3]) rfl ?_
        refine ⟨_, rfl, ⟨A2, m, c2, _, rfl, by omega, ?_, hN, hV'.out, fun ad h => by have := hlo ad h; omega⟩, ?_⟩
        · rw [World.size_setCell]
          exact ((drow_take hrow hm).to hb2).set (fun ad h => by have := hlo ad h; show ad.block ≠ w.heap.size + 1 + 1; omega) _
        · exact (hbW.trans ((hbw.trans hb3).mono (by omega))).setCell (by show w.heap.size ≤ w.heap.size + 1 + 1; omega) _
  · skip
    go_enter Try.func67, Try.ntmps67
    go_wp2
    clear hW0
    go_loopw [5, 6, 7] (fun v cv iv wr => ∃ (out : List Nat) (carry i : Nat), iv = .int .i64 i ∧ cv = .int .i64 carry ∧ AddI ds es n out carry i ∧ wr.ownsRow W0.heap.size 3 1 v out.length (out.map dig) ∧ Below W0.heap.size W0 wr) (fun _ _ iv _ => n + 2 - (intOf iv).toNat)
    case atStart => exact ⟨[], 0, 0, rfl, rfl, AddI.start _ _ _, World.ownsRow_nil _ _ _ _, Below.refl _ _⟩
    case round =>
      obtain ⟨out, carry, i, rfl, rfl, hI, hown, hbw⟩ := hrel
      have hb5 := hI.2.2.2.2
      have hcar := hI.2.2.1
      have hol := Lib.hid hI.2.1
      have hr0 := bcell hbw (by show w.heap.size < _; omega) hc0
      have hr1 := bcell hbw (by show w.heap.size + 1 < _; omega) hc1
      have hAr := hA.below hbw
      have hAr' := hA'.below hbw
      by_cases hgo : i < n ∨ 0 < carry
      · have hS := Lib.hid (hI.step hd.1 hd'.1 (by have := HL.out; omega) (by have := HL'.out; omega) hgo)
        have g1 := hd.1.dg i
        have g2 := hd'.1.dg i
        clear hI
        by_cases hi : i < n
        · have d1 : decide (i < n) = true := by simpa using hi
          clear hgo
          go_wp2
          go_quiet ((go_at_call 83; first | (with_reducible exact q_left (at_any A n c ds _ _ _ (hAr.drewN _))) | (with_reducible exact q_left (at_any A' n' c' es _ _ _ (hAr'.drewN _)))))
          have hbq := below_drewN hbw nq
          have hownq := own_drewN hown nq
          clear hown hbw hr0 hr1 hAr hAr'
          generalize wr.drewN nq = wq at hbq hownq ⊢
          go_wp2_with (at_builtin; refine wpList_append_own _ rfl _ _ 49 rfl W0.heap.size 3 i0 (.int .i64 0) 1 8 Try.underlying49 hi0 hz0 hz1 hz2 rfl (by decide) _ _ _ rfl (hownq.alloc _) ⟨wq.heap.size, 0, none⟩ 1 1 [.int .i64 (((dg ds i : Int) + dg es i + carry) % 10)] rfl rfl (cell_one_new _ _ _) ?_ ?_ ?_ ?_ ?_)
          · intro u hu; simp at hu; subst hu; rfl
          · unfold maxLen; have := hol.out; omega
          · have := hol.out; omega
          · have := hbq.size; simp; omega
          intro v' w1 hown' hgrow _
          have hb1 := app_below hbq hownq hgrow
          clear hgrow hownq hbq
          go_wp2
          exact ⟨⟨_, _, i + 1, by go_num, by go_num, hS.out, by rw [List.length_append, List.map_append]; exact hown', hb1⟩, by simp [intOf]; omega⟩
        · have d1 : decide (i < n) = false := by simpa using hi
          have d2 : decide (0 < carry) = true := by simp; omega
          clear hgo
          go_wp2
          go_quiet ((go_at_call 83; first | (with_reducible exact q_left (at_any A n c ds _ _ _ (hAr.drewN _))) | (with_reducible exact q_left (at_any A' n' c' es _ _ _ (hAr'.drewN _)))))
          have hbq := below_drewN hbw nq
          have hownq := own_drewN hown nq
          clear hown hbw hr0 hr1 hAr hAr'
          generalize wr.drewN nq = wq at hbq hownq ⊢
          go_wp2_with (at_builtin; refine wpList_append_own _ rfl _ _ 49 rfl W0.heap.size 3 i0 (.int .i64 0) 1 8 Try.underlying49 hi0 hz0 hz1 hz2 rfl (by decide) _ _ _ rfl (hownq.alloc _) ⟨wq.heap.size, 0, none⟩ 1 1 [.int .i64 (((dg ds i : Int) + dg es i + carry) % 10)] rfl rfl (cell_one_new _ _ _) ?_ ?_ ?_ ?_ ?_)
          · intro u hu; simp at hu; subst hu; rfl
          · unfold maxLen; have := hol.out; omega
          · have := hol.out; omega
          · have := hbq.size; simp; omega
          intro v' w1 hown' hgrow _
          have hb1 := app_below hbq hownq hgrow
          clear hgrow hownq hbq
          go_wp2
          exact ⟨⟨_, _, i + 1, by go_num, by go_num, hS.out, by rw [List.length_append, List.map_append]; exact hown', hb1⟩, by simp [intOf]; omega⟩
      · obtain rfl : carry = 0 := by omega
        have d1 : decide (i < n) = false := by simp; omega
        have hdone := Lib.hid (hI.done (by have := HL.out; omega) (by have := HL'.out; omega) (by omega))
        clear hI
        obtain ⟨A2, c2, rfl, hnc, hlo, hrow⟩ := drow_of_own hown
        have hr2 := bcell hbw (by show w.heap.size + 1 + 1 < _; omega) hc2
        have hf := (hbw.frozen (p := ⟨w.heap.size + 1 + 1, 0, none⟩) (by show w.heap.size + 1 + 1 < _; omega)).trans hf2
        have hlen : out.length ≤ 2000010 := by have := hol.out; omega
        clear hown
        go_wp2_with fail
        refine (trim_any A2 out.length c2 out _ hrow hdone.out.1 hnc hlen).mono ?_
        rintro e w2 ⟨m, rfl, hm, hN, hV, hb2⟩
        have hb3 := hb2.mono hbw.size
        have hr3 := bcell hb3 (by show w.heap.size + 1 + 1 < _; omega) hr2
        have hf3 := (hb3.frozen (p := ⟨w.heap.size + 1 + 1, 0, none⟩) (by show w.heap.size + 1 + 1 < _; omega)).trans hf
        have hV' := Lib.hid (hV.trans hdone.out.2)
        clear hV
        go_wp2
        refine bodyPost_ret (v := .agg #[.slice A2 m c2]) (by simp [results, Try.results67, go_sem, World.cell?_setCell_same _ _ _ hr3]) rfl ?_
        refine ⟨_, rfl, ⟨A2, m, c2, _, rfl, by omega, ?_, hN, hV'.out, fun ad h => by have := hlo ad h; omega⟩, ?_⟩
        · rw [World.size_setCell]
          exact ((drow_take hrow hm).to hb2).set (fun ad h => by have := hlo ad h; show ad.block ≠ w.heap.size + 1 + 1; omega) _
        · exact (hbW.trans ((hbw.trans hb3).mono (by omega))).setCell (by show w.heap.size ≤ w.heap.size + 1 + 1; omega) _


set_option maxHeartbeats 1000000 in
set_option maxRecDepth 100000 in
theorem sub_row (A A' : Option Addr) (n c n' c' : Nat) (ds es : List Nat) (w : World) (h : DRow w w.heap.size A n ds) (h' : DRow w w.heap.size A' n' es) (hd : Nrm ds) (hd' : Nrm es) (hn : n ≤ 1000000) (hle : dv es ≤ dv ds) :
    Calls Try.prog 60 #[.agg #[.slice A n c], .agg #[.slice A' n' c']] w fun e w' => ∃ v, e = .returned v ∧ NatAt w.heap.size w' v (dv ds - dv es) ∧ Below w.heap.size w w' := by
  obtain ⟨i0, hi0, hz0, hz1, hz2⟩ := info_parts info_int
  obtain ⟨W0, hW0⟩ : ∃ W0, ((w.alloc (.cells #[.slice A n c] 51)).alloc (.cells #[.slice A' n' c'] 51)).alloc (.cells #[.slice none 0 0] 51) = W0 := ⟨_, rfl⟩
  have hbW : Below w.heap.size w W0 := by rw [← hW0]; exact (((Below.refl _ _).alloc (Nat.le_refl _) _).alloc (by simp) _).alloc (by simp; omega) _
  have hsz : w.heap.size + 1 + 1 < W0.heap.size := by rw [← hW0]; simp
  have hc0 : W0.cell? ⟨w.heap.size, 0, none⟩ = some (.slice A n c) := by rw [← hW0, World.cell?_alloc_past _ _ _ (by simp; omega), World.cell?_alloc_past _ _ _ (by simp), World.cell?_alloc_at _ _ _ _ rfl]; rfl
  have hc1 : W0.cell? ⟨w.heap.size + 1, 0, none⟩ = some (.slice A' n' c') := by rw [← hW0, World.cell?_alloc_past _ _ _ (by simp), World.cell?_alloc_at _ _ _ _ (by simp)]; rfl
  have hc2 : W0.cell? ⟨w.heap.size + 1 + 1, 0, none⟩ = some (.slice none 0 0) := by rw [← hW0, World.cell?_alloc_at _ _ _ _ (by simp)]; rfl
  have hf2 : W0.frozen? ⟨w.heap.size + 1 + 1, 0, none⟩ = false := by rw [← hW0]; exact World.frozen?_alloc_at _ _ _ _ (by simp)
  have hA := (h.below hbW).more (show w.heap.size ≤ W0.heap.size by omega)
  have hA' := (h'.below hbW).more (show w.heap.size ≤ W0.heap.size by omega)
  clear h h'
  have HL := Lib.hid hA.1
  go_enter Try.func60, Try.ntmps60
  go_wp2
  clear hW0
  go_loopw [5, 6, 7] (fun v bv iv wr => ∃ (out : List Nat) (borrow i : Nat), iv = .int .i64 i ∧ bv = .int .i64 borrow ∧ SubI ds es out borrow i ∧ i ≤ n ∧ wr.ownsRow W0.heap.size 3 1 v out.length (out.map dig) ∧ Below W0.heap.size W0 wr) (fun _ _ iv _ => n - (intOf iv).toNat)
  case atStart => exact ⟨[], 0, 0, rfl, rfl, SubI.start _ _, Nat.zero_le _, World.ownsRow_nil _ _ _ _, Below.refl _ _⟩
  case round =>
    obtain ⟨out, borrow, i, rfl, rfl, hI, hin, hown, hbw⟩ := hrel
    have hbor := hI.2.2.1
    have hol := Lib.hid hI.2.1
    have hr0 := bcell hbw (by show w.heap.size < _; omega) hc0
    have hr1 := bcell hbw (by show w.heap.size + 1 < _; omega) hc1
    have hAr := hA.below hbw
    have hAr' := hA'.below hbw
    by_cases hi : i < n
    · have d1 : decide (i < n) = true := by simpa using hi
      obtain ⟨ad, hAe, _, hcell⟩ := hAr.2 i hi
      subst hAe
      have g1 := hd.1.dg i
      have g2 := hd'.1.dg i
      clear hAr
      by_cases hlt : dg ds i < dg es i + borrow
      · skip
        have hS := Lib.hid (SubI.lend (s := dg ds i + 10 - dg es i - borrow) (by omega) hI (by omega))
        have hs : (((dg ds i + 10 - dg es i - borrow : Nat) : Nat) : Int) = (dg ds i : Int) - dg es i - borrow + 10 := by omega
        have HS := Lib.hid hs
        clear hs hI
        go_wp2
        go_quiet ((go_at_call 83; (with_reducible exact q_left (at_any A' n' c' es _ _ _ (hAr'.drewN _)))))
        have hbq := below_drewN hbw nq
        have hownq := own_drewN hown nq
        clear hown hbw hr0 hr1 hAr'
        generalize wr.drewN nq = wq at hbq hownq ⊢
        go_wp2_with (at_builtin; refine wpList_append_own _ rfl _ _ 49 rfl W0.heap.size 3 i0 (.int .i64 0) 1 8 Try.underlying49 hi0 hz0 hz1 hz2 rfl (by decide) _ _ _ rfl (hownq.alloc _) ⟨wq.heap.size, 0, none⟩ 1 1 [.int .i64 ((dg ds i : Int) - dg es i - borrow + 10)] rfl rfl (cell_one_new _ _ _) ?_ ?_ ?_ ?_ ?_)
        · intro u hu; simp at hu; subst hu; rfl
        · unfold maxLen; have := hol.out; omega
        · have := hol.out; omega
        · have := hbq.size; simp; omega
        intro v' w1 hown' hgrow _
        have hb1 := app_below hbq hownq hgrow
        clear hgrow hownq hbq
        go_wp2
        exact ⟨⟨_, 1, i + 1, by go_num, by go_num, hS.out, by omega, by rw [List.length_append, List.map_append, List.map_singleton, dig, HS.out]; exact hown', hb1⟩, by simp [intOf]; omega⟩
      · skip
        have hS := Lib.hid (SubI.stay (s := dg ds i - dg es i - borrow) hd.1 hI (by omega))
        have hs : (((dg ds i - dg es i - borrow : Nat) : Nat) : Int) = (dg ds i : Int) - dg es i - borrow := by omega
        have HS := Lib.hid hs
        clear hs hI
        go_wp2
        go_quiet ((go_at_call 83; (with_reducible exact q_left (at_any A' n' c' es _ _ _ (hAr'.drewN _)))))
        have hbq := below_drewN hbw nq
        have hownq := own_drewN hown nq
        clear hown hbw hr0 hr1 hAr'
        generalize wr.drewN nq = wq at hbq hownq ⊢
        go_wp2_with (at_builtin; refine wpList_append_own _ rfl _ _ 49 rfl W0.heap.size 3 i0 (.int .i64 0) 1 8 Try.underlying49 hi0 hz0 hz1 hz2 rfl (by decide) _ _ _ rfl (hownq.alloc _) ⟨wq.heap.size, 0, none⟩ 1 1 [.int .i64 ((dg ds i : Int) - dg es i - borrow)] rfl rfl (cell_one_new _ _ _) ?_ ?_ ?_ ?_ ?_)
        · intro u hu; simp at hu; subst hu; rfl
        · unfold maxLen; have := hol.out; omega
        · have := hol.out; omega
        · have := hbq.size; simp; omega
        intro v' w1 hown' hgrow _
        have hb1 := app_below hbq hownq hgrow
        clear hgrow hownq hbq
        go_wp2
        exact ⟨⟨_, 0, i + 1, by go_num, by go_num, hS.out, by omega, by rw [List.length_append, List.map_append, List.map_singleton, dig, HS.out]; exact hown', hb1⟩, by simp [intOf]; omega⟩
    · have d1 : decide (i < n) = false := by simpa using hi
      obtain rfl : i = n := by omega
      · have hdone := Lib.hid (SubI.done hd' (by rw [HL.out]; exact hI) hle hd.1)
        clear hI
        obtain ⟨A2, c2, rfl, hnc, hlo, hrow⟩ := drow_of_own hown
        have hr2 := bcell hbw (by show w.heap.size + 1 + 1 < _; omega) hc2
        have hf := (hbw.frozen (p := ⟨w.heap.size + 1 + 1, 0, none⟩) (by show w.heap.size + 1 + 1 < _; omega)).trans hf2
        have hlen : out.length ≤ 2000010 := by have := hol.out; omega
        clear hown
        go_wp2_with fail
        refine (trim_any A2 out.length c2 out _ hrow hdone.out.1 hnc hlen).mono ?_
        rintro e w2 ⟨m, rfl, hm, hN, hV, hb2⟩
        have hb3 := hb2.mono hbw.size
        have hr3 := bcell hb3 (by show w.heap.size + 1 + 1 < _; omega) hr2
        have hf3 := (hb3.frozen (p := ⟨w.heap.size + 1 + 1, 0, none⟩) (by show w.heap.size + 1 + 1 < _; omega)).trans hf
        have hV' := Lib.hid (hV.trans hdone.out.2)
        clear hV
        go_wp2
        refine bodyPost_ret (v := .agg #[.slice A2 m c2]) (by simp [results, Try.results60, go_sem, World.cell?_setCell_same _ _ _ hr3]) rfl ?_
        refine ⟨_, rfl, ⟨A2, m, c2, _, rfl, by omega, ?_, hN, hV'.out, fun ad h => by have := hlo ad h; omega⟩, ?_⟩
        · rw [World.size_setCell]
          exact ((drow_take hrow hm).to hb2).set (fun ad h => by have := hlo ad h; show ad.block ≠ w.heap.size + 1 + 1; omega) _
        · exact (hbW.trans ((hbw.trans hb3).mono (by omega))).setCell (by show w.heap.size ≤ w.heap.size + 1 + 1; omega) _
end Go.Proofs.Ytdjeedmiicagcaa.NatW
