/- The walks of the roll, fifth part: Turn of both sides. Conditions: rings are read rightly and are not too long. -/
import Derived.Test.YtblpekeikmblmaaRoll4
namespace Go.Proofs.Ytblpekeikmblmaa.BitsW
open Go.RowKit
open Go.Proofs.Ytblpekeikmblmaa.Words Go.Proofs.Ytblpekeikmblmaa.Bit

/-- a ring of the call's own grows by a row of its own -/
theorem OR.push {w w1 : World} {b n : Nat} {v v' : Value} {rs : List (List Nat)} {xs : List Nat} {u : Value} {ys : List Value} {o : Obj}
    (hl : rs.length = n) (ho : w.ownsRow b 24 1 v n ys) (hx : ∀ i, i < n → ∃ u, ys[i]? = some u ∧ w.ownsRow b 5 1 u (ro rs i).length ((ro rs i).map byc) ∧ Byt (ro rs i))
    (hu : w.ownsRow b 5 1 u xs.length (xs.map byc)) (hb : Byt xs) (ho1 : w1.ownsRow b 24 1 v' (n + 1) (ys ++ [u])) (hg : (w.alloc o).grownBy w1 v.ownBlock) : OR w1 b v' (n + 1) (rs ++ [xs]) := by
  have hyl : ys.length = n := by have := ho.1; omega
  have hk : ∀ {z : Value} {zs : List Nat}, w.ownsRow b 5 1 z zs.length (zs.map byc) → w1.ownsRow b 5 1 z zs.length (zs.map byc) := fun {z zs} h =>
    (h.alloc o).kept hg ((tags (h.alloc o) (ho.alloc o) (by decide)))
  refine ⟨by simp [hl], _, ho1, fun i hi => ?_⟩
  by_cases h : i < n
  · obtain ⟨z, h1, h2, h3⟩ := hx i h
    have e : ro (rs ++ [xs]) i = ro rs i := by simp only [ro, List.getD_eq_getElem?_getD, List.getElem?_append_left (show i < rs.length by omega)]
    rw [e]
    exact ⟨z, by rw [List.getElem?_append_left (by omega)]; exact h1, hk h2, h3⟩
  · obtain rfl : i = n := by omega
    have e : ro (rs ++ [xs]) i = xs := by simp only [ro, List.getD_eq_getElem?_getD, List.getElem?_append_right (show rs.length ≤ i by omega)]; simp [hl]
    rw [e]
    exact ⟨u, by rw [List.getElem?_append_right (by omega)]; simp [hyl], hk hu, hb⟩
theorem own_to {w w' : World} {b n s : Nat} {e : TypeId} {v : Value} {xs : List Value} (h : w.ownsRow b e s v n xs) (hb : Below w.heap.size w w') : w'.ownsRow b e s v n xs :=
  h.kept (row := none) ⟨hb.os, hb.tape, hb.output, hb.size, fun i hi _ => hb.block i hi⟩ (by cases v.ownBlock <;> simp)
theorem own_base {w : World} {b b' n s : Nat} {e : TypeId} {v : Value} {xs : List Value} (h : w.ownsRow b' e s v n xs) (hb : b ≤ b') : w.ownsRow b e s v n xs := by
  refine ⟨h.1, ?_⟩
  rcases h.2 with h2 | ⟨g, cap, cur, hv, hg, rest⟩
  · exact .inl h2
  · exact .inr ⟨g, cap, cur, hv, Nat.le_trans hb hg, rest⟩
theorem OR.to {w w' : World} {b n : Nat} {v : Value} {rs : List (List Nat)} (h : OR w b v n rs) (hb : Below w.heap.size w w') : OR w' b v n rs := by
  obtain ⟨hl, xs, ho, hx⟩ := h
  refine ⟨hl, xs, own_to ho hb, fun i hi => ?_⟩
  obtain ⟨u, h1, h2, h3⟩ := hx i hi
  exact ⟨u, h1, own_to h2 hb, h3⟩
theorem take_snoc_ro {rs : List (List Nat)} {k : Nat} (h : k < rs.length) : rs.take (k + 1) = rs.take k ++ [ro rs k] := by
  rw [List.take_add_one, ro, List.getD_eq_getElem?_getD, List.getElem?_eq_getElem h]; rfl
set_option maxHeartbeats 2000000 in
set_option maxRecDepth 100000 in
theorem turn_any (A B : Option Addr) (n c f d : Nat) (rs : List (List Nat)) (xs : List Nat) (w : World) (hR : RAt w w.heap.size A n rs) (hX : BRow w w.heap.size B f xs) (hf : f ≤ 1000000) (hn : n ≤ 1000000) (hlen : ∀ i, i < n → (ro rs i).length ≤ 1000000) :
    Calls Try.prog 36 #[.slice A n c, .slice B f d] w fun e w' => ∃ v, e = .returned v ∧ OR w' w.heap.size v (min n 7 + 1) (trn xs rs) ∧ Below w.heap.size w w' := by
  obtain ⟨i0, hi0, hz0, hz1, hz2⟩ := info_parts info_rows
  have HO := Lib.hid (rown_any B f d xs w hX hf)
  have HXb := Lib.hid hX.2.1
  have HXl := Lib.hid hX.1
  have HRl := Lib.hid hR.1
  have HRb := Lib.hid (fun (W : World) (h : Below w.heap.size w W) => hR.to h)
  have HL := Lib.hid hlen
  clear hR hX hlen
  go_enter Try.func36, Try.ntmps36
  go_wp2_with fail
  refine HO.out.mono ?_
  rintro e w1 ⟨u, rfl, hown, hb1⟩
  have hs1 := hb1.size
  obtain ⟨A1, c1, rfl, _⟩ := brow_of_own HXl.out HXb.out hown
  have hb2 := hb1.alloc hs1 (.cells #[.slice A1 f c1] 24)
  have hOR : OR (w1.alloc (.cells #[.slice A1 f c1] 24)) w.heap.size (.slice (some ⟨w1.heap.size, 0, none⟩) 1 1) 1 (xs :: rs.take 0) :=
    ⟨rfl, [.slice A1 f c1], own_new w1 [.slice A1 f c1] 24 w.heap.size 1 hs1 rfl (by unfold maxLen; omega), fun i hi => by
      obtain rfl : i = 0 := by omega
      refine ⟨.slice A1 f c1, rfl, ?_, HXb.out⟩
      have e : ro (xs :: rs.take 0) 0 = xs := rfl
      rw [e, HXl.out]
      exact hown.alloc _⟩
  clear hown HO hs1 hb1
  go_wp2
  go_loopw [5, 13] (fun sv kv wr => ∃ k : Nat, kv = .int .i64 k ∧ k ≤ n ∧ OR wr w.heap.size sv (min k 7 + 1) (xs :: rs.take (min k 7)) ∧ Below w.heap.size w wr) (fun _ kv _ => n - (intOf kv).toNat)
  case atStart => exact ⟨0, rfl, Nat.zero_le _, hOR, hb2⟩
  case round =>
    clear hOR hb2
    obtain ⟨k, rfl, hk, hOR, hbr⟩ := hrel
    obtain ⟨A2, c2, rfl, hc2, hRA⟩ := hOR.ring
    by_cases hlt : k < n
    · have e1 : decide (k < n) = true := by simpa using hlt
      obtain ⟨ad, Ai, ci, rfl, _, hc, hrow, _⟩ := (HRb.out wr hbr).2 k hlt
      by_cases h7 : k < 7
      · have hmin : min k 7 = k := by omega
        have hmin2 : min (k + 1) 7 = k + 1 := by omega
        rw [hmin] at hOR ⊢
        have e2 : decide ((k : Int) + 1 < 8) = true := by simp; omega
        have HW := Lib.hid (rown_any Ai _ ci (ro rs k) wr hrow (HL.out k hlt))
        have HBk := Lib.hid hrow.2.1
        have HT := Lib.hid (take_snoc_ro (rs := rs) (k := k) (by rw [HRl.out]; exact hlt))
        have HM2 := Lib.hid hmin2
        have HORh := Lib.hid hOR
        clear hrow hmin hmin2 hRA hOR
        generalize hnk : (ro rs k).length = nk at hc HW
        have HNK := Lib.hid hnk
        clear hnk
        go_wp2_with fail
        refine HW.out.mono ?_
        rintro e w5 ⟨u, rfl, hown, hb5⟩
        obtain ⟨A3, c3, rfl, _⟩ := brow_of_own HNK.out HBk.out hown
        have hs := hbr.size
        have hb6 := hbr.trans (hb5.mono hs)
        have hs6 := hb6.size
        obtain ⟨hl5, ys, ho5, hx5⟩ := HORh.out.to hb5
        have hu5 := own_base hown hs
        have HX5 := Lib.hid hx5
        clear hx5 HW hown hbr hb5 hs HORh
        go_wp2_with (at_builtin; refine wpList_append_own _ rfl _ _ 49 rfl w.heap.size 24 i0 (.slice none 0 0) 1 24 Try.underlying49 hi0 hz0 hz1 hz2 rfl (by decide) _ _ _ rfl (ho5.alloc _) ⟨w5.heap.size, 0, none⟩ 1 1 [.slice A3 nk c3] rfl rfl (cell_one_new _ _ _) ?_ ?_ ?_ ?_ ?_)
        · intro z hz; simp at hz; subst hz; rfl
        · unfold maxLen; omega
        · omega
        · simp; omega
        intro v' w7 hown' hgrow _
        have hb7 := app_below hb6 ho5 hgrow
        have hOR7 := Lib.hid (OR.push (rs := xs :: rs.take k) (xs := ro rs k) hl5 ho5 HX5.out (by rw [HNK.out]; exact hu5) HBk.out hown' hgrow)
        clear hgrow hown' ho5 hu5 hb6 hl5 HX5
        go_wp2
        exact ⟨⟨k + 1, by go_num, by omega, by rw [HM2.out, HT.out]; exact hOR7.out, hb7⟩, by simp [intOf]; omega⟩
      · have hmin : min k 7 = 7 := by omega
        have hmin2 : min (k + 1) 7 = 7 := by omega
        rw [hmin] at hOR ⊢
        have HM2 := Lib.hid hmin2
        have HORh := Lib.hid hOR
        clear hrow hmin hmin2 hRA hOR
        generalize (ro rs k).length = nk at hc
        go_wp2
        exact ⟨⟨k + 1, by go_num, by omega, by rw [HM2.out]; exact HORh.out, hbr⟩, by simp [intOf]; omega⟩
    · have e1 : decide (k < n) = false := by simpa using hlt
      obtain rfl : k = n := by omega
      have HORh := Lib.hid (show OR wr w.heap.size (.slice A2 (min k 7 + 1) c2) (min k 7 + 1) (trn xs rs) by
        have e : rs.take (min k 7) = rs.take 7 := by
          rw [← HRl.out, ← List.take_take, List.take_of_length_le (l := rs.take 7) (by rw [List.length_take]; omega)]
        rw [e] at hOR
        exact hOR)
      clear hOR hRA
      go_wp2
      go_ret
      exact ⟨_, rfl, HORh.out, hbr⟩

set_option maxHeartbeats 2000000 in
set_option maxRecDepth 100000 in
theorem rturn_any (A B : Option Addr) (n c f d : Nat) (rs : List (List Nat)) (xs : List Nat) (w : World) (hR : RAt w w.heap.size A n rs) (hX : BRow w w.heap.size B f xs) (hfd : f ≤ d) (hn : n ≤ 1000000) :
    Calls Try.prog 37 #[.slice A n c, .slice B f d] w fun e w' => ∃ A' c', e = .returned (.slice A' (min n 7 + 1) c') ∧ RAt w' w'.heap.size A' (min n 7 + 1) (trn xs rs) ∧ Below w.heap.size w w' := by
  obtain ⟨i0, hi0, hz0, hz1, hz2⟩ := info_parts info_rows
  obtain ⟨V, hV, hVs⟩ := hR.vals
  have HRl := Lib.hid hR.1
  have HVs := Lib.hid hVs
  have HX := Lib.hid hX
  clear hR hX hVs
  go_enter Try.func37, Try.ntmps37
  go_wp2_with (at_builtin; refine wpList_append_own _ rfl _ _ 49 rfl w.heap.size 24 i0 (.slice none 0 0) 1 24 Try.underlying49 hi0 hz0 hz1 hz2 rfl (by decide) _ _ _ rfl ((World.ownsRow_nil _ _ _ _).alloc _) ⟨w.heap.size, 0, none⟩ 1 1 [.slice B f d] rfl rfl (cell_one_new _ _ _) ?_ ?_ ?_ ?_ ?_)
  · intro z hz; simp at hz; subst hz; rfl
  · unfold maxLen; omega
  · omega
  · simp
  intro v1 w1 hown1 hgrow1 _
  have hb1 : Below w.heap.size w w1 := app_below (Below.refl _ _) (World.ownsRow_nil w w.heap.size 24 1) hgrow1
  have hown2 : w1.ownsRow w.heap.size 24 1 v1 (0 + 1) (.slice B f d :: (List.range 0).map V) := by simpa using hown1
  clear hown1 hgrow1
  go_wp2
  go_loopw [5, 6] (fun sv kv wr => ∃ k : Nat, kv = .int .i64 k ∧ k ≤ n ∧ k ≤ 7 ∧ wr.ownsRow w.heap.size 24 1 sv (k + 1) (.slice B f d :: (List.range k).map V) ∧ Below w.heap.size w wr) (fun _ kv _ => n - (intOf kv).toNat)
  case atStart => exact ⟨0, rfl, Nat.zero_le _, Nat.zero_le _, hown2, hb1⟩
  case round =>
    clear hown2 hb1
    obtain ⟨k, rfl, hk, hk7, hown, hbr⟩ := hrel
    by_cases hlt : k < n
    · have e1 : decide (k < n) = true := by simpa using hlt
      by_cases h7 : k < 7
      · have e2 : decide ((k : Int) < 7) = true := by simp; omega
        have e2' : decide (k < 7) = true := by simp; omega
        obtain ⟨ad, rfl, _, hc⟩ := (hV.below hbr) k hlt
        obtain ⟨Ai, ci, hVk, _⟩ := HVs.out k hlt
        rw [hVk] at hc
        have HVk := Lib.hid hVk
        have hs := hbr.size
        clear hVk
        generalize (ro rs k).length = nk at hc HVk
        go_wp2_with (at_builtin; refine wpList_append_own _ rfl _ _ 49 rfl w.heap.size 24 i0 (.slice none 0 0) 1 24 Try.underlying49 hi0 hz0 hz1 hz2 rfl (by decide) _ _ _ rfl (hown.alloc _) ⟨wr.heap.size, 0, none⟩ 1 1 [.slice Ai nk ci] rfl rfl (cell_one_new _ _ _) ?_ ?_ ?_ ?_ ?_)
        · intro z hz; simp at hz; subst hz; rfl
        · unfold maxLen; omega
        · omega
        · simp; omega
        intro v' w7 hown' hgrow _
        have hb7 := app_below hbr hown hgrow
        have HO := Lib.hid (show w7.ownsRow w.heap.size 24 1 v' (k + 1 + 1) (.slice B f d :: (List.range (k + 1)).map V) by
          rw [List.range_succ, List.map_append, List.map_singleton, HVk.out]; exact hown')
        clear hgrow hown' hown hbr
        go_wp2
        exact ⟨⟨k + 1, by go_num, by omega, by omega, HO.out, hb7⟩, by simp [intOf]; omega⟩
      · have e2 : decide ((k : Int) < 7) = false := by simp; omega
        have e2' : decide (k < 7) = false := by simp; omega
        obtain rfl : k = 7 := by omega
        have hmin : min n 7 = 7 := by omega
        obtain ⟨A', c', rfl, _, hRA⟩ := RAt.of_own (rs := trn xs rs) hown (by rw [trn_len, HRl.out]; omega) (fun i hi => by
          rcases i with _ | i
          · have e : ro (trn xs rs) 0 = xs := rfl
            rw [e, HX.out.1]
            exact ⟨B, d, rfl, HX.out.to hbr, hfd⟩
          · obtain ⟨Ai, ci, h1, h2, h3⟩ := HVs.out i (by omega)
            have e : ro (trn xs rs) (i + 1) = ro rs i := by rw [trn, ro_cons, ro_take (by omega)]
            rw [e]
            exact ⟨Ai, ci, by rw [List.getElem?_cons_succ, List.getElem?_map, List.getElem?_range (by omega)]; exact congrArg some h1, h2.to hbr, h3⟩)
        have HRA := Lib.hid hRA
        have HM := Lib.hid hmin
        clear hRA hown hmin
        go_wp2
        go_ret
        exact ⟨A', c', by rw [HM.out] <;> rfl, by rw [HM.out]; exact HRA.out, hbr⟩
    · have e1 : decide (k < n) = false := by simpa using hlt
      obtain rfl : k = n := by omega
      have hmin : min k 7 = k := by omega
      obtain ⟨A', c', rfl, _, hRA⟩ := RAt.of_own (rs := trn xs rs) hown (by rw [trn_len, HRl.out]; omega) (fun i hi => by
        rcases i with _ | i
        · have e : ro (trn xs rs) 0 = xs := rfl
          rw [e, HX.out.1]
          exact ⟨B, d, rfl, HX.out.to hbr, hfd⟩
        · obtain ⟨Ai, ci, h1, h2, h3⟩ := HVs.out i (by omega)
          have e : ro (trn xs rs) (i + 1) = ro rs i := by rw [trn, ro_cons, ro_take (by omega)]
          rw [e]
          exact ⟨Ai, ci, by rw [List.getElem?_cons_succ, List.getElem?_map, List.getElem?_range (by omega)]; exact congrArg some h1, h2.to hbr, h3⟩)
      have HRA := Lib.hid hRA
      have HM := Lib.hid hmin
      clear hRA hown hmin
      go_wp2
      go_ret
      exact ⟨A', c', by rw [HM.out] <;> rfl, by rw [HM.out]; exact HRA.out, hbr⟩
end Go.Proofs.Ytblpekeikmblmaa.BitsW
