/- The walks of the supply, fifth part: Holds. Conditions: lists are read rightly and are not too long. -/
import Derived.Test.YtdjeedmiicagcaaSup4
namespace Go.Proofs.Ytdjeedmiicagcaa.SupplyW
open Go.RowKit
open Go.Proofs.Ytdjeedmiicagcaa.Words Go.Proofs.Ytdjeedmiicagcaa.Agg Go.Proofs.Ytdjeedmiicagcaa.NatW Go.Proofs.Ytdjeedmiicagcaa.PurseW Go.Proofs.Ytdjeedmiicagcaa.PoolW

theorem info_state : (Try.prog.info? 63).map (·.size) = some 41 := by kernel_rfl
/-- a sum, whole -/
def sumn (us : List Nat) : Nat := sm us us.length
/-- all money of a state -/
def St.tot (s : St) : Nat := sumn (s.ms.map Mem.bal) + sumn s.us + sumn (ams s.ds []) + sumn (ams [] s.es) + s.trs
def holdsB (s : St) : Bool := decide (s.most ≤ 4611686018427387904 ∧ s.gen + s.mnt ≤ s.most ∧ s.tot + s.brn = s.gen + s.mnt)
theorem sumr_ok {us : List Nat} {r : Nat × Int} (h : sumr us r) : (r.2 = 0 ∧ r.1 = sumn us ∧ sumn us < 18446744073709551616) ∨ (r.2 = 10 ∧ r.1 = 0 ∧ 18446744073709551616 ≤ sumn us) := by
  unfold sumr at h
  unfold sumn
  split at h
  · subst h; exact .inl ⟨rfl, rfl, by omega⟩
  · subst h; exact .inr ⟨rfl, rfl, by omega⟩
theorem sumr_ex (us : List Nat) : ∃ r, sumr us r := ⟨_, rfl⟩
theorem sumn2 (a b : Nat) : sumn [a, b] = a + b := by simp [sumn, sm, un]
theorem sumn3 (a b c : Nat) : sumn [a, b, c] = a + b + c := by simp [sumn, sm, un]
theorem sumn5 (a b c d t : Nat) : sumn [a, b, c, d, t] = a + b + c + d + t := by simp [sumn, sm, un]
theorem wd2 {a b : Nat} (ha : a < 18446744073709551616) (hb : b < 18446744073709551616) : Wd [a, b] := fun x hx => by
  simp at hx; rcases hx with rfl | rfl <;> omega
theorem wd3 {a b c : Nat} (ha : a < 18446744073709551616) (hb : b < 18446744073709551616) (hc : c < 18446744073709551616) : Wd [a, b, c] := fun x hx => by
  simp at hx; rcases hx with rfl | rfl | rfl <;> omega
theorem wd5 {a b c d t : Nat} (ha : a < 18446744073709551616) (hb : b < 18446744073709551616) (hc : c < 18446744073709551616) (hd : d < 18446744073709551616) (ht : t < 18446744073709551616) : Wd [a, b, c, d, t] := fun x hx => by
  simp at hx; rcases hx with rfl | rfl | rfl | rfl | rfl <;> omega
/-- within of two that were made on the spot -/
theorem within2 (most a b : Nat) (w : World) (ha : a < 18446744073709551616) (hb : b < 18446744073709551616) (hm : most < 18446744073709551616) (x : Bool) (hx : x = decide (a + b ≤ most)) :
    Calls Try.prog 70 #[.int .u64 most, .slice (some ⟨w.heap.size, 0, none⟩) 2 2] (w.alloc (.cells #[.int .u64 a, .int .u64 b] 22)) fun e w' => e = .returned (.bool x) ∧ w.alloc (.cells #[.int .u64 a, .int .u64 b] 22) = w' := by
  obtain ⟨r, hr⟩ := sumr_ex [a, b]
  refine within_any _ 2 2 (w.heap.size + 1) most [a, b] _ (urow_lit w [a, b] (wd2 ha hb) _ rfl 2 rfl _ _ _ rfl (by omega)) (by omega) r hr x ?_
  rw [hx]
  rcases sumr_ok hr with ⟨h1, h2, h3⟩ | ⟨h1, h2, h3⟩
  · rw [h1, h2, sumn2]; simp
  · rw [h1]; rw [sumn2] at h3; simp; omega
theorem within3 (most a b c : Nat) (w : World) (ha : a < 18446744073709551616) (hb : b < 18446744073709551616) (hc : c < 18446744073709551616) (hm : most < 18446744073709551616) (x : Bool) (hx : x = decide (a + b + c ≤ most)) :
    Calls Try.prog 70 #[.int .u64 most, .slice (some ⟨w.heap.size, 0, none⟩) 3 3] (w.alloc (.cells #[.int .u64 a, .int .u64 b, .int .u64 c] 22)) fun e w' => e = .returned (.bool x) ∧ w.alloc (.cells #[.int .u64 a, .int .u64 b, .int .u64 c] 22) = w' := by
  obtain ⟨r, hr⟩ := sumr_ex [a, b, c]
  refine within_any _ 3 3 (w.heap.size + 1) most [a, b, c] _ (urow_lit w [a, b, c] (wd3 ha hb hc) _ rfl 3 rfl _ _ _ rfl (by omega)) (by omega) r hr x ?_
  rw [hx]
  rcases sumr_ok hr with ⟨h1, h2, h3⟩ | ⟨h1, h2, h3⟩
  · rw [h1, h2, sumn3]; simp
  · rw [h1]; rw [sumn3] at h3; simp; omega
theorem good2 (f g : Int) (w : World) (x : Bool) (hx : x = decide (f = 0 ∧ g = 0)) :
    Calls Try.prog 69 #[.slice (some ⟨w.heap.size, 0, none⟩) 2 2] (w.alloc (.cells #[.int .i64 f, .int .i64 g] 35)) fun e w' => e = .returned (.bool x) ∧ w.alloc (.cells #[.int .i64 f, .int .i64 g] 35) = w' :=
  good_any _ 2 2 (w.heap.size + 1) [f, g] _ rfl (rd_lit w [f, g] _ rfl 2 rfl _ _ _ rfl (by omega)) (by omega) x (by rw [hx]; simp)
set_option maxHeartbeats 600000 in
set_option maxRecDepth 100000 in
theorem holds_any (s : St) (hs : s.Ok) (w : World) (h : s.At w w.heap.size) (hf : s.Few) (x : Bool) (hx : x = holdsB s) :
    Calls Try.prog 38 #[.agg s.cs] w fun e w' => e = .returned (.bool x) ∧ Below w.heap.size w w' := by
  obtain ⟨a, ha⟩ := sumr_ex (s.ms.map Mem.bal)
  obtain ⟨b, hb⟩ := sumr_ex s.us
  obtain ⟨c, hc⟩ := sumr_ex (ams s.ds [])
  obtain ⟨d, hd⟩ := sumr_ex (ams [] s.es)
  have hbW : Below w.heap.size w (w.alloc (.cells s.cs 63)) := (Below.refl _ _).alloc (Nat.le_refl _) _
  have hB1 : Blk (w.alloc (.cells s.cs 63)) w.heap.size 63 s.cs := Blk.new w _ _ _ rfl
  obtain ⟨W0, hW0⟩ : ∃ W0, w.alloc (.cells s.cs 63) = W0 := ⟨_, rfl⟩
  rw [hW0] at hbW hB1
  have HW0 := Lib.hid hW0
  have HA := Lib.hid (h.to hbW)
  have hsz : w.heap.size < W0.heap.size := by rw [← hW0]; simp
  clear hW0 h
  have i41 : (Try.prog.info? 63).map (·.size) = some s.cs.size := by rw [hs.size]; exact info_state
  have HI := Lib.hid i41
  clear i41
  have hT := Lib.hid (show s.tot = sumn (s.ms.map Mem.bal) + sumn s.us + sumn (ams s.ds []) + sumn (ams [] s.es) + s.trs from rfl)
  have c1 := hs.c24
  have c2 := hs.c25
  have c3 := hs.c26
  have l1 := hs.most
  have l2 := hs.gen
  have l3 := hs.mnt
  have l4 := hs.brn
  have l5 := hs.trs
  by_cases hz : a.2 = 0 ∧ b.2 = 0 ∧ c.2 = 0 ∧ d.2 = 0
  · have HP := Lib.hid (parts_any s hs W0 HA.out hf a b c d ⟨ha, hb, hc, hd⟩ true (by simpa using hz))
    obtain ⟨z1, z2, z3, z4⟩ := hz
    have hA : a.1 = sumn (s.ms.map Mem.bal) ∧ a.1 < 18446744073709551616 := by rcases sumr_ok ha with ⟨h1, h2, h3⟩ | ⟨h1, h2, h3⟩ <;> omega
    have hB : b.1 = sumn s.us ∧ b.1 < 18446744073709551616 := by rcases sumr_ok hb with ⟨h1, h2, h3⟩ | ⟨h1, h2, h3⟩ <;> omega
    have hC : c.1 = sumn (ams s.ds []) ∧ c.1 < 18446744073709551616 := by rcases sumr_ok hc with ⟨h1, h2, h3⟩ | ⟨h1, h2, h3⟩ <;> omega
    have hD : d.1 = sumn (ams [] s.es) ∧ d.1 < 18446744073709551616 := by rcases sumr_ok hd with ⟨h1, h2, h3⟩ | ⟨h1, h2, h3⟩ <;> omega
    obtain ⟨a1, a2⟩ := a
    obtain ⟨b1, b2⟩ := b
    obtain ⟨k1, k2⟩ := c
    obtain ⟨d1, d2⟩ := d
    simp only at hA hB hC hD z1 z2 z3 z4
    have hTot : s.tot = a1 + b1 + k1 + d1 + s.trs := by have := hT.out; omega
    have HTot := Lib.hid hTot
    obtain ⟨r, hr⟩ := sumr_ex [a1, b1, k1, d1, s.trs]
    have HS5 := Lib.hid (total_any a1 b1 k1 d1 s.trs (wd5 hA.2 hB.2 hC.2 hD.2 l5) r hr)
    have hr5 := sumr_ok hr
    rw [sumn5] at hr5
    have HR5 := Lib.hid hr5
    clear ha hb hc hd z1 z2 z3 z4 hA hB hC hD hr hr5 hTot hT
    have hhb := Lib.hid hx
    unfold holdsB at hx
    by_cases hm : s.most ≤ 4611686018427387904
    · have m1 : decide (4611686018427387904 < (s.most : Int)) = false := by simp; omega
      by_cases hgm : s.gen + s.mnt ≤ s.most
      · have HWi := Lib.hid (fun W => within2 s.most s.gen s.mnt W l2 l3 l1 true (by simp; omega))
        have HXX := Lib.hid hx
        clear hx
        go_enter Try.func38, Try.ntmps38
        go_wp2_with (refine wpList_load_blk rfl 63 (.tmp 1) rfl w.heap.size rfl 63 s.cs _ (Blk.new w _ _ _ rfl) Try.underlying63 rfl HI.out ?_)
        rw [HW0.out]
        refine HP.out.mono ?_
        rintro e w1 ⟨rfl, hb1⟩
        go_wp2_with (refine wpList_store_blk rfl 69 (.tmp 3) (.tmp 13) rfl w1.heap.size (shc a1 b1 k1 d1 s.trs) rfl rfl 69 _ (Blk.new w1 _ _ _ rfl) info_sheet rfl (one_shc ..) ?_)
        intro w2 hB2 hbel hkeep _
        have hb02 := hbel w.heap.size w (by have := hb1.size; omega) ((hbW.trans (hb1.mono hbW.size)).alloc (by have := hb1.size; omega) _)
        have hBs := hkeep _ _ _ (by have := hb1.size; omega) ((hB1.to hb1).alloc _)
        have q1 := hBs.cell c1
        have q2 := hBs.cell c2
        have q3 := hBs.cell c3
        clear HW0 hb1 hB1 hbel hkeep
        go_wp2_with fail
        refine (HWi.out w2).mono ?_
        rintro e w' ⟨rfl, rfl⟩
        have hb03 := hb02.alloc hb02.size (.cells #[.int .u64 s.gen, .int .u64 s.mnt] 22)
        have hBs3 := hBs.alloc (.cells #[.int .u64 s.gen, .int .u64 s.mnt] 22)
        have hB23 := hB2.alloc (.cells #[.int .u64 s.gen, .int .u64 s.mnt] 22)
        obtain ⟨W3, hW3⟩ : ∃ W3, w2.alloc (.cells #[.int .u64 s.gen, .int .u64 s.mnt] 22) = W3 := ⟨_, rfl⟩
        rw [hW3] at hb03 hBs3 hB23
        have HW3 := Lib.hid hW3
        clear hW3 q1 q2 q3 hBs hB2 hb02 HWi HP
        go_wp2_with (refine wpList_load_blk rfl 69 (.tmp 3) rfl w1.heap.size rfl 69 (shc a1 b1 k1 d1 s.trs) _ (by rw [HW3.out]; exact hB23) Try.underlying69 rfl info_sheet ?_)
        rw [HW3.out]
        refine (HS5.out W3).mono ?_
        rintro e w4 ⟨rfl, hb4⟩
        have hb04 := hb03.trans (hb4.mono hb03.size)
        have hBs4 := hBs3.to hb4
        have q2 := hBs4.cell c2
        have q3 := hBs4.cell c3
        have q4 := hBs4.cell hs.c27
        obtain ⟨r1, r2⟩ := r
        have HGM := Lib.hid hgm
        have HM := Lib.hid hm
        have HX : Hid (x = decide (s.tot + s.brn = s.gen + s.mnt)) := Lib.hid (by
          rw [HXX.out, decide_eq_decide]
          have := HM.out
          have := HGM.out
          omega)
        clear hBs3 hB23 hb03 HS5 HXX hgm
        rcases HR5.out with ⟨h1, h2, h3⟩ | ⟨h1, h2, h3⟩
        · have H2 := Lib.hid h2
          have h4 : r1 < 18446744073709551616 := by simp only at h2; omega
          obtain rfl : r2 = 0 := h1
          clear h2 h3 HR5
          by_cases ho : r1 + s.brn < 18446744073709551616
          · obtain ⟨o1, ho1⟩ : ∃ o, o = r1 + s.brn := ⟨_, rfl⟩
            obtain ⟨g1, hg1⟩ : ∃ g, g = s.gen + s.mnt := ⟨_, rfl⟩
            have HA1 := Lib.hid (madd_ok r1 s.brn o1 ho1 (by omega) w4)
            have HA2 := Lib.hid (madd_ok s.gen s.mnt g1 hg1 (by have := HGM.out; omega) w4)
            have HO := Lib.hid ho1
            have HG := Lib.hid hg1
            have HXx : Hid (x = decide (o1 = g1)) := Lib.hid (by
              rw [HX.out, decide_eq_decide, HTot.out, HO.out, HG.out, show r1 = a1 + b1 + k1 + d1 + s.trs from H2.out])
            clear ho ho1 hg1
            go_wp2_with fail
            refine HA1.out.mono ?_
            rintro e w' ⟨rfl, rfl⟩
            go_wp2_with fail
            refine HA2.out.mono ?_
            rintro e w' ⟨rfl, rfl⟩
            have hb05 := hb04.alloc hb04.size (.cells #[.int .i64 0, .int .i64 0] 35)
            clear HA1 HA2
            go_wp2_with fail
            refine (good2 0 0 w4 true (by simp)).mono ?_
            rintro e w' ⟨rfl, rfl⟩
            by_cases he : o1 = g1
            · obtain rfl : x = true := by rw [HXx.out]; simp [he]
              have t1 : ((o1 : Int) == (g1 : Int)) = true := by simp; omega
              clear he HXx HX
              go_wp2
              go_ret
              exact ⟨rfl, hb05⟩
            · obtain rfl : x = false := by rw [HXx.out]; simp [he]
              have t1 : ((o1 : Int) == (g1 : Int)) = false := by rw [beq_eq_false_iff_ne]; omega
              clear he HXx HX
              go_wp2
              go_ret
              exact ⟨rfl, hb05⟩
          · obtain ⟨g1, hg1⟩ : ∃ g, g = s.gen + s.mnt := ⟨_, rfl⟩
            have HA1 := Lib.hid (madd_bad r1 s.brn h4 l4 (by omega) w4)
            have HA2 := Lib.hid (madd_ok s.gen s.mnt g1 hg1 (by have := HGM.out; omega) w4)
            obtain rfl : x = false := by
              rw [HX.out, decide_eq_false_iff_not, HTot.out]
              have := HGM.out
              have := show r1 = a1 + b1 + k1 + d1 + s.trs from H2.out
              omega
            clear ho hg1
            go_wp2_with fail
            refine HA1.out.mono ?_
            rintro e w' ⟨rfl, rfl⟩
            go_wp2_with fail
            refine HA2.out.mono ?_
            rintro e w' ⟨rfl, rfl⟩
            have hb05 := hb04.alloc hb04.size (.cells #[.int .i64 10, .int .i64 0] 35)
            clear HA1 HA2
            go_wp2_with fail
            refine (good2 10 0 w4 false (by simp)).mono ?_
            rintro e w' ⟨rfl, rfl⟩
            go_wp2
            go_ret
            exact ⟨rfl, hb05⟩
        · obtain rfl : r2 = 10 := h1
          obtain rfl : x = false := by
            rw [HX.out, decide_eq_false_iff_not, HTot.out]
            have := HGM.out
            omega
          clear h2 h3 HR5
          go_wp2
          go_ret
          exact ⟨rfl, hb04⟩
      · have HWi := Lib.hid (fun W => within2 s.most s.gen s.mnt W l2 l3 l1 false (by simp; omega))
        obtain rfl : x = false := by rw [hx]; simp; omega
        clear hx hgm
        go_enter Try.func38, Try.ntmps38
        go_wp2_with (refine wpList_load_blk rfl 63 (.tmp 1) rfl w.heap.size rfl 63 s.cs _ (Blk.new w _ _ _ rfl) Try.underlying63 rfl HI.out ?_)
        rw [HW0.out]
        refine HP.out.mono ?_
        rintro e w1 ⟨rfl, hb1⟩
        go_wp2_with (refine wpList_store_blk rfl 69 (.tmp 3) (.tmp 13) rfl w1.heap.size (shc a1 b1 k1 d1 s.trs) rfl rfl 69 _ (Blk.new w1 _ _ _ rfl) info_sheet rfl (one_shc ..) ?_)
        intro w2 hB2 hbel hkeep _
        have hb02 := hbel w.heap.size w (by have := hb1.size; omega) ((hbW.trans (hb1.mono hbW.size)).alloc (by have := hb1.size; omega) _)
        have hBs := hkeep _ _ _ (by have := hb1.size; omega) ((hB1.to hb1).alloc _)
        have q1 := hBs.cell c1
        have q2 := hBs.cell c2
        have q3 := hBs.cell c3
        clear HW0 hb1 hB1 hbel hkeep
        go_wp2_with fail
        refine (HWi.out w2).mono ?_
        rintro e w' ⟨rfl, rfl⟩
        have hb03 := hb02.alloc hb02.size (.cells #[.int .u64 s.gen, .int .u64 s.mnt] 22)
        go_wp2
        go_ret
        exact ⟨rfl, hb03⟩
    · have m1 : decide (4611686018427387904 < (s.most : Int)) = true := by simp; omega
      obtain rfl : x = false := by rw [hx]; simp [hm]
      clear hx hm
      go_enter Try.func38, Try.ntmps38
      go_wp2_with (refine wpList_load_blk rfl 63 (.tmp 1) rfl w.heap.size rfl 63 s.cs _ (Blk.new w _ _ _ rfl) Try.underlying63 rfl HI.out ?_)
      rw [HW0.out]
      refine HP.out.mono ?_
      rintro e w1 ⟨rfl, hb1⟩
      go_wp2_with (refine wpList_store_blk rfl 69 (.tmp 3) (.tmp 13) rfl w1.heap.size (shc a1 b1 k1 d1 s.trs) rfl rfl 69 _ (Blk.new w1 _ _ _ rfl) info_sheet rfl (one_shc ..) ?_)
      intro w2 hB2 hbel hkeep _
      have hb02 := hbel w.heap.size w (by have := hb1.size; omega) ((hbW.trans (hb1.mono hbW.size)).alloc (by have := hb1.size; omega) _)
      have hBs := hkeep _ _ _ (by have := hb1.size; omega) ((hB1.to hb1).alloc _)
      have q1 := hBs.cell c1
      clear HW0 hb1 hB1 hbel hkeep
      go_wp2
      go_ret
      exact ⟨rfl, hb02⟩
  · have HP := Lib.hid (parts_any s hs W0 HA.out hf a b c d ⟨ha, hb, hc, hd⟩ false (by simpa using hz))
    have hbig : 18446744073709551616 ≤ s.tot := by
      rw [hT.out]
      rcases sumr_ok ha with ⟨h1, h2, h3⟩ | ⟨h1, h2, h3⟩
      · rcases sumr_ok hb with ⟨h4, h5, h6⟩ | ⟨h4, h5, h6⟩
        · rcases sumr_ok hc with ⟨h7, h8, h9⟩ | ⟨h7, h8, h9⟩
          · rcases sumr_ok hd with ⟨h10, h11, h12⟩ | ⟨h10, h11, h12⟩
            · exact absurd ⟨h1, h4, h7, h10⟩ hz
            · omega
          · omega
        · omega
      · omega
    obtain rfl : x = false := by
      rw [hx]; unfold holdsB
      rw [decide_eq_false_iff_not]
      omega
    clear hz hT hx hbig
    go_enter Try.func38, Try.ntmps38
    go_wp2_with (refine wpList_load_blk rfl 63 (.tmp 1) rfl w.heap.size rfl 63 s.cs _ (Blk.new w _ _ _ rfl) Try.underlying63 rfl HI.out ?_)
    rw [HW0.out]
    refine HP.out.mono ?_
    rintro e w1 ⟨rfl, hb1⟩
    go_wp2_with (refine wpList_store_blk rfl 69 (.tmp 3) (.tmp 13) rfl w1.heap.size (shc 0 0 0 0 0) rfl rfl 69 _ (Blk.new w1 _ _ _ rfl) info_sheet rfl (one_shc ..) ?_)
    intro w2 hB2 hbel _ _
    have hb02 := hbel w.heap.size w (by have := hb1.size; omega) ((hbW.trans (hb1.mono hbW.size)).alloc (by have := hb1.size; omega) _)
    clear HW0 hb1 hB1 hbel
    go_wp2
    go_ret
    exact ⟨rfl, hb02⟩
end Go.Proofs.Ytdjeedmiicagcaa.SupplyW
