/- The walks of the laws of layer 6, first part: the awakening, BitsPacks, BitsSets. Conditions: rows are read rightly. -/
import Derived.Test.YtblpekeikmblmaaBits2
namespace Go.Proofs.Ytblpekeikmblmaa.BitsW
open Go.RowKit
open Go.Proofs.Ytblpekeikmblmaa.Words Go.Proofs.Ytblpekeikmblmaa.Bit

theorem brow8 (w : World) : BRow (w.alloc (.cells #[.int .u8 8] 5)) (w.alloc (.cells #[.int .u8 8] 5)).heap.size (some ⟨w.heap.size, 0, none⟩) 1 [8] :=
  ⟨rfl, fun b hb => by simp at hb; omega, fun j hj => ⟨_, rfl, by simp, by
    rw [add0, World.cell?_alloc_at _ _ _ _ rfl]
    obtain rfl : j = 0 := by omega
    rfl⟩⟩
theorem pack_three (w : World) : Calls Try.prog 15 #[.slice (some ⟨w.heap.size, 0, none⟩) 3 3] (w.alloc (.cells #[.bool true, .bool false, .bool true] 4)) fun e w' =>
    ∃ g, e = .returned (.tuple #[.slice (some ⟨g, 0, none⟩) 1 1, .int .i64 0]) ∧ w'.cell? ⟨g, 0, none⟩ = some (.int .u8 5) ∧ Below w.heap.size w w' := by
  refine (pack_any _ 3 3 [true, false, true] _ (lrow3 w) (by omega)).mono ?_
  rintro e w' ⟨g, rfl, _, hrow, hb⟩
  obtain ⟨ad, ha, _, hc⟩ := hrow.2.2 0 (by omega)
  injection ha with ha
  subst ha
  rw [add0] at hc
  exact ⟨g, rfl, hc, ((Below.refl _ _).alloc (Nat.le_refl _) _).trans (hb.mono (by simp))⟩
theorem check_eight (w : World) : Calls Try.prog 24 #[.slice (some ⟨w.heap.size, 0, none⟩) 1 1, .int .i64 3] (w.alloc (.cells #[.int .u8 8] 5)) fun e w' =>
    e = .returned (.int .i64 60) ∧ w.alloc (.cells #[.int .u8 8] 5) = w' :=
  check_bad _ 1 1 _ 3 [8] _ (brow8 w) (fun h => by have := h.2.2.2 3 (by omega); revert this; decide) (by omega)

theorem awake6 (w : World) : Calls Try.prog 14 #[] w fun e w' => e = .returned (.bool true) ∧ Below w.heap.size w w' := by
  go_enter Try.func14, Try.ntmps14
  go_wp2_with fail
  refine (pack_three _).mono ?_
  rintro e w1 ⟨g, rfl, hc, hb⟩
  go_wp2_with fail
  refine (check_eight _).mono ?_
  rintro e w2 ⟨rfl, rfl⟩
  go_wp2
  go_ret
  exact ⟨rfl, hb.alloc hb.size _⟩

theorem packs_law (A : Option Addr) (n c : Nat) (l : List Bool) (w : World) (h : LRow w w.heap.size A n l) (hn : n ≤ 9223372036854775807) :
    Calls Try.prog 3 #[.slice A n c] w fun e w' => e = .returned (.bool true) ∧ Below w.heap.size w w' := by
  by_cases h1 : 1000 < n
  · have d1 : decide ((1000 : Int) < n) = true := by simp; omega
    clear h
    go_enter Try.func3, Try.ntmps3
    go_wp2_with fail
    refine (awake6 _).mono ?_
    rintro e w1 ⟨rfl, hb⟩
    go_wp2
    go_ret
    exact ⟨rfl, hb⟩
  have d1 : decide ((1000 : Int) < n) = false := by simp; omega
  by_cases h2 : 256 < n
  · have d2 : decide ((256 : Int) < n) = true := by simp; omega
    clear h
    go_enter Try.func3, Try.ntmps3
    go_wp2_with fail
    refine (awake6 _).mono ?_
    rintro e w1 ⟨rfl, hb⟩
    go_wp2_with fail
    refine (pack_big A n c _ h2).mono ?_
    rintro e w2 ⟨rfl, rfl⟩
    go_wp2
    go_ret
    exact ⟨rfl, hb⟩
  have d2 : decide ((256 : Int) < n) = false := by simp; omega
  have h256 : n ≤ 256 := by omega
  go_enter Try.func3, Try.ntmps3
  go_wp2_with fail
  refine (awake6 _).mono ?_
  rintro e w1 ⟨rfl, hb⟩
  have hl1 := h.to hb
  go_wp2_with fail
  refine (pack_any A n c l _ hl1 h256).mono ?_
  rintro e w2 ⟨g, rfl, _, hrow2, hb2⟩
  have hl2 := hl1.to hb2
  go_wp2_with fail
  refine (rpack_any A n c l _ hl2 (by omega)).mono ?_
  rintro e w3 ⟨g', rfl, _, hrow3, hb3⟩
  have hrow23 := hrow2.to hb3
  have hbb := hb.trans ((hb2.trans (hb3.mono hb2.size)).mono hb.size)
  clear h hl1 hl2 hb hb2 hb3 hrow2
  go_wp2_with fail
  refine (same_yes _ _ _ _ _ _ (pks l) _ hrow23 hrow3 (by omega)).mono ?_
  rintro e w4 ⟨rfl, q, rfl⟩
  go_wp2_with fail
  refine (size_any n (by omega) _).mono ?_
  rintro e w5 ⟨rfl, rfl⟩
  go_wp2
  go_ret
  exact ⟨by simp, below_drewN hbb q⟩
end Go.Proofs.Ytblpekeikmblmaa.BitsW
