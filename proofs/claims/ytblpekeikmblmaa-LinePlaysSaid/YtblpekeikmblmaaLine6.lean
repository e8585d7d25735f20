/- The walks of the line, sixth part: the awakening, LineNone. No conditions. -/
import Derived.Test.YtblpekeikmblmaaLine5
namespace Go.Proofs.Ytblpekeikmblmaa.LineW
open Go.RowKit
open Go.Proofs.Ytblpekeikmblmaa.Words

theorem lit_below (w : World) (o : Obj) : Below w.heap.size w (w.alloc o) := (Below.refl _ _).alloc (Nat.le_refl _) _
theorem LineAt.to {w w' : World} {p : Nat} {v : Value} {zs : List Int} (h : LineAt w p v zs) (hb : Below w.heap.size w w') : LineAt w' p v zs :=
  ⟨Nat.lt_of_lt_of_le h.lt hb.size, (hb.cell (p := ⟨p, 0, none⟩) h.lt).trans h.cell, (hb.frozen (p := ⟨p, 0, none⟩) h.lt).trans h.fz,
    h.own.kept (row := none) ⟨hb.os, hb.tape, hb.output, hb.size, fun i hi _ => hb.block i hi⟩ (by cases v.ownBlock <;> simp)⟩
theorem LineAt.below {w w' : World} {p B : Nat} {v : Value} {zs : List Int} (h : LineAt w p v zs) (hK : Keeps w w' p v.ownBlock) (hB : B ≤ p) : Below B w w' :=
  hK.below (by have := h.lt; omega) hB (fun k hk => by have := (h.own.lt k hk).1; omega)
theorem lit2i (w : World) (a b : Int) : Rd (w.alloc (.cells #[.int .i64 a, .int .i64 b] 3)) (w.alloc (.cells #[.int .i64 a, .int .i64 b] 3)).heap.size (some ⟨w.heap.size, 0, none⟩) 2 (fun j => .int .i64 (([a, b] : List Int).getD j 0)) :=
  fun j hj => ⟨_, rfl, by simp, by
    rw [add0, World.cell?_alloc_at _ _ _ _ rfl]
    rcases (show j = 0 ∨ j = 1 by omega) with rfl | rfl <;> rfl⟩
theorem lit3i (w : World) (a b c : Int) : Rd (w.alloc (.cells #[.int .i64 a, .int .i64 b, .int .i64 c] 3)) (w.alloc (.cells #[.int .i64 a, .int .i64 b, .int .i64 c] 3)).heap.size (some ⟨w.heap.size, 0, none⟩) 3 (fun j => .int .i64 (([a, b, c] : List Int).getD j 0)) :=
  fun j hj => ⟨_, rfl, by simp, by
    rw [add0, World.cell?_alloc_at _ _ _ _ rfl]
    rcases (show j = 0 ∨ j = 1 ∨ j = 2 by omega) with rfl | rfl | rfl <;> rfl⟩
theorem new_lit (w : World) : Calls Try.prog 42 #[.slice (some ⟨w.heap.size, 0, none⟩) 3 3] (w.alloc (.cells #[.int .i64 4, .int .i64 7, .int .i64 9] 3)) fun e w' =>
    e = .returned (.tuple #[.pointer (some ⟨w.heap.size + 1, 0, none⟩), .int .i64 0]) ∧ ∃ v, LineAt w' (w.heap.size + 1) v [4, 7, 9] ∧ Below w.heap.size w w' := by
  have h := new_ok (some ⟨w.heap.size, 0, none⟩) 3 3 [4, 7, 9] _ rfl (lit3i w 4 7 9) (by omega)
    (fun j hj => by rcases (show j = 0 ∨ j = 1 ∨ j = 2 by omega) with rfl | rfl | rfl <;> simp)
    (fun k hk j hj => by rcases (show (k = 1 ∧ j = 0) ∨ (k = 2 ∧ j = 0) ∨ (k = 2 ∧ j = 1) by omega) with ⟨rfl, rfl⟩ | ⟨rfl, rfl⟩ | ⟨rfl, rfl⟩ <;> simp)
  have hs : (w.alloc (.cells #[.int .i64 4, .int .i64 7, .int .i64 9] 3)).heap.size = w.heap.size + 1 := by simp
  refine Calls.mono h ?_
  rintro e w' ⟨he, v, hL, hb⟩
  rw [hs] at he hL hb
  exact ⟨he, v, hL, (lit_below w _).trans (hb.mono (by omega))⟩
set_option maxRecDepth 100000 in
theorem awake_any (w : World) : Calls Try.prog 41 #[] w fun e w' => e = .returned (.bool true) ∧ Below w.heap.size w w' := by
  go_enter Try.func41, Try.ntmps41
  go_wp2_with fail
  refine (new_lit w).mono ?_
  rintro e w1 ⟨rfl, v1, hL1, hb1⟩
  go_wp2_with fail
  refine (pop_any 2 2 (by decide) hL1 (by simp)).mono ?_
  rintro e w2 ⟨o, rfl, v2, ho, hL2, hK2, _⟩
  have bb2 := hb1.trans (hL1.below hK2 (B := w.heap.size) (by omega))
  have hL2' : LineAt w2 (w.heap.size + 1) v2 [9] := hL2
  obtain ⟨B, d, rfl, _, _, _, hrd⟩ := Rd.own ho (f := fun j => .int .i64 (([4, 7] : List Int).getD j 0)) (fun j hj => zs_at (zs := [4, 7]) hj)
  clear hL1 hK2 hb1 hL2 ho
  go_wp2_with fail
  refine (same_ints B _ 2 d 2 _ (fun j => ([4, 7] : List Int).getD j 0) _ (hrd.to (lit_below w2 _)) (lit2i w2 4 7) (by omega)).mono ?_
  rintro e w3 ⟨rfl, q, rfl⟩
  have hL3 := (hL2'.to (lit_below w2 (.cells #[.int .i64 4, .int .i64 7] 3))).drewN q
  have bb3 := below_drewN (bb2.alloc bb2.size (.cells #[.int .i64 4, .int .i64 7] 3)) q
  clear hL2' bb2 hrd
  generalize (w2.alloc (.cells #[.int .i64 4, .int .i64 7] 3)).drewN q = w3 at hL3 bb3 ⊢
  go_wp2_with fail
  refine (drop_yes 9 0 (by decide) rfl hL3 (by simp)).mono ?_
  rintro e w4 ⟨rfl, v4, hL4, hK4, _⟩
  have bb4 := bb3.trans ((hL3.below hK4 (B := w.heap.size) (by omega)))
  have hL4' : LineAt w4 (w.heap.size + 1) v4 [] := hL4
  clear hL3 bb3 hK4 hL4
  go_wp2_with fail
  refine (push_ok 9 hL4' (by omega) (by decide) (by simp)).mono ?_
  rintro e w5 ⟨rfl, v5, hL5, hK5⟩
  have bb5 := bb4.trans ((hL4'.below hK5 (B := w.heap.size) (by omega)))
  have hL5' : LineAt w5 (w.heap.size + 1) v5 [9] := hL5
  clear hL4' bb4 hK5 hL5
  have hP := place_any 9 hL5' (by simp)
  rw [show max (Lib.idxOf [9] 9) 0 = 0 by decide, show decide (0 ≤ Lib.idxOf [9] 9) = true by decide] at hP
  have HP := Lib.hid hP
  clear hP
  go_wp2_with fail
  refine HP.out.mono ?_
  rintro e w6 ⟨rfl, rfl⟩
  have hN := Lib.hid (len_any hL5')
  clear hL5'
  go_wp2_with fail
  refine hN.out.mono ?_
  rintro e w6 ⟨rfl, rfl⟩
  go_wp2
  go_ret
  exact ⟨by simp, bb5⟩
theorem bare (w : World) : LineAt (w.alloc (.cells #[.slice none 0 0] 83)) w.heap.size (.slice none 0 0) [] :=
  ⟨by simp, by rw [World.cell?_alloc_at _ _ _ _ rfl]; rfl, by rw [World.frozen?_alloc_at _ _ _ _ rfl], World.ownsRow_nil _ _ _ _⟩
set_option maxHeartbeats 1000000 in
set_option maxRecDepth 100000 in
theorem none_law (x : Int) (hx : x ≤ 9223372036854775807) (w : World) : Calls Try.prog 12 #[.int .i64 x] w fun e w' => e = .returned (.bool true) ∧ Below w.heap.size w w' := by
  have key : ∀ (b : Bool), decide (x < 0) = b → Calls Try.prog 12 #[.int .i64 x] w fun e w' => e = .returned (.bool true) ∧ Below w.heap.size w w' := by
    intro b hb
    have hm : max 0 (min x (([] : List Int).length : Int)) = ((0 : Nat) : Int) := by simp; omega
    have HM := Lib.hid hm
    have HX := Lib.hid hx
    have HB := Lib.hid hb
    clear hm hx hb
    go_enter Try.func12, Try.ntmps12
    go_wp2_with fail
    refine (awake_any _).mono ?_
    rintro e w1 ⟨rfl, hb1⟩
    go_wp2_with fail
    refine (place_nil x _).mono ?_
    rintro e w' ⟨rfl, rfl⟩
    go_wp2_with fail
    refine (push_nil x _).mono ?_
    rintro e w' ⟨rfl, rfl⟩
    go_wp2_with fail
    refine (pop_nil x _).mono ?_
    rintro e w' ⟨rfl, rfl⟩
    go_wp2_with fail
    refine (drop_nil x _).mono ?_
    rintro e w' ⟨rfl, rfl⟩
    go_wp2_with fail
    refine (list_nil _).mono ?_
    rintro e w' ⟨rfl, rfl⟩
    go_wp2_with fail
    refine (len_nil _).mono ?_
    rintro e w' ⟨rfl, rfl⟩
    have hL := bare w1
    have bb := hb1.alloc hb1.size (.cells #[.slice none 0 0] 83)
    have hs1 := hb1.size
    clear hb1
    go_wp2_with fail
    refine (len_any hL).mono ?_
    rintro e w' ⟨rfl, rfl⟩
    go_wp2_with fail
    refine (pop_any x 0 HM.out hL (by simp)).mono ?_
    rintro e w2 ⟨o, rfl, v2, ho, hL2, hK2, _⟩
    have bb2 := bb.trans (hL.below hK2 (B := w.heap.size) (by omega))
    have hL2' : LineAt w2 w1.heap.size v2 [] := hL2
    obtain ⟨B, d, rfl⟩ := own_form ho
    clear hL bb hK2 hL2 ho
    cases b
    · have d1 := HB.out
      have hx0 : 0 ≤ x := by simpa using d1
      have hP := Lib.hid (push_ok x hL2' hx0 (by show (-1 : Int) < 0; omega) (by simp))
      go_wp2_with fail
      refine hP.out.mono ?_
      rintro e w3 ⟨rfl, v3, hL3, hK3⟩
      have bb3 := bb2.trans (hL2'.below hK3 (B := w.heap.size) (by omega))
      have hN := Lib.hid (len_any hL3)
      clear hL2' bb2 hK3 hL3
      go_wp2_with fail
      refine hN.out.mono ?_
      rintro e w6 ⟨rfl, rfl⟩
      go_wp2
      go_ret
      exact ⟨by simp, bb3⟩
    · have d1 := HB.out
      go_wp2
      go_ret
      exact ⟨by simp, bb2⟩
  exact key _ rfl
end Go.Proofs.Ytblpekeikmblmaa.LineW
