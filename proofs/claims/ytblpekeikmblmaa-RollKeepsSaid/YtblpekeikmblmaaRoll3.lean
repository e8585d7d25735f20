/- The walks of the roll, third part: the awakening, RollMarks. Conditions: rows are read rightly. Printed by gen_roll3.py. -/
import Derived.Test.YtblpekeikmblmaaRoll2
namespace Go.Proofs.Ytblpekeikmblmaa.BitsW
open Go.RowKit
open Go.Proofs.Ytblpekeikmblmaa.Words Go.Proofs.Ytblpekeikmblmaa.Bit

theorem own_new (w : World) (xs : List Value) (e : TypeId) (base n : Nat) (hb : base ≤ w.heap.size) (hn : xs.length = n) (hm : n ≤ maxLen) : (w.alloc (.cells xs.toArray e)).ownsRow base e 1 (.slice (some ⟨w.heap.size, 0, none⟩) n n) n xs := by
  subst hn
  exact ⟨by simp, .inr ⟨w.heap.size, xs.length, xs.toArray, rfl, hb, World.alloc_heap_new _ _, Nat.le_refl _, hm, by simp, by simp⟩⟩
theorem one_right : Right [1] 3 := ⟨by omega, by omega, rfl, fun i hi => by
  unfold bit by_
  rcases Nat.lt_or_ge i 8 with h | h
  · have : i / 8 = 0 := by omega
    rw [this]
    have h' : i % 8 = i := by omega
    rw [h']
    rcases (show i = 3 ∨ i = 4 ∨ i = 5 ∨ i = 6 ∨ i = 7 by omega) with rfl | rfl | rfl | rfl | rfl <;> decide
  · rw [List.getD_eq_getElem?_getD, List.getElem?_eq_none (by simp; omega)]; simp⟩
theorem byt_one (x : Nat) (h : x < 256) : Byt [x] := fun b hb => by simp at hb; omega
theorem brow1 (w : World) (x : Nat) (z : Int) (h : x < 256) (hz : z = x) : BRow (w.alloc (.cells #[.int .u8 z] 5)) (w.alloc (.cells #[.int .u8 z] 5)).heap.size (some ⟨w.heap.size, 0, none⟩) 1 [x] := by
  subst hz
  exact ⟨rfl, byt_one x h, fun j hj => ⟨_, rfl, by simp, by
    obtain rfl : j = 0 := by omega
    rw [add0, World.cell?_alloc_at _ _ _ _ rfl]; rfl⟩⟩
theorem ring_lit (w : World) : RAt (((((w.alloc (.cells #[.int .u8 1] 5)).alloc (.cells #[.int .u8 1] 5)).alloc (.cells #[.int .u8 0] 5)).alloc (.cells #[.int .u8 1] 5)).alloc
      (.cells #[.slice (some ⟨w.heap.size, 0, none⟩) 1 1, .slice (some ⟨w.heap.size + 1, 0, none⟩) 1 1, .slice (some ⟨w.heap.size + 1 + 1, 0, none⟩) 1 1, .slice (some ⟨w.heap.size + 1 + 1 + 1, 0, none⟩) 1 1] 24))
    (w.heap.size + 1 + 1 + 1 + 1 + 1) (some ⟨w.heap.size + 1 + 1 + 1 + 1, 0, none⟩) 4 [[1], [1], [0], [1]] := by
  have h1 := brow1 w 1 1 (by omega) rfl
  have h2 := brow1 (w.alloc (.cells #[.int .u8 1] 5)) 1 1 (by omega) rfl
  have h3 := brow1 ((w.alloc (.cells #[.int .u8 1] 5)).alloc (.cells #[.int .u8 1] 5)) 0 0 (by omega) rfl
  have h4 := brow1 (((w.alloc (.cells #[.int .u8 1] 5)).alloc (.cells #[.int .u8 1] 5)).alloc (.cells #[.int .u8 0] 5)) 1 1 (by omega) rfl
  have al := fun (W : World) (o : Obj) => (Below.refl W.heap.size W).alloc (Nat.le_refl _) o
  have k1 := (((h1.to (al _ (.cells #[.int .u8 1] 5))).to (al _ (.cells #[.int .u8 0] 5))).to (al _ (.cells #[.int .u8 1] 5))).to (al _ (.cells #[.slice (some ⟨w.heap.size, 0, none⟩) 1 1, .slice (some ⟨w.heap.size + 1, 0, none⟩) 1 1, .slice (some ⟨w.heap.size + 1 + 1, 0, none⟩) 1 1, .slice (some ⟨w.heap.size + 1 + 1 + 1, 0, none⟩) 1 1] 24))
  have k2 := (((h2.to (al _ (.cells #[.int .u8 0] 5))).to (al _ (.cells #[.int .u8 1] 5)))).to (al _ (.cells #[.slice (some ⟨w.heap.size, 0, none⟩) 1 1, .slice (some ⟨w.heap.size + 1, 0, none⟩) 1 1, .slice (some ⟨w.heap.size + 1 + 1, 0, none⟩) 1 1, .slice (some ⟨w.heap.size + 1 + 1 + 1, 0, none⟩) 1 1] 24))
  have k3 := (((h3.to (al _ (.cells #[.int .u8 1] 5))))).to (al _ (.cells #[.slice (some ⟨w.heap.size, 0, none⟩) 1 1, .slice (some ⟨w.heap.size + 1, 0, none⟩) 1 1, .slice (some ⟨w.heap.size + 1 + 1, 0, none⟩) 1 1, .slice (some ⟨w.heap.size + 1 + 1 + 1, 0, none⟩) 1 1] 24))
  have k4 := h4.to (al _ (.cells #[.slice (some ⟨w.heap.size, 0, none⟩) 1 1, .slice (some ⟨w.heap.size + 1, 0, none⟩) 1 1, .slice (some ⟨w.heap.size + 1 + 1, 0, none⟩) 1 1, .slice (some ⟨w.heap.size + 1 + 1 + 1, 0, none⟩) 1 1] 24))
  simp only [World.size_alloc] at k1 k2 k3 k4
  refine ⟨rfl, fun i hi => ⟨⟨w.heap.size + 1 + 1 + 1 + 1, 0, none⟩, ?_⟩⟩
  rcases (show i = 0 ∨ i = 1 ∨ i = 2 ∨ i = 3 by omega) with rfl | rfl | rfl | rfl
  · exact ⟨some ⟨w.heap.size, 0, none⟩, 1, rfl, by show w.heap.size + 1 + 1 + 1 + 1 < _; omega, by rw [add0, World.cell?_alloc_at _ _ _ _ (by simp)]; rfl, k1, Nat.le_refl _⟩
  · exact ⟨some ⟨w.heap.size + 1, 0, none⟩, 1, rfl, by show w.heap.size + 1 + 1 + 1 + 1 < _; omega, by rw [add0, World.cell?_alloc_at _ _ _ _ (by simp)]; rfl, k2, Nat.le_refl _⟩
  · exact ⟨some ⟨w.heap.size + 1 + 1, 0, none⟩, 1, rfl, by show w.heap.size + 1 + 1 + 1 + 1 < _; omega, by rw [add0, World.cell?_alloc_at _ _ _ _ (by simp)]; rfl, k3, Nat.le_refl _⟩
  · exact ⟨some ⟨w.heap.size + 1 + 1 + 1, 0, none⟩, 1, rfl, by show w.heap.size + 1 + 1 + 1 + 1 < _; omega, by rw [add0, World.cell?_alloc_at _ _ _ _ (by simp)]; rfl, k4, Nat.le_refl _⟩
theorem run_lit (w : World) : Calls Try.prog 38 #[.slice (some ⟨w.heap.size + 1 + 1 + 1 + 1, 0, none⟩) 4 4, .int .i64 0] (((((w.alloc (.cells #[.int .u8 1] 5)).alloc (.cells #[.int .u8 1] 5)).alloc (.cells #[.int .u8 0] 5)).alloc (.cells #[.int .u8 1] 5)).alloc
      (.cells #[.slice (some ⟨w.heap.size, 0, none⟩) 1 1, .slice (some ⟨w.heap.size + 1, 0, none⟩) 1 1, .slice (some ⟨w.heap.size + 1 + 1, 0, none⟩) 1 1, .slice (some ⟨w.heap.size + 1 + 1 + 1, 0, none⟩) 1 1] 24))
    fun e w' => e = .returned (.int .i64 2) ∧ Below w.heap.size w w' := by
  refine Calls.mono (run_any (some ⟨w.heap.size + 1 + 1 + 1 + 1, 0, none⟩) 4 4 [[1], [1], [0], [1]] 0 (by omega) (fun i hi => by rcases (show i = 0 ∨ i = 1 ∨ i = 2 ∨ i = 3 by omega) with rfl | rfl | rfl | rfl <;> decide) (by omega) _ ?_) ?_
  · simp only [World.size_alloc]; exact ring_lit w
  rintro e w' ⟨rfl, hb⟩
  have e2 : runN [[1], [1], [0], [1]] 0 = 2 := by decide
  rw [e2]
  refine ⟨rfl, Below.trans ?_ (hb.mono (by simp; omega))⟩
  exact ((((((Below.refl _ _).alloc (Nat.le_refl _) _).alloc (by simp) _).alloc (by simp; omega) _).alloc (by simp; omega) _).alloc (by simp; omega) _)
set_option maxRecDepth 100000 in
theorem awake20 (w : World) : Calls Try.prog 29 #[] w fun e w' => e = .returned (.bool true) ∧ Below w.heap.size w w' := by
  go_enter Try.func29, Try.ntmps29
  go_wp2_with fail
  refine (empty_any w).mono ?_
  rintro e w1 ⟨rfl, hown1, hb1⟩
  obtain ⟨A1, c1, hv1, _, _, _, hr1⟩ := brow_of_own (by rfl) zrs_byt hown1
  injection hv1 with hv1 _ hv3
  subst hv1 hv3
  have hal : Below w1.heap.size w1 (w1.alloc (.cells #[.int .u8 1] 5)) := (Below.refl _ _).alloc (Nat.le_refl _) _
  have HM := Lib.hid (show Calls Try.prog 30 #[.slice (some ⟨w.heap.size, 0, none⟩) 16 16, .slice (some ⟨w1.heap.size, 0, none⟩) 1 1, .int .i64 3] (w1.alloc (.cells #[.int .u8 1] 5)) fun e w' => ∃ v, e = .returned (.tuple #[v, .int .i64 0]) ∧ w'.ownsRow (w1.alloc (.cells #[.int .u8 1] 5)).heap.size 5 1 v 16 ((mks zrs [1]).map byc) ∧ Below (w1.alloc (.cells #[.int .u8 1] 5)).heap.size (w1.alloc (.cells #[.int .u8 1] 5)) w' from
    mark_ok _ _ 16 16 1 1 3 zrs [1] _ (hr1.to hal) (brow1 w1 1 1 (by omega) rfl) ⟨zrs_right, by omega, by omega, one_right⟩ (by omega) (by omega))
  have hbb := hb1.alloc hb1.size (.cells #[.int .u8 1] 5)
  clear hown1 hr1 hal hb1
  go_wp2_with fail
  refine HM.out.mono ?_
  rintro e w2 ⟨v, rfl, hown2, hb2⟩
  have hb3 := hbb.trans (hb2.mono hbb.size)
  obtain ⟨g, c2, rfl, hlo, hcs, _⟩ := own_bytes (mks_len _ _) hown2 (by omega)
  have hg : g < w2.heap.size := (hown2.lt g rfl).2
  have hc0 := hcs 0 (by omega)
  have e0 : by_ (mks zrs [1]) 0 = 1 := by decide +kernel
  rw [e0] at hc0
  clear HM hbb hb2 hown2 hcs e0 hlo
  go_wp2_with fail
  refine (run_lit w2).mono ?_
  rintro e w3 ⟨rfl, hb4⟩
  have hc0' : w3.cell? ⟨g, 0, none⟩ = some (.int .u8 1) := (hb4.cell (p := ⟨g, 0, none⟩) hg).trans hc0
  have hb5 := hb3.trans (hb4.mono hb3.size)
  clear hc0 hb3 hb4
  go_wp2
  go_ret
  exact ⟨by simp, hb5⟩

set_option maxHeartbeats 2000000 in
set_option maxRecDepth 100000 in
theorem marks_ok (A B : Option Addr) (n c f d : Nat) (m : Nat) (xs bs : List Nat) (w : World) (ha : BRow w w.heap.size A n xs) (hb : BRow w w.heap.size B f bs) (hR : MOk xs bs m) (hn : n ≤ 100) (hf : f ≤ 100) :
    Calls Try.prog 8 #[.slice A n c, .slice B f d, .int .i64 m] w fun e w' => e = .returned (.bool true) ∧ Below w.heap.size w w' := by
  obtain ⟨i0, hi0, hz0, hz1, hz2⟩ := info_parts info_u8
  have dn : decide ((100 : Int) < n) = false := by simp; omega
  have df : decide ((100 : Int) < f) = false := by simp; omega
  have HR := Lib.hid hR
  have HX := Lib.hid (show (List.range n).map (fun j => Value.int .u8 (by_ xs j)) = xs.map byc by
    apply List.ext_getElem (by simp [ha.1])
    intro j h1 h2
    simp at h1 h2
    simp [byc, by_lt h2])
  clear hR
  go_enter Try.func8, Try.ntmps8
  go_wp2_with fail
  refine (awake20 w).mono ?_
  rintro e w1 ⟨rfl, hb1⟩
  have ha1 := ha.to hb1
  have hf1 := hb.to hb1
  clear ha hb
  have hr1 := (ha1.to (show Below w1.heap.size w1 (w1.alloc (.cells #[] 5)) from (Below.refl _ _).alloc (Nat.le_refl _) _)).2.2
  have hs1 := hb1.size
  go_wp2_with (at_builtin; refine wpList_append_whole _ rfl _ _ 24 rfl w1.heap.size 5 i0 (.int .u8 0) 1 Try.underlying24 hi0 hz0 hz1 hz2 rfl _ _ _ rfl (own_new w1 [] 5 w1.heap.size 0 (Nat.le_refl _) rfl (by unfold maxLen; omega)) A n c _ rfl hr1 (fun _ => rfl) ?_ ?_ (by simp) ?_)
  · unfold maxLen; omega
  · omega
  intro v w2 hown2 hg2
  have hown3 : w2.ownsRow w1.heap.size 5 1 v n (xs.map byc) := by
    rw [← HX.out]; simpa using hown2
  have hb2 : Below w1.heap.size w1 w2 := ((Below.refl _ _).alloc (Nat.le_refl _) (.cells #[] 5)).grown hg2 (by simp) (fun k hk => by cases hk; exact Nat.le_refl _)
  have hbb2 := hb1.trans (hb2.mono hs1)
  obtain ⟨A2, c2, rfl, _, _, _, hro2⟩ := brow_of_own ha1.1 ha1.2.1 hown3
  have ha2 := ha1.to hb2
  have hf2 := hf1.to hb2
  clear hown2 hown3 hg2 hr1 ha1 hf1 hb1 hb2 hs1
  go_wp2_with fail
  refine (mark_ok A2 B n c2 f d m xs bs w2 hro2 hf2 HR.out (by omega) (by omega)).mono ?_
  rintro e w3 ⟨u, rfl, ho3, hb3⟩
  obtain ⟨A3, c3, rfl, _, _, _, hm3⟩ := brow_of_own (mks_len xs bs) (mks_byt xs bs) ho3
  have hbb3 := hbb2.trans (hb3.mono hbb2.size)
  have hro3 := hro2.to hb3
  have ha3 := ha2.to hb3
  have hf3 := hf2.to hb3
  clear ho3 hb3 hro2 ha2 hf2 hbb2
  go_wp2_with fail
  refine (rmark_ok A B n c f d m xs bs w3 ha3 hf3 HR.out (by omega) (by omega)).mono ?_
  rintro e w4 ⟨g, rfl, _, hr4, hb4⟩
  have hbb4 := hbb3.trans (hb4.mono hbb3.size)
  have hro4 := hro3.to hb4
  have ha4 := ha3.to hb4
  have hm4 := hm3.to hb4
  clear hb4 hro3 ha3 hf3 hm3 hbb3
  go_wp2_with fail
  refine (same_yes A3 (some ⟨g, 0, none⟩) 16 c3 16 _ (mks xs bs) w4 hm4 hr4 (by omega)).mono ?_
  rintro e w5 ⟨rfl, q5, rfl⟩
  have hro5 := hro4.drewN q5
  have ha5 := ha4.drewN q5
  clear hm4 hr4 hro4 ha4
  go_wp2_with fail
  refine (same_yes _ _ _ _ _ _ xs _ hro5 ha5 (by omega)).mono ?_
  rintro e w6 ⟨rfl, q6, rfl⟩
  have hbb6 := below_drewN hbb4 (q5 + q6)
  clear hro5 ha5 hbb4
  go_wp2_with fail
  refine (empty_any _).mono ?_
  rintro e w7 ⟨rfl, _, hb7⟩
  have hbb7 := hbb6.trans (hb7.mono hbb6.size)
  clear hb7 hbb6
  go_wp2_with fail
  refine (empty_any _).mono ?_
  rintro e w8 ⟨rfl, ho8, hb8⟩
  have hbb8 := hbb7.trans (hb8.mono hbb7.size)
  obtain ⟨A8, c8, hv8, _, _, _, hr8⟩ := brow_of_own (by rfl) zrs_byt ho8
  injection hv8 with hv8 _ hv9
  subst hv8 hv9
  clear hb8 hbb7 ho8
  go_wp2_with fail
  refine (rr_yes _ 16 16 _ zrs w8 hr8 zrs_right).mono ?_
  rintro e w9 ⟨rfl, rfl⟩
  go_wp2
  go_ret
  exact ⟨by simp, hbb8⟩

set_option maxHeartbeats 2000000 in
set_option maxRecDepth 100000 in
theorem marks_bad (A B : Option Addr) (n c f d : Nat) (m : Int) (xs bs : List Nat) (w : World) (ha : BRow w w.heap.size A n xs) (hb : BRow w w.heap.size B f bs) (hR : ¬ MOk xs bs m) (hn : n ≤ 100) (hf : f ≤ 100) :
    Calls Try.prog 8 #[.slice A n c, .slice B f d, .int .i64 m] w fun e w' => e = .returned (.bool true) ∧ Below w.heap.size w w' := by
  obtain ⟨i0, hi0, hz0, hz1, hz2⟩ := info_parts info_u8
  have dn : decide ((100 : Int) < n) = false := by simp; omega
  have df : decide ((100 : Int) < f) = false := by simp; omega
  have HR := Lib.hid hR
  have HX := Lib.hid (show (List.range n).map (fun j => Value.int .u8 (by_ xs j)) = xs.map byc by
    apply List.ext_getElem (by simp [ha.1])
    intro j h1 h2
    simp at h1 h2
    simp [byc, by_lt h2])
  clear hR
  go_enter Try.func8, Try.ntmps8
  go_wp2_with fail
  refine (awake20 w).mono ?_
  rintro e w1 ⟨rfl, hb1⟩
  have ha1 := ha.to hb1
  have hf1 := hb.to hb1
  clear ha hb
  have hr1 := (ha1.to (show Below w1.heap.size w1 (w1.alloc (.cells #[] 5)) from (Below.refl _ _).alloc (Nat.le_refl _) _)).2.2
  have hs1 := hb1.size
  go_wp2_with (at_builtin; refine wpList_append_whole _ rfl _ _ 24 rfl w1.heap.size 5 i0 (.int .u8 0) 1 Try.underlying24 hi0 hz0 hz1 hz2 rfl _ _ _ rfl (own_new w1 [] 5 w1.heap.size 0 (Nat.le_refl _) rfl (by unfold maxLen; omega)) A n c _ rfl hr1 (fun _ => rfl) ?_ ?_ (by simp) ?_)
  · unfold maxLen; omega
  · omega
  intro v w2 hown2 hg2
  have hown3 : w2.ownsRow w1.heap.size 5 1 v n (xs.map byc) := by
    rw [← HX.out]; simpa using hown2
  have hb2 : Below w1.heap.size w1 w2 := ((Below.refl _ _).alloc (Nat.le_refl _) (.cells #[] 5)).grown hg2 (by simp) (fun k hk => by cases hk; exact Nat.le_refl _)
  have hbb2 := hb1.trans (hb2.mono hs1)
  obtain ⟨A2, c2, rfl, _, _, _, hro2⟩ := brow_of_own ha1.1 ha1.2.1 hown3
  have ha2 := ha1.to hb2
  have hf2 := hf1.to hb2
  clear hown2 hown3 hg2 hr1 ha1 hf1 hb1 hb2 hs1
  go_wp2_with fail
  refine (mark_bad A2 B n c2 f d m xs bs w2 hro2 hf2 HR.out (by omega) (by omega)).mono ?_
  rintro e w3 ⟨rfl, rfl⟩
  skip
  go_wp2_with fail
  refine (rmark_bad A B n c f d m xs bs w2 ha2 hf2 HR.out).mono ?_
  rintro e w4 ⟨rfl, rfl⟩
  have hbb4 := hbb2
  have hro4 := hro2
  have ha4 := ha2
  have hm4 : BRow w2 w2.heap.size none 0 [] := ⟨rfl, fun b hb => (by cases hb), Rd.nil⟩
  have hr4 := hm4
  clear hro2 ha2 hf2 hbb2
  go_wp2_with fail
  refine (same_yes none none 0 0 0 _ [] w2 hm4 hr4 (by omega)).mono ?_
  rintro e w5 ⟨rfl, q5, rfl⟩
  have hro5 := hro4.drewN q5
  have ha5 := ha4.drewN q5
  clear hm4 hr4 hro4 ha4
  go_wp2_with fail
  refine (same_yes _ _ _ _ _ _ xs _ hro5 ha5 (by omega)).mono ?_
  rintro e w6 ⟨rfl, q6, rfl⟩
  have hbb6 := below_drewN hbb4 (q5 + q6)
  clear hro5 ha5 hbb4
  go_wp2_with fail
  refine (empty_any _).mono ?_
  rintro e w7 ⟨rfl, _, hb7⟩
  have hbb7 := hbb6.trans (hb7.mono hbb6.size)
  clear hb7 hbb6
  go_wp2_with fail
  refine (empty_any _).mono ?_
  rintro e w8 ⟨rfl, ho8, hb8⟩
  have hbb8 := hbb7.trans (hb8.mono hbb7.size)
  obtain ⟨A8, c8, hv8, _, _, _, hr8⟩ := brow_of_own (by rfl) zrs_byt ho8
  injection hv8 with hv8 _ hv9
  subst hv8 hv9
  clear hb8 hbb7 ho8
  go_wp2_with fail
  refine (rr_yes _ 16 16 _ zrs w8 hr8 zrs_right).mono ?_
  rintro e w9 ⟨rfl, rfl⟩
  go_wp2
  go_ret
  exact ⟨by simp, hbb8⟩

theorem marks_big (A B : Option Addr) (n c f d : Nat) (m : Int) (w : World) (h : 100 < n ∨ 100 < f) :
    Calls Try.prog 8 #[.slice A n c, .slice B f d, .int .i64 m] w fun e w' => e = .returned (.bool true) ∧ Below w.heap.size w w' := by
  by_cases hn : 100 < n
  · have dn : decide ((100 : Int) < n) = true := by simp; omega
    go_enter Try.func8, Try.ntmps8
    go_wp2_with fail
    refine (awake20 w).mono ?_
    rintro e w1 ⟨rfl, hb1⟩
    go_wp2
    go_ret
    exact ⟨rfl, hb1⟩
  · have dn : decide ((100 : Int) < n) = false := by simp; omega
    have df : decide ((100 : Int) < f) = true := by simp; omega
    go_enter Try.func8, Try.ntmps8
    go_wp2_with fail
    refine (awake20 w).mono ?_
    rintro e w1 ⟨rfl, hb1⟩
    go_wp2
    go_ret
    exact ⟨rfl, hb1⟩
theorem marks_law (A B : Option Addr) (n c f d : Nat) (m : Int) (xs bs : List Nat) (w : World) (ha : BRow w w.heap.size A n xs) (hb : BRow w w.heap.size B f bs) :
    Calls Try.prog 8 #[.slice A n c, .slice B f d, .int .i64 m] w fun e w' => e = .returned (.bool true) ∧ Below w.heap.size w w' := by
  by_cases h : 100 < n ∨ 100 < f
  · exact marks_big A B n c f d m w h
  by_cases hR : MOk xs bs m
  · obtain ⟨k, rfl⟩ : ∃ k : Nat, m = k := ⟨m.toNat, by have := hR.2.1; omega⟩
    exact marks_ok A B n c f d k xs bs w ha hb hR (by omega) (by omega)
  · exact marks_bad A B n c f d m xs bs w ha hb hR (by omega) (by omega)
end Go.Proofs.Ytblpekeikmblmaa.BitsW
