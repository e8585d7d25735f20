/- The walks of bullionref03 and of the law RootOf: the document's root and distances are the program's, at any number of 64 bits. No conditions beyond 64 bits. -/
import Derived.Test.YtdjeedmiicagcaaNat4
import Derived.Test.YtdjeedmiicagcaaRootLaws
namespace Go.Proofs.Ytdjeedmiicagcaa.Ref3
open Go.RowKit
open Go.Proofs.Ytdjeedmiicagcaa.Words Go.Proofs.Ytdjeedmiicagcaa.Dec Go.Proofs.Ytdjeedmiicagcaa.NatW Go.Proofs.Ytdjeedmiicagcaa.Sqrt Go.Proofs.Ytdjeedmiicagcaa.RootW

theorem sm64 {N : Nat} (h : N < 18446744073709551616) : Sm N := Sm.of (by omega)
theorem smsq {N : Nat} (h : N ≤ 4294967296) : Sm (N * N) := Sm.of (by have := sq_le h; omega)
theorem of_int (x : Int) (k : Nat) (hx : (k : Int) = x) (hk : k < 18446744073709551616) (w : World) :
    Calls Try.prog 58 #[.int .u64 x] w fun e w' => ∃ v, e = .returned v ∧ NatAt w.heap.size w' v k ∧ Below w.heap.size w w' := by subst hx; exact of_any k hk w

theorem square_any' (n : Nat) (hn : n < 18446744073709551616) (w : World) :
    Calls Try.prog 57 #[.int .u64 n] w fun e w' => ∃ v, e = .returned v ∧ NatAt w.heap.size w' v (n * n) ∧ Below w.heap.size w w' := by
  have hO := Lib.hid (of_any n hn)
  have hS := Lib.hid (sm64 hn)
  clear hn
  go_enter Try.func57, Try.ntmps57
  go_wp2_with fail
  refine (hO.out _).mono ?_
  rintro e w1 ⟨a, rfl, hN1, hb1⟩
  go_wp2_with fail
  refine (hO.out _).mono ?_
  rintro e w2 ⟨b, rfl, hN2, hb2⟩
  go_wp2_with fail
  refine (mul_v a b n n _ (hN1.to hb2) hN2 hS.out hS.out).mono ?_
  rintro e w3 ⟨v, rfl, hN3, hb3⟩
  obtain ⟨A, k, c, rfl⟩ := hN3.form
  have hs1 := hb1.size
  have hs2 := hb2.size
  have hb := hb1.trans ((hb2.trans (hb3.mono hs2)).mono hs1)
  have hc : w3.cell? ⟨w.heap.size, 0, none⟩ = some (.slice none 0 0) := bcell hb (by simp) (by rw [World.cell?_alloc_at _ _ _ _ rfl]; rfl)
  have hf : w3.frozen? ⟨w.heap.size, 0, none⟩ = false := (hb.frozen (by simp)).trans (World.frozen?_alloc_at _ _ _ _ rfl)
  simp only [World.size_alloc] at hs1
  clear hN1 hN2 hb1 hb2 hb3
  go_wp2
  refine bodyPost_ret (v := .agg #[.slice A k c]) (by simp [results, Try.results57, go_sem, World.cell?_setCell_same _ _ _ hc]) rfl ?_
  exact ⟨_, rfl, (hN3.set (by show w.heap.size < _; omega) _).low (by omega), ((Below.refl _ _).alloc (Nat.le_refl _) _ |>.trans (hb.mono (by simp))).setCell (Nat.le_refl _) _⟩
theorem square_i (x : Int) (k : Nat) (hx : (k : Int) = x) (hk : k < 18446744073709551616) (w : World) :
    Calls Try.prog 57 #[.int .u64 x] w fun e w' => ∃ v, e = .returned v ∧ NatAt w.heap.size w' v (k * k) ∧ Below w.heap.size w w' := by subst hx; exact square_any' k hk w

/-- what holds at the head of each round of the halving -/
def HI (n lo hi : Nat) : Prop := lo * lo ≤ n ∧ n < hi * hi ∧ lo < hi ∧ hi ≤ 4294967296

set_option maxHeartbeats 1000000 in
theorem rroot_any (n : Nat) (hn : n < 18446744073709551616) (w : World) :
    Calls Try.prog 17 #[.int .u64 n] w fun e w' => e = .returned (.int .u64 (isq n)) ∧ Below w.heap.size w w' := by
  have hO := Lib.hid (of_any n hn)
  have hSn := Lib.hid (sm64 hn)
  have hst : HI n 0 4294967296 := ⟨by omega, by omega, by omega, by omega⟩
  clear hn
  go_enter Try.func17, Try.ntmps17
  go_wp2
  go_loopw [3, 4] (fun l h wr => ∃ lo hi : Nat, l = .int .u64 lo ∧ h = .int .u64 hi ∧ HI n lo hi ∧ Below w.heap.size w wr) (fun l h _ => (intOf h - intOf l).toNat)
  case atStart => exact ⟨0, 4294967296, rfl, rfl, hst, Below.refl _ _⟩
  case round =>
    obtain ⟨lo, hi, rfl, rfl, ⟨h1, h2, h3, h4⟩, hbw⟩ := hrel
    clear hst
    by_cases hgo : lo + 1 < hi
    · obtain ⟨m, hm⟩ : ∃ m, m = lo + (hi - lo) / 2 := ⟨_, rfl⟩
      have hmi : ((m : Nat) : Int) = (lo : Int) + ((hi : Int) - lo) / 2 := by omega
      have hmb : lo < m ∧ m < hi := by omega
      have d1 : decide ((1 : Int) < (hi : Int) - lo) = true := by simp; omega
      have hQ := Lib.hid (square_i _ m hmi (by omega))
      have hSm := Lib.hid (smsq (N := m) (by omega))
      have HM := Lib.hid hmi
      have HM2 := Lib.hid hm
      clear hmi hm
      by_cases hle : m * m ≤ n
      · have d2 : decide (cmpN (m * m) n ≤ 0) = true := by rw [cmpN_le]; simpa using hle
        have hI' := Lib.hid (show HI n m hi from ⟨hle, h2, by omega, h4⟩)
        clear h1 h2 hle
        go_wp2_with fail
        refine (hQ.out _).mono ?_
        rintro e w1 ⟨a, rfl, hN1, hb1⟩
        go_wp2_with fail
        refine (hO.out _).mono ?_
        rintro e w2 ⟨b, rfl, hN2, hb2⟩
        go_wp2_with fail
        refine (cmp_v a b _ _ _ (hN1.to hb2) hN2 hSm.out hSn.out).mono ?_
        rintro e w3 ⟨rfl, hb3⟩
        have hs0 := hbw.size
        have hb := hbw.trans ((hb1.trans ((hb2.trans (hb3.mono hb2.size)).mono hb1.size)).mono hs0)
        clear hN1 hN2 hb1 hb2 hb3 hQ
        go_wp2
        exact ⟨⟨m, hi, by rw [HM.out], rfl, hI'.out, hb⟩, by simp [intOf]; omega⟩
      · have d2 : decide (cmpN (m * m) n ≤ 0) = false := by rw [cmpN_le]; simpa using hle
        have hI' := Lib.hid (show HI n lo m from ⟨h1, by omega, by omega, by omega⟩)
        clear h1 h2 hle
        go_wp2_with fail
        refine (hQ.out _).mono ?_
        rintro e w1 ⟨a, rfl, hN1, hb1⟩
        go_wp2_with fail
        refine (hO.out _).mono ?_
        rintro e w2 ⟨b, rfl, hN2, hb2⟩
        go_wp2_with fail
        refine (cmp_v a b _ _ _ (hN1.to hb2) hN2 hSm.out hSn.out).mono ?_
        rintro e w3 ⟨rfl, hb3⟩
        have hs0 := hbw.size
        have hb := hbw.trans ((hb1.trans ((hb2.trans (hb3.mono hb2.size)).mono hb1.size)).mono hs0)
        clear hN1 hN2 hb1 hb2 hb3 hQ
        go_wp2
        exact ⟨⟨lo, m, rfl, by rw [HM.out], hI'.out, hb⟩, by simp [intOf]; omega⟩
    · have hq := Lib.hid (isq_eq h1 (show n < (lo + 1) * (lo + 1) by rw [show lo + 1 = hi by omega]; exact h2))
      have d1 : decide ((1 : Int) < (hi : Int) - lo) = false := by simp; omega
      clear h1 h2
      go_wp2
      go_ret
      exact ⟨by rw [hq.out]; rfl, hbw⟩

theorem below_any (n : Nat) (hn : n < 18446744073709551616) (w : World) :
    Calls Try.prog 18 #[.int .u64 n] w fun e w' => e = .returned (.int .u64 (bel n)) ∧ Below w.heap.size w w' := by
  have hO := Lib.hid (of_any n hn)
  have hR := Lib.hid (rroot_any n hn)
  have hQ := Lib.hid (square_any' (isq n) (by have := isq_lt hn; omega))
  have hS := Lib.hid (sm64 hn)
  have hle := Lib.hid (isq_spec n).1
  have hlt := Lib.hid (show n - isq n * isq n < 18446744073709551616 by omega)
  clear hn
  go_enter Try.func18, Try.ntmps18
  go_wp2_with fail
  refine (hO.out _).mono ?_
  rintro e w1 ⟨a, rfl, hN1, hb1⟩
  go_wp2_with fail
  refine (hR.out _).mono ?_
  rintro e w2 ⟨rfl, hb2⟩
  go_wp2_with fail
  refine (hQ.out _).mono ?_
  rintro e w3 ⟨b, rfl, hN3, hb3⟩
  go_wp2_with fail
  refine (sub_v a b _ _ _ ((hN1.to hb2).to hb3) hN3 hS.out hle.out).mono ?_
  rintro e w4 ⟨d, rfl, hN4, hb4⟩
  go_wp2_with fail
  refine (uint_yes d _ _ hN4 hlt.out).mono ?_
  rintro e w5 ⟨rfl, hb5⟩
  have hb := hb1.trans ((hb2.trans ((hb3.trans ((hb4.trans (hb5.mono hb4.size)).mono hb3.size)).mono hb2.size)).mono hb1.size)
  clear hN1 hN3 hN4 hb1 hb2 hb3 hb4 hb5
  go_wp2
  go_ret
  exact ⟨rfl, hb⟩

theorem above_top (n : Nat) (hn : n < 18446744073709551616) (ht : ¬ isq n < 4294967295) (w : World) :
    Calls Try.prog 19 #[.int .u64 n] w fun e w' => e = .returned (.int .u64 (abv n)) ∧ Below w.heap.size w w' := by
  have hR := Lib.hid (rroot_any n hn)
  have hr := isq_lt hn
  have hv := Lib.hid (abv_top ht)
  generalize isq n = r at *
  obtain rfl : r = 4294967295 := by omega
  have hQ := Lib.hid (square_any' 4294967296 (by omega))
  have hS := Lib.hid (smsq (N := 4294967296) (by omega))
  clear hn ht hr
  go_enter Try.func19, Try.ntmps19
  go_wp2_with fail
  refine (hR.out _).mono ?_
  rintro e w1 ⟨rfl, hb1⟩
  go_wp2_with fail
  refine (hQ.out _).mono ?_
  rintro e w2 ⟨a, rfl, hN2, hb2⟩
  obtain ⟨A, k, c, rfl⟩ := hN2.form
  have hb3 : Below w2.heap.size w2 (w2.alloc (.cells #[.slice A k c] 51)) := (Below.refl _ _).alloc (Nat.le_refl _) _
  have hU := Lib.hid (uint_no _ _ _ (hN2.to hb3) (by omega) hS.out)
  go_wp2_with fail
  refine hU.out.mono ?_
  rintro e w4 ⟨rfl, hb4⟩
  have hb := hb1.trans ((hb2.trans ((hb3.trans (hb4.mono hb3.size)).mono hb2.size)).mono hb1.size)
  clear hb1 hb2 hb3 hb4 hU hN2
  go_wp2
  go_ret
  exact ⟨by rw [hv.out]; rfl, hb⟩
theorem above_low (n : Nat) (hn : n < 18446744073709551616) (ht : isq n < 4294967295) (w : World) :
    Calls Try.prog 19 #[.int .u64 n] w fun e w' => e = .returned (.int .u64 (abv n)) ∧ Below w.heap.size w w' := by
  have hR := Lib.hid (rroot_any n hn)
  have hO := Lib.hid (of_any n hn)
  have hq := isq_spec n
  have hv := Lib.hid (abv_cast ht)
  have hv2 : abv n = (isq n + 1) * (isq n + 1) - n := by unfold abv; rw [if_pos ht]
  generalize isq n = r at *
  have hsq := sq_bd (show r + 1 < 4294967296 by omega)
  have hQ := Lib.hid (square_i ((r : Int) + 1) (r + 1) (by omega) (by omega))
  have hS := Lib.hid (sm64 hsq)
  have hlt := Lib.hid (show (r + 1) * (r + 1) - n < 18446744073709551616 by omega)
  have hsq' := Lib.hid hsq
  have hle := Lib.hid (Nat.le_of_lt hq.2)
  have hV := Lib.hid hv2
  clear hn hsq hq hv2
  go_enter Try.func19, Try.ntmps19
  go_wp2_with fail
  refine (hR.out _).mono ?_
  rintro e w1 ⟨rfl, hb1⟩
  go_wp2_with fail
  refine (hQ.out _).mono ?_
  rintro e w2 ⟨a, rfl, hN2, hb2⟩
  obtain ⟨A, k, c, rfl⟩ := hN2.form
  obtain ⟨W3, hW3⟩ : ∃ W3, w2.alloc (.cells #[.slice A k c] 51) = W3 := ⟨_, rfl⟩
  have hb3 : Below w2.heap.size w2 W3 := by rw [← hW3]; exact (Below.refl _ _).alloc (Nat.le_refl _) _
  have hc3 : W3.cell? ⟨w2.heap.size, 0, none⟩ = some (.slice A k c) := by rw [← hW3, World.cell?_alloc_at _ _ _ _ rfl]; rfl
  have hs3 : w2.heap.size < W3.heap.size := by rw [← hW3]; simp
  go_wp2_with fail
  refine (uint_yes _ _ _ (hN2.to (by exact hb3)) hsq'.out).mono ?_
  rintro e w4 ⟨rfl, hb4⟩
  have hc4 := bcell hb4 hs3 hc3
  have hN4 := (hN2.to hb3).to hb4
  have hbz := hb1.trans ((hb2.trans ((hb3.trans (hb4.mono hb3.size)).mono hb2.size)).mono hb1.size)
  have hs4 : w2.heap.size < w4.heap.size := by have := hb4.size; omega
  clear hW3 hN2 hb1 hb2 hb3 hb4 hc3 hs3
  go_wp2
  go_region_held3 (fun w' => w'.cell? ⟨w2.heap.size, 0, none⟩ = some (.slice A k c) ∧ Below w4.heap.size w4 w')
    (first
      | exact ⟨hc4, (Below.refl _ _).drew⟩
      | (have hh := And.right ‹_ ∧ Below w4.heap.size w4 _›; exact ⟨bcell (hh.trans (hbm.mono hh.size)) hs4 hc4, hh.trans (hbm.mono hh.size)⟩))
    (first
      | (go_at_call 58; refine (hO.out _).mono ?_; rintro e w5 ⟨v5, rfl, hN5, hbm⟩)
      | (go_at_call 60; have hh := And.right ‹_ ∧ Below w4.heap.size w4 _›; refine (sub_v _ v5 _ _ _ (hN4.to hh) hN5 hS.out hle.out).mono ?_; clear hbm hN5 hh; rintro e w6 ⟨v6, rfl, hN6, hbm⟩)
      | (go_at_call 59; refine (uint_yes v6 _ _ hN6 hlt.out).mono ?_; clear hbm hN6; rintro e w7 ⟨rfl, hbm⟩))
  obtain ⟨_, hb7⟩ := ‹_ ∧ Below w4.heap.size w4 _›
  go_wp2
  go_ret
  exact ⟨by rw [hV.out]; rfl, hbz.trans (hb7.mono hbz.size)⟩
theorem above_any (n : Nat) (hn : n < 18446744073709551616) (w : World) :
    Calls Try.prog 19 #[.int .u64 n] w fun e w' => e = .returned (.int .u64 (abv n)) ∧ Below w.heap.size w w' := by
  by_cases h : isq n < 4294967295
  · exact above_low n hn h w
  · exact above_top n hn h w

theorem of_law (n : Nat) (hn : n < 18446744073709551616) (w : World) :
    Calls Try.prog 4 #[.int .u64 n] w fun e w' => e = .returned (.bool true) ∧ Below w.heap.size w w' := by
  have cN := Lib.hid (near_any n hn)
  have cR := Lib.hid (root_any n hn)
  have cQ := Lib.hid (square_any n hn)
  have cR' := Lib.hid (rroot_any n hn)
  have cB := Lib.hid (below_any n hn)
  have cA := Lib.hid (above_any n hn)
  clear hn
  generalize isq n = r at *
  generalize bel n = b at *
  generalize abv n = a at *
  go_enter Try.func4, Try.ntmps4
  go_wp2_with fail
  refine (awake_any _).mono ?_
  rintro e w' ⟨rfl, rfl⟩
  go_wp2_with fail
  refine (cN.out _).mono ?_
  rintro e w' ⟨rfl, rfl⟩
  go_wp2_with fail
  refine (cR.out _).mono ?_
  rintro e w' ⟨rfl, rfl⟩
  go_wp2_with fail
  refine (cR'.out _).mono ?_
  rintro e w1 ⟨rfl, hb1⟩
  go_wp2_with fail
  refine (cB.out _).mono ?_
  rintro e w2 ⟨rfl, hb2⟩
  go_wp2_with fail
  refine (cA.out _).mono ?_
  rintro e w3 ⟨rfl, hb3⟩
  go_wp2_with fail
  refine (cQ.out _).mono ?_
  rintro e w' ⟨rfl, rfl⟩
  go_wp2_with fail
  refine (cB.out _).mono ?_
  rintro e w4 ⟨rfl, hb4⟩
  have hb := hb1.trans ((hb2.trans ((hb3.trans (hb4.mono hb3.size)).mono hb2.size)).mono hb1.size)
  clear hb1 hb2 hb3 hb4
  go_wp2
  go_ret
  exact ⟨by simp, hb⟩
end Go.Proofs.Ytdjeedmiicagcaa.Ref3
