/- The walks of the three laws of layer 3 on roots, but RootOf: each returns true at any input and leaves memory as it was. No conditions beyond the integers' own widths. -/
import Derived.Test.YtdjeedmiicagcaaRoot
namespace Go.Proofs.Ytdjeedmiicagcaa.RootL
open Go.RowKit
open Go.Proofs.Ytdjeedmiicagcaa.Sqrt Go.Proofs.Ytdjeedmiicagcaa.RootW

set_option maxHeartbeats 1000000 in
theorem rises_any (n m : Nat) (hn : n < 18446744073709551616) (hm : m < 18446744073709551616) (w : World) :
    Calls Try.prog 3 #[.int .u64 n, .int .u64 m] w fun e w' => e = .returned (.bool true) ∧ w = w' := by
  have h1 := (isq_spec n).1
  have h2 := (isq_spec n).2
  have hlt := isq_lt hn
  have hmono : n ≤ m → isq n ≤ isq m := isq_mono
  have hR := Lib.hid (root_any n hn)
  have hS := Lib.hid (root_any m hm)
  generalize isq n = r at *
  generalize isq m = s at *
  have hb1 := sq_bd hlt
  have m1 : ((r * r : Nat) : Int) = (r : Int) * r := by simp
  have m2 : (((r + 1) * (r + 1) : Nat) : Int) = ((r : Int) + 1) * (r + 1) := by simp
  have e1 : IntKind.u64.wrap ((r : Int) * r) = (r : Int) * r := IntWalk.u64_in _ (by rw [← m1]; omega)
  have d1 : decide ((4294967295 : Int) < r) = false := by simp; omega
  have d2 : decide ((n : Int) < (r : Int) * r) = false := by rw [← m1]; simp; omega
  by_cases hr : r < 4294967295
  · have hb2 := sq_bd (show r + 1 < 4294967296 by omega)
    have e3 : IntKind.u64.wrap (((r : Int) + 1) * (r + 1)) = ((r : Int) + 1) * (r + 1) := IntWalk.u64_in _ (by rw [← m2]; omega)
    have d3 : decide ((r : Int) < 4294967295) = true := by simp; omega
    have d4 : decide (((r : Int) + 1) * (r + 1) ≤ n) = false := by rw [← m2]; simp; omega
    clear hb2
    by_cases hmn : m < n
    · have d5 : decide (m < n) = true := by simp; omega
      clear hb1 m1 m2 hn h1 h2 hm hmono hr hmn
      go_enter Try.func3, Try.ntmps3
      go_wp2_with fail
      refine (awake_any _).mono ?_
      rintro e w' ⟨rfl, rfl⟩
      go_wp2_with fail
      refine (hR.out _).mono ?_
      rintro e w' ⟨rfl, rfl⟩
      clear hR
      go_wp2_with fail
      go_ret
      exact ⟨rfl, rfl⟩
    · have d5 : decide (m < n) = false := by simp; omega
      have d6 : decide (r ≤ s) = true := by simp; exact hmono (by omega)
      clear hb1 m1 m2 hn h1 h2 hm hmono hr hmn
      go_enter Try.func3, Try.ntmps3
      go_wp2_with fail
      refine (awake_any _).mono ?_
      rintro e w' ⟨rfl, rfl⟩
      go_wp2_with fail
      refine (hR.out _).mono ?_
      rintro e w' ⟨rfl, rfl⟩
      clear hR
      go_wp2_with fail
      refine (hS.out _).mono ?_
      rintro e w' ⟨rfl, rfl⟩
      go_wp2_with fail
      go_ret
      exact ⟨rfl, rfl⟩
  · have d3 : decide ((r : Int) < 4294967295) = false := by simp; omega
    by_cases hmn : m < n
    · have d5 : decide (m < n) = true := by simp; omega
      clear hb1 m1 m2 hn h1 h2 hm hmono hr hmn
      go_enter Try.func3, Try.ntmps3
      go_wp2_with fail
      refine (awake_any _).mono ?_
      rintro e w' ⟨rfl, rfl⟩
      go_wp2_with fail
      refine (hR.out _).mono ?_
      rintro e w' ⟨rfl, rfl⟩
      clear hR
      go_wp2_with fail
      go_ret
      exact ⟨rfl, rfl⟩
    · have d5 : decide (m < n) = false := by simp; omega
      have d6 : decide (r ≤ s) = true := by simp; exact hmono (by omega)
      clear hb1 m1 m2 hn h1 h2 hm hmono hr hmn
      go_enter Try.func3, Try.ntmps3
      go_wp2_with fail
      refine (awake_any _).mono ?_
      rintro e w' ⟨rfl, rfl⟩
      go_wp2_with fail
      refine (hR.out _).mono ?_
      rintro e w' ⟨rfl, rfl⟩
      clear hR
      go_wp2_with fail
      refine (hS.out _).mono ?_
      rintro e w' ⟨rfl, rfl⟩
      go_wp2_with fail
      go_ret
      exact ⟨rfl, rfl⟩

theorem root_int (x : Int) (k r : Nat) (hx : (k : Int) = x) (hk : k < 18446744073709551616) (hr : isq k = r) (w : World) :
    Calls Try.prog 15 #[.int .u64 x] w fun e w' => e = .returned (.int .u64 r) ∧ w = w' := by
  subst hx hr; exact root_any k hk w
theorem square_int (x : Int) (k : Nat) (b : Bool) (hx : (k : Int) = x) (hk : k < 18446744073709551616) (hb : ((bel k : Int) == 0) = b) (w : World) :
    Calls Try.prog 20 #[.int .u64 x] w fun e w' => e = .returned (.bool b) ∧ w = w' := by
  subst hx hb; exact square_any k hk w

set_option maxHeartbeats 1000000 in
theorem back_any (n : Nat) (hn : n < 4294967296) (w : World) :
    Calls Try.prog 5 #[.int .u32 n] w fun e w' => e = .returned (.bool true) ∧ w = w' := by
  have hb : n * n ≤ 18446744065119617025 := by have := sq_le (show n ≤ 4294967295 by omega); omega
  have m1 : ((n * n : Nat) : Int) = (n : Int) * n := by simp
  have e1 : IntKind.u64.wrap ((n : Int) * n) = (n : Int) * n := IntWalk.u64_in _ (by rw [← m1]; omega)
  have e2 : IntKind.u64.wrap ((n : Int) * n + 1) = (n : Int) * n + 1 := IntWalk.u64_in _ (by rw [← m1]; omega)
  have c1 := Lib.hid (root_int ((n : Int) * n) (n * n) n m1 (by omega) (isq_sq n))
  have c2 := Lib.hid (square_int ((n : Int) * n) (n * n) true m1 (by omega) (by rw [bel_sq]; rfl))
  have hu : n ≤ 4294967295 := by omega
  by_cases h0 : n = 0
  · have d0 : ((n : Int) == 0) = true := by simp; omega
    clear m1 hb h0 hn
    · go_enter Try.func5, Try.ntmps5
      go_wp2_with fail
      refine (awake_any _).mono ?_
      rintro e w' ⟨rfl, rfl⟩
      go_wp2_with fail
      refine (c1.out _).mono ?_
      rintro e w' ⟨rfl, rfl⟩
      go_wp2_with fail
      refine (c2.out _).mono ?_
      rintro e w' ⟨rfl, rfl⟩
      go_wp2_with fail
      go_ret
      exact ⟨rfl, rfl⟩
  · have d0 : ((n : Int) == 0) = false := by simp; omega
    have hp : 0 < n * n := Nat.mul_pos (by omega) (by omega)
    have e3 : IntKind.u64.wrap ((n : Int) * n - 1) = (n : Int) * n - 1 := IntWalk.u64_in _ (by rw [← m1]; omega)
    have e4 : IntKind.u64.wrap ((n : Int) - 1) = (n : Int) - 1 := IntWalk.u64_in _ (by omega)
    have c3 := Lib.hid (root_int ((n : Int) * n + 1) (n * n + 1) n (by rw [← m1]; omega) (by omega) (isq_sq_succ (by omega)))
    have c4 := Lib.hid (root_int ((n : Int) * n - 1) (n * n - 1) (n - 1) (by rw [← m1]; omega) (by omega) (isq_sq_pred (by omega)))
    have hc : (((n - 1 : Nat) : Nat) : Int) = (n : Int) - 1 := by omega
    have d4 : ((((n - 1 : Nat) : Nat) : Int) == (n : Int) - 1) = true := by rw [hc]; simp
    have hq : ((bel (n * n + 1) : Int) == 0) = false := by
      have := bel_sq_succ (show 0 < n by omega)
      rw [beq_eq_false_iff_ne]; omega
    have c5 := Lib.hid (square_int ((n : Int) * n + 1) (n * n + 1) false (by rw [← m1]; omega) (by omega) hq)
    clear hq hp m1 hb
    by_cases h1 : n = 1
    · have d1 : ((n : Int) == 1) = true := by simp; omega
      clear h0 hn hc h1
      go_enter Try.func5, Try.ntmps5
      go_wp2_with fail
      refine (awake_any _).mono ?_
      rintro e w' ⟨rfl, rfl⟩
      go_wp2_with fail
      refine (c1.out _).mono ?_
      rintro e w' ⟨rfl, rfl⟩
      go_wp2_with fail
      refine (c2.out _).mono ?_
      rintro e w' ⟨rfl, rfl⟩
      go_wp2_with fail
      refine (c3.out _).mono ?_
      rintro e w' ⟨rfl, rfl⟩
      go_wp2_with fail
      refine (c4.out _).mono ?_
      rintro e w' ⟨rfl, rfl⟩
      go_wp2_with fail
      go_ret
      exact ⟨rfl, rfl⟩
    · have d1 : ((n : Int) == 1) = false := by simp; omega
      clear h0 hn hc h1
      go_enter Try.func5, Try.ntmps5
      go_wp2_with fail
      refine (awake_any _).mono ?_
      rintro e w' ⟨rfl, rfl⟩
      go_wp2_with fail
      refine (c1.out _).mono ?_
      rintro e w' ⟨rfl, rfl⟩
      go_wp2_with fail
      refine (c2.out _).mono ?_
      rintro e w' ⟨rfl, rfl⟩
      go_wp2_with fail
      refine (c3.out _).mono ?_
      rintro e w' ⟨rfl, rfl⟩
      go_wp2_with fail
      refine (c4.out _).mono ?_
      rintro e w' ⟨rfl, rfl⟩
      go_wp2_with fail
      refine (c5.out _).mono ?_
      rintro e w' ⟨rfl, rfl⟩
      go_wp2_with fail
      go_ret
      exact ⟨rfl, rfl⟩
end Go.Proofs.Ytdjeedmiicagcaa.RootL
