/- The walks of package root (layer 3): Root gives the whole root of any number of 64 bits, Near the two distances, Square whether it is a square. No conditions beyond 64 bits. -/
import Derived.Test.YtdjeedmiicagcaaRows
import Derived.Test.YtdjeedmiicagcaaSqrt
import Derived.WalkKit
import Derived.Lib.Hide
import Derived.IntWalk
namespace Go.Proofs.Ytdjeedmiicagcaa.RootW
open Go.RowKit
open Go.Proofs.Ytdjeedmiicagcaa.Sqrt

/-- what holds at the head of each round: r is below the root, and the bit is what is still missing at most by half -/
def Inv (n r b : Nat) : Prop := r * r ≤ n ∧ ((∃ k, k ≤ 31 ∧ b = 2 ^ k ∧ n < (r + 2 * b) * (r + 2 * b) ∧ r + 2 * b ≤ 4294967296) ∨ (b = 0 ∧ n < (r + 1) * (r + 1) ∧ r < 4294967296))

theorem inv_start {n : Nat} (h : n < 18446744073709551616) : Inv n 0 2147483648 := ⟨by omega, .inl ⟨31, by omega, by decide, by omega, by omega⟩⟩
theorem inv_done {n r : Nat} (h : Inv n r 0) : isq n = r := by
  obtain ⟨h1, ⟨k, _, hk, _⟩ | ⟨_, h2, _⟩⟩ := h
  · have : 0 < 2 ^ k := Nat.pow_pos (by omega)
    omega
  · exact isq_eq h1 h2
theorem inv_pos {n r b : Nat} (h : Inv n r b) (hb : 0 < b) : r + b < 4294967296 ∧ b ≤ 2147483648 := by
  obtain ⟨_, ⟨k, hk, hb', _, h2⟩ | ⟨h0, _, _⟩⟩ := h
  · have : 2 ^ k ≤ 2 ^ 31 := Nat.pow_le_pow_right (by omega) hk
    omega
  · omega
theorem inv_step {n r b r' : Nat} (h : Inv n r b) (hb : 0 < b) (hr : ((r + b) * (r + b) ≤ n ∧ r' = r + b) ∨ (n < (r + b) * (r + b) ∧ r' = r)) : Inv n r' (b / 2) := by
  obtain ⟨h1, ⟨k, hk, hb', h2, h3⟩ | ⟨h0, _, _⟩⟩ := h
  · refine ⟨by rcases hr with ⟨a, rfl⟩ | ⟨a, rfl⟩ <;> assumption, ?_⟩
    have hn : n < (r' + b) * (r' + b) ∧ r' + b ≤ 4294967296 := by
      rcases hr with ⟨a, rfl⟩ | ⟨a, rfl⟩
      · exact ⟨by rw [show r + b + b = r + 2 * b by omega]; exact h2, by omega⟩
      · exact ⟨a, by omega⟩
    rcases Nat.eq_zero_or_pos k with h0 | h0
    · subst h0
      have : b = 1 := by simpa using hb'
      subst this
      exact .inr ⟨rfl, hn.1, by omega⟩
    · obtain ⟨j, rfl⟩ : ∃ j, k = j + 1 := ⟨k - 1, by omega⟩
      have e : b = 2 * 2 ^ j := by rw [hb', Nat.pow_succ]; omega
      have e2 : b / 2 = 2 ^ j := by omega
      refine .inl ⟨j, by omega, e2, ?_, ?_⟩
      · rw [show 2 * (b / 2) = b by omega]; exact hn.1
      · omega
  · omega

set_option maxHeartbeats 1000000 in
theorem root_any (n : Nat) (hn : n < 18446744073709551616) (w : World) : Calls Try.prog 15 #[.int .u64 n] w fun e w' => e = .returned (.int .u64 (isq n)) ∧ w = w' := by
  go_enter Try.func15, Try.ntmps15
  go_wp2
  go_step3
  go_wp2
  go_step3
  go_wp2
  go_loop [3, 4] (fun r b => ∃ r' b' : Nat, r = .int .u64 r' ∧ b = .int .u64 b' ∧ Inv n r' b') (fun _ b => (intOf b).toNat)
  case atStart => exact ⟨0, 2147483648, rfl, rfl, inv_start hn⟩
  case round =>
    obtain ⟨r, b, rfl, rfl, hI⟩ := hrel
    rcases Nat.eq_zero_or_pos b with h0 | hb
    · subst h0
      have hd := inv_done hI
      clear hI
      go_wp2
      go_ret
      exact ⟨by rw [hd]; rfl, rfl⟩
    · have hp := inv_pos hI hb
      obtain ⟨hp1, hp2⟩ := hp
      have hsq : (r + b) * (r + b) < 18446744073709551616 := by
        have := sq_le (show r + b ≤ 4294967295 by omega); omega
      have hc : (((r + b) * (r + b) : Nat) : Int) = ((r : Int) + b) * ((r : Int) + b) := by simp
      have hwr : IntKind.u64.wrap (((r : Int) + b) * ((r : Int) + b)) = ((r : Int) + b) * ((r : Int) + b) := IntWalk.u64_in _ (by rw [← hc]; omega)
      clear hsq
      by_cases hle : (r + b) * (r + b) ≤ n
      · have hle' : ((r : Int) + b) * ((r : Int) + b) ≤ n := by rw [← hc]; omega
        clear hc
        go_wp2
        exact ⟨⟨r + b, b / 2, by go_num, by go_num, inv_step hI hb (.inl ⟨hle, rfl⟩)⟩, by simp [intOf]; omega⟩
      · have hle' : n < ((r : Int) + b) * ((r : Int) + b) := by rw [← hc]; omega
        clear hc
        go_wp2
        exact ⟨⟨r, b / 2, by go_num, by go_num, inv_step hI hb (.inr ⟨by omega, rfl⟩)⟩, by simp [intOf]; omega⟩

set_option maxHeartbeats 1000000 in
theorem near_any (n : Nat) (hn : n < 18446744073709551616) (w : World) :
    Calls Try.prog 16 #[.int .u64 n] w fun e w' => e = .returned (.tuple #[.int .u64 (bel n), .int .u64 (abv n)]) ∧ w = w' := by
  have hc1 := bel_cast n
  have hc2 := @abv_cast n
  have hc3 := @abv_top n
  have h1 := (isq_spec n).1
  have h2 := (isq_spec n).2
  have hlt := isq_lt hn
  have hR := Lib.hid (root_any n hn)
  generalize isq n = r at *
  have hb1 := sq_bd hlt
  have m1 : ((r * r : Nat) : Int) = (r : Int) * r := by simp
  have m2 : (((r + 1) * (r + 1) : Nat) : Int) = ((r : Int) + 1) * (r + 1) := by simp
  have e1 : IntKind.u64.wrap ((r : Int) * r) = (r : Int) * r := IntWalk.u64_in _ (by rw [← m1]; omega)
  have e2 : IntKind.u64.wrap ((n : Int) - (r : Int) * r) = (n : Int) - (r : Int) * r := IntWalk.u64_in _ (by rw [← m1]; omega)
  have H1 := Lib.hid hc1
  clear hc1
  by_cases hr : r < 4294967295
  · have hb2 := sq_bd (show r + 1 < 4294967296 by omega)
    have e3 : IntKind.u64.wrap (((r : Int) + 1) * (r + 1)) = ((r : Int) + 1) * (r + 1) := IntWalk.u64_in _ (by rw [← m2]; omega)
    have e4 : IntKind.u64.wrap (((r : Int) + 1) * (r + 1) - n) = ((r : Int) + 1) * (r + 1) - n := IntWalk.u64_in _ (by rw [← m2]; omega)
    have H2 := Lib.hid (hc2 hr)
    clear hc2 hc3 hb1 hb2 m1 m2 hn h1 h2
    have hd : decide ((r : Int) < 4294967295) = true := by simp; omega
    clear hr
    go_enter Try.func16, Try.ntmps16
    go_wp2_with (go_at_call 15; refine (hR.out _).mono ?_; rintro e w' ⟨rfl, rfl⟩)
    go_ret2
    exact ⟨by rw [H1.out, H2.out]; rfl, rfl⟩
  · have H2 := Lib.hid (hc3 hr)
    clear hc2 hc3 hb1 m1 m2 hn h1 h2
    have hd : decide ((r : Int) < 4294967295) = false := by simp; omega
    clear hr
    go_enter Try.func16, Try.ntmps16
    go_wp2_with (go_at_call 15; refine (hR.out _).mono ?_; rintro e w' ⟨rfl, rfl⟩)
    go_ret2
    exact ⟨by rw [H1.out, H2.out]; rfl, rfl⟩

theorem root_15 (w : World) : Calls Try.prog 15 #[.int .u64 15] w fun e w' => e = .returned (.int .u64 3) ∧ w = w' := by
  have h := root_any 15 (by omega) w
  rw [isq_eq (n := 15) (r := 3) (by omega) (by omega)] at h
  exact h
theorem root_top (w : World) : Calls Try.prog 15 #[.int .u64 18446744073709551615] w fun e w' => e = .returned (.int .u64 4294967295) ∧ w = w' := by
  have h := root_any 18446744073709551615 (by omega) w
  rw [isq_eq (n := 18446744073709551615) (r := 4294967295) (by omega) (by omega)] at h
  exact h
theorem near_10 (w : World) : Calls Try.prog 16 #[.int .u64 10] w fun e w' => e = .returned (.tuple #[.int .u64 1, .int .u64 6]) ∧ w = w' := by
  have h := near_any 10 (by omega) w
  have e := isq_eq (n := 10) (r := 3) (by omega) (by omega)
  have e1 : bel 10 = 1 := by unfold bel; rw [e]
  have e2 : abv 10 = 6 := by unfold abv; rw [e, if_pos (by omega)]
  rw [e1, e2] at h
  exact h

theorem awake_any (w : World) : Calls Try.prog 14 #[] w fun e w' => e = .returned (.bool true) ∧ w = w' := by
  go_enter Try.func14, Try.ntmps14
  go_wp2_with fail
  refine (near_10 _).mono ?_
  rintro e w' ⟨rfl, rfl⟩
  go_wp2_with fail
  refine (root_15 _).mono ?_
  rintro e w' ⟨rfl, rfl⟩
  go_wp2_with fail
  refine (root_top _).mono ?_
  rintro e w' ⟨rfl, rfl⟩
  go_wp2_with fail
  go_ret
  exact ⟨rfl, rfl⟩

theorem square_any (n : Nat) (hn : n < 18446744073709551616) (w : World) :
    Calls Try.prog 20 #[.int .u64 n] w fun e w' => e = .returned (.bool ((bel n : Int) == 0)) ∧ w = w' := by
  have hR := Lib.hid (near_any n hn)
  clear hn
  go_enter Try.func20, Try.ntmps20
  go_wp2_with (go_at_call 16; refine (hR.out _).mono ?_; rintro e w' ⟨rfl, rfl⟩)
  go_ret
  exact ⟨rfl, rfl⟩
end Go.Proofs.Ytdjeedmiicagcaa.RootW
