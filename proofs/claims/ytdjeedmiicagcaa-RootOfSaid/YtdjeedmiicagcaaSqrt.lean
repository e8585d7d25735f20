/- Plain arithmetic: the whole root of a number, and what makes it one. Nothing of the program is in sight. No conditions. -/
namespace Go.Proofs.Ytdjeedmiicagcaa.Sqrt

theorem sq_le {a b : Nat} (h : a ≤ b) : a * a ≤ b * b := Nat.mul_le_mul h h
theorem sq_lt {a b : Nat} (h : a * a < b * b) : a < b := by
  rcases Nat.lt_or_ge a b with h' | h'
  · exact h'
  · have := sq_le h'; omega

/-- the greatest number whose square is not above n -/
def isq : Nat → Nat
  | 0 => 0
  | n + 1 => if (isq n + 1) * (isq n + 1) ≤ n + 1 then isq n + 1 else isq n

theorem isq_zero : isq 0 = 0 := rfl
theorem isq_succ (n : Nat) : isq (n + 1) = if (isq n + 1) * (isq n + 1) ≤ n + 1 then isq n + 1 else isq n := rfl
attribute [irreducible] isq
theorem isq_spec (n : Nat) : isq n * isq n ≤ n ∧ n < (isq n + 1) * (isq n + 1) := by
  induction n with
  | zero => rw [isq_zero]; omega
  | succ n ih =>
    rw [isq_succ]
    split
    · refine ⟨by assumption, ?_⟩
      have h1 : (isq n + 1 + 1) * (isq n + 1 + 1) = (isq n + 1) * (isq n + 1) + 2 * isq n + 3 := by
        simp only [Nat.add_mul, Nat.mul_add]; omega
      omega
    · exact ⟨by omega, by omega⟩

theorem isq_eq {n r : Nat} (h1 : r * r ≤ n) (h2 : n < (r + 1) * (r + 1)) : isq n = r := by
  obtain ⟨a, b⟩ := isq_spec n
  have c : isq n < r + 1 := sq_lt (by omega)
  have d : r < isq n + 1 := sq_lt (by omega)
  omega
theorem isq_mono {n m : Nat} (h : n ≤ m) : isq n ≤ isq m := by
  obtain ⟨a, _⟩ := isq_spec n
  obtain ⟨_, b⟩ := isq_spec m
  have c : isq n < isq m + 1 := sq_lt (by omega)
  omega
theorem isq_lt {n : Nat} (h : n < 18446744073709551616) : isq n < 4294967296 := by
  obtain ⟨a, _⟩ := isq_spec n
  exact sq_lt (by omega)
theorem isq_sq (n : Nat) : isq (n * n) = n := isq_eq (Nat.le_refl _) (by simp only [Nat.add_mul, Nat.mul_add]; omega)
theorem isq_sq_succ {n : Nat} (h : 0 < n) : isq (n * n + 1) = n := isq_eq (by omega) (by simp only [Nat.add_mul, Nat.mul_add]; omega)
theorem isq_sq_pred {n : Nat} (h : 0 < n) : isq (n * n - 1) = n - 1 := by
  obtain ⟨m, rfl⟩ : ∃ m, n = m + 1 := ⟨n - 1, by omega⟩
  refine isq_eq ?_ ?_
  · rw [Nat.add_sub_cancel]; simp only [Nat.add_mul, Nat.mul_add]; omega
  · rw [Nat.add_sub_cancel]
    have : 0 < (m + 1) * (m + 1) := Nat.mul_pos (by omega) (by omega)
    omega

/-- how far the squares are below and above -/
def bel (n : Nat) : Nat := n - isq n * isq n
def abv (n : Nat) : Nat := if isq n < 4294967295 then (isq n + 1) * (isq n + 1) - n else 0
theorem bel_cast (n : Nat) : ((bel n : Nat) : Int) = (n : Int) - (isq n : Int) * (isq n : Int) := by
  obtain ⟨a, _⟩ := isq_spec n
  unfold bel
  rw [Int.ofNat_sub a, Int.natCast_mul]
theorem abv_cast {n : Nat} (h : isq n < 4294967295) : ((abv n : Nat) : Int) = ((isq n : Int) + 1) * ((isq n : Int) + 1) - (n : Int) := by
  obtain ⟨_, b⟩ := isq_spec n
  unfold abv
  rw [if_pos h, Int.ofNat_sub (Nat.le_of_lt b), Int.natCast_mul]; rfl
theorem abv_top {n : Nat} (h : ¬ isq n < 4294967295) : abv n = 0 := by unfold abv; rw [if_neg h]
theorem bel_zero {n : Nat} : bel n = 0 ↔ n = isq n * isq n := by
  obtain ⟨a, _⟩ := isq_spec n
  unfold bel; omega
theorem bel_sq (n : Nat) : bel (n * n) = 0 := by rw [bel_zero, isq_sq]
theorem bel_sq_succ {n : Nat} (h : 0 < n) : bel (n * n + 1) ≠ 0 := by
  intro e; rw [bel_zero, isq_sq_succ h] at e; omega
theorem sq_bd {r : Nat} (h : r < 4294967296) : r * r < 18446744073709551616 := by have := sq_le (show r ≤ 4294967295 by omega); omega
end Go.Proofs.Ytdjeedmiicagcaa.Sqrt
