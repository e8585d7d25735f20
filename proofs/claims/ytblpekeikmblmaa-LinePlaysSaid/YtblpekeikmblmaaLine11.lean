/- The walks of the line, eleventh part: the document's Find. Conditions: rows are read rightly and are not too long. -/
import Derived.Test.YtblpekeikmblmaaLine10
namespace Go.Proofs.Ytblpekeikmblmaa.LineW
open Go.RowKit
open Go.Proofs.Ytblpekeikmblmaa.Words

theorem rfind_any (A : Option Addr) (n c L : Nat) (x : Int) (zs : List Int) (w : World) (hl : zs.length = n) (hr : Rd w L A n (fun j => .int .i64 (zs.getD j 0))) (hn : n ≤ 1000000) :
    Calls Try.prog 49 #[.slice A n c, .int .i64 x] w fun e w' => e = .returned (.int .i64 (Lib.idxOf zs x)) ∧ w = w' := by
  have HH := Lib.hid (fun k (hk : k < n) (h1 : zs.getD k 0 = x) (h2 : ∀ j, j < k → zs.getD j 0 ≠ x) => by
    have := Lib.idxOf_hit zs zs.length k x (by omega) (Nat.le_refl _) h1 h2
    rwa [List.take_of_length_le (Nat.le_refl _)] at this)
  have HM := Lib.hid (fun (h : ∀ j, j < n → zs.getD j 0 ≠ x) => by
    have := Lib.idxOf_miss zs zs.length x (by rw [hl]; exact h)
    rwa [List.take_of_length_le (Nat.le_refl _)] at this)
  clear hl
  go_enter Try.func49, Try.ntmps49
  go_wp2
  go_loop [5] (fun iv => ∃ k : Nat, iv = .int .i64 k ∧ k ≤ n ∧ ∀ j, j < k → zs.getD j 0 ≠ x) (fun iv => n - (intOf iv).toNat)
  case atStart => exact ⟨0, rfl, Nat.zero_le _, fun j hj => by omega⟩
  case round =>
    obtain ⟨k, rfl, hk, hno⟩ := hrel
    have HNo := Lib.hid hno
    clear hno
    by_cases hlt : k < n
    · have d1 : decide (k < n) = true := by simpa using hlt
      obtain ⟨ad, rfl, _, hc⟩ := hr k hlt
      have hc' := hc
      simp only at hc'
      clear hc hr
      obtain ⟨y, hy⟩ : ∃ y, y = zs.getD k 0 := ⟨_, rfl⟩
      rw [← hy] at hc'
      have HY := Lib.hid hy
      clear hy
      by_cases e : y = x
      · have d2 : (y == x) = true := by simp [e]
        have HV := Lib.hid (HH.out k hlt (by rw [← HY.out]; exact e) HNo.out)
        clear e
        go_wp2
        go_ret
        exact ⟨by rw [HV.out] <;> rfl, rfl⟩
      · have d2 : (y == x) = false := by simp [e]
        have HE := Lib.hid e
        clear e
        go_wp2
        exact ⟨⟨k + 1, by go_num, by omega, fun j hj => by
          by_cases h' : j = k
          · rw [h', ← HY.out]; exact HE.out
          · exact HNo.out j (by omega)⟩, by simp [intOf]; omega⟩
    · have d1 : decide (k < n) = false := by simpa using hlt
      obtain rfl : k = n := by omega
      have HV := Lib.hid (HM.out HNo.out)
      clear hr
      go_wp2
      go_ret
      exact ⟨by rw [HV.out] <;> rfl, rfl⟩
end Go.Proofs.Ytblpekeikmblmaa.LineW
