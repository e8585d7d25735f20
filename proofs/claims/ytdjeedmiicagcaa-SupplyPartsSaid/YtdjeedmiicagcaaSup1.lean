/- The walks of the supply, first part: balances, good, within, Total. Conditions: rows are read rightly and are not too long. -/
import Derived.Test.YtdjeedmiicagcaaPool8
namespace Go.Proofs.Ytdjeedmiicagcaa.SupplyW
open Go.RowKit
open Go.Proofs.Ytdjeedmiicagcaa.Words Go.Proofs.Ytdjeedmiicagcaa.NatW Go.Proofs.Ytdjeedmiicagcaa.PurseW Go.Proofs.Ytdjeedmiicagcaa.PoolW

/-- are sums of some within a bound? -/
def withinB (most : Nat) (us : List Nat) : Bool := decide (us.sum ≤ most) && decide (us.sum < 18446744073709551616)
theorem within_any (A : Option Addr) (n c L most : Nat) (us : List Nat) (w : World) (h : URow w L A n us) (hn : n ≤ 1000) (r : Nat × Int) (hr : sumr us r) (b : Bool) (hb : b = (decide (r.2 = 0) && decide (r.1 ≤ most))) :
    Calls Try.prog 70 #[.int .u64 most, .slice A n c] w fun e w' => e = .returned (.bool b) ∧ w = w' := by
  have HM := Lib.hid (msum_any A n c L us w h hn r hr)
  obtain ⟨s, z⟩ := r
  by_cases hz : z = 0
  · subst hz
    by_cases hs : s ≤ most
    · have e1 : decide (s ≤ most) = true := by simpa using hs
      obtain rfl : b = true := by rw [hb]; simp [hs]
      clear hr hb h
      go_enter Try.func70, Try.ntmps70
      go_wp2_with fail
      refine HM.out.mono ?_
      rintro e w' ⟨rfl, rfl⟩
      go_wp2
      go_ret
      exact ⟨rfl, rfl⟩
    · have e1 : decide (s ≤ most) = false := by simpa using hs
      obtain rfl : b = false := by rw [hb]; simp [hs]
      clear hr hb h
      go_enter Try.func70, Try.ntmps70
      go_wp2_with fail
      refine HM.out.mono ?_
      rintro e w' ⟨rfl, rfl⟩
      go_wp2
      go_ret
      exact ⟨rfl, rfl⟩
  · have e1 : ((z : Int) == 0) = false := by rw [beq_eq_false_iff_ne]; exact hz
    obtain rfl : b = false := by rw [hb]; simp [hz]
    clear hr hb h
    go_enter Try.func70, Try.ntmps70
    go_wp2_with fail
    refine HM.out.mono ?_
    rintro e w' ⟨rfl, rfl⟩
    go_wp2
    go_ret
    exact ⟨rfl, rfl⟩
/-- is there no error among some? -/
theorem good_any (A : Option Addr) (n c L : Nat) (zs : List Int) (w : World) (hl : zs.length = n) (h : Rd w L A n (fun j => .int .i64 (zs.getD j 0))) (hn : n ≤ 1000) (b : Bool) (hb : b = zs.all (fun z => decide (z = 0))) :
    Calls Try.prog 69 #[.slice A n c] w fun e w' => e = .returned (.bool b) ∧ w = w' := by
  have HR := Lib.hid h
  have HB := Lib.hid hb
  have HL := Lib.hid hl
  clear h hb hl
  go_enter Try.func69, Try.ntmps69
  go_wp2
  go_loop [7] (fun kv => ∃ k : Nat, kv = .int .i64 k ∧ k ≤ n ∧ ∀ j, j < k → zs.getD j 0 = 0) (fun kv => n - (intOf kv).toNat)
  case atStart => exact ⟨0, rfl, Nat.zero_le _, fun j hj => by omega⟩
  case round =>
    obtain ⟨k, rfl, hk, hal⟩ := hrel
    have HAl := Lib.hid hal
    clear hal
    by_cases hlt : k < n
    · have d1 : decide (k < n) = true := by simpa using hlt
      obtain ⟨ad, rfl, _, hc⟩ := HR.out k hlt
      obtain ⟨z, hz⟩ : ∃ z, zs.getD k 0 = z := ⟨_, rfl⟩
      have HZ := Lib.hid hz
      simp only [hz] at hc
      clear hz
      by_cases h0 : z = 0
      · have d2 : ((z : Int) == 0) = true := by simpa using h0
        have d3 : ((z : Int) != 0) = false := by simpa using h0
        have HN := Lib.hid (show ∀ j, j < k + 1 → zs.getD j 0 = 0 from fun j hj => by
          rcases Nat.lt_or_ge j k with h1 | h1
          · exact HAl.out j h1
          · obtain rfl : j = k := by omega
            rw [HZ.out]; exact h0)
        clear h0
        go_wp2
        exact ⟨⟨k + 1, by go_num, by omega, HN.out⟩, by simp [intOf]; omega⟩
      · have d2 : ((z : Int) == 0) = false := by simpa using h0
        have d3 : ((z : Int) != 0) = true := by simpa using h0
        obtain rfl : b = false := by
          rw [HB.out, List.all_eq_false]
          refine ⟨z, ?_, by simpa using h0⟩
          have hk2 : k < zs.length := by rw [HL.out]; exact hlt
          rw [← HZ.out, List.getD_eq_getElem?_getD, List.getElem?_eq_getElem hk2]
          exact List.getElem_mem hk2
        go_wp2
        go_ret
        exact ⟨rfl, rfl⟩
    · have d1 : decide (k < n) = false := by simpa using hlt
      obtain rfl : b = true := by
        rw [HB.out, List.all_eq_true]
        intro z hz
        obtain ⟨j, hj⟩ := List.getElem?_of_mem hz
        have hj2 := (List.getElem?_eq_some_iff.1 hj).1
        have := HAl.out j (by rw [HL.out] at hj2; omega)
        rw [List.getD_eq_getElem?_getD, hj] at this
        simpa using this
      go_wp2
      go_ret
      exact ⟨rfl, rfl⟩
end Go.Proofs.Ytdjeedmiicagcaa.SupplyW
