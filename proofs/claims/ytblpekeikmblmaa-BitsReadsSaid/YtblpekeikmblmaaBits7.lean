/- The walks of the laws of layer 6, seventh part: BitsReads. Conditions: rows are read rightly. -/
import Derived.Test.YtblpekeikmblmaaBits6
namespace Go.Proofs.Ytblpekeikmblmaa.BitsW
open Go.RowKit
open Go.Proofs.Ytblpekeikmblmaa.Words Go.Proofs.Ytblpekeikmblmaa.Bit

set_option maxHeartbeats 2000000 in
set_option maxRecDepth 100000 in
theorem reads_low (A : Option Addr) (n c : Nat) (i : Int) (hi : i < -1) (j : Int) (bs : List Nat) (w : World) (h : BRow w w.heap.size A n bs) (hn : n ≤ 100) (hj : j ≤ 9223372036854775807) :
    Calls Try.prog 6 #[.slice A n c, .int .i64 i, .int .i64 j] w fun e w' => e = .returned (.bool true) ∧ Below w.heap.size w w' := by
  have dn : decide ((100 : Int) < n) = false := by simp; omega
  have HR := Lib.hid (show ¬ Right bs i from fun h => by have := h.1; omega)
  have HC := Lib.hid (show ¬ Right bs (-1) from fun h => by have := h.1; omega)
  go_enter Try.func6, Try.ntmps6
  go_wp2_with fail
  refine (awake6 _).mono ?_
  rintro e w1 ⟨rfl, hb1⟩
  have hr1 := h.to hb1
  go_wp2_with fail
  refine (unpack_bad A n c _ bs _ hr1 HR.out (by omega)).mono ?_
  rintro e w' ⟨rfl, rfl⟩
  have hr2 := hr1
  clear h hr1
  go_wp2_with fail
  rw [show max (min i 300) (-1 : Int) = -1 from by omega]
  refine (rright_no A n c _ _ bs _ hr2 HC.out).mono ?_
  rintro e w' ⟨rfl, rfl⟩
  go_wp2_with fail
  refine (check_bad A n c _ i bs _ hr2 HR.out (by omega)).mono ?_
  rintro e w' ⟨rfl, rfl⟩
  go_wp2
  go_loop [10, 56] (fun s kv => ∃ k : Nat, kv = .int .i64 k ∧ k ≤ 8 * n ∧ s = .int .i64 (cb (bit bs) k : Nat)) (fun _ kv => 8 * n - (intOf kv).toNat)
  case atStart => exact ⟨0, rfl, Nat.zero_le _, rfl⟩
  case round =>
    obtain ⟨k, rfl, hk, rfl⟩ := hrel
    have hle := cb_le (bit bs) k
    by_cases hlt : k < 8 * n
    · have d9 : decide ((k : Int) < 8 * (n : Int)) = true := by simp; omega
      have g2 := rget_any A n c _ k bs _ hr2 (by omega) (by omega)
      rw [bitI_nat] at g2
      have G2 := Lib.hid g2
      have HS := Lib.hid (show cb (bit bs) (k + 1) = cb (bit bs) k + if bit bs k then 1 else 0 from rfl)
      clear g2
      cases hbk : bit bs k
      all_goals
        rw [hbk] at G2 HS
        clear hbk
        generalize cb (bit bs) k = z at *
        go_wp2_with fail
        refine G2.out.mono ?_
        rintro e w' ⟨rfl, rfl⟩
        go_wp2
        exact ⟨⟨k + 1, by go_num, by omega, by rw [HS.out]; first | rfl | go_num⟩, by simp [intOf]; omega⟩
    · have d9 : decide ((k : Int) < 8 * (n : Int)) = false := by simp; omega
      obtain rfl : k = 8 * n := by omega
      clear hle
      go_wp2_with fail
      refine (get_any A n c _ j bs _ hr2 (by omega) hj).mono ?_
      rintro e w' ⟨rfl, q, rfl⟩
      go_wp2_with fail
      refine (rget_any A n c _ j bs (w1.drewN q) hr2 (by omega) hj).mono ?_
      rintro e w' ⟨rfl, rfl⟩
      go_wp2_with fail
      refine (count_any A n c _ bs (w1.drewN q) hr2 (by omega)).mono ?_
      rintro e w' ⟨rfl, rfl⟩
      go_wp2
      go_ret
      exact ⟨by simp, below_drewN hb1 q⟩

set_option maxHeartbeats 2000000 in
set_option maxRecDepth 100000 in
theorem reads_mid (A : Option Addr) (n c : Nat) (i : Int) (hi : -1 ≤ i) (hi2 : i ≤ 300) (j : Int) (bs : List Nat) (hR : ¬ Right bs i) (w : World) (h : BRow w w.heap.size A n bs) (hn : n ≤ 100) (hj : j ≤ 9223372036854775807) :
    Calls Try.prog 6 #[.slice A n c, .int .i64 i, .int .i64 j] w fun e w' => e = .returned (.bool true) ∧ Below w.heap.size w w' := by
  have dn : decide ((100 : Int) < n) = false := by simp; omega
  have HR := Lib.hid hR
  have HC := Lib.hid hR
  clear hR
  go_enter Try.func6, Try.ntmps6
  go_wp2_with fail
  refine (awake6 _).mono ?_
  rintro e w1 ⟨rfl, hb1⟩
  have hr1 := h.to hb1
  go_wp2_with fail
  refine (unpack_bad A n c _ bs _ hr1 HR.out (by omega)).mono ?_
  rintro e w' ⟨rfl, rfl⟩
  have hr2 := hr1
  clear h hr1
  go_wp2_with fail
  rw [show max (min i 300) (-1 : Int) = i from by omega]
  refine (rright_no A n c _ _ bs _ hr2 HC.out).mono ?_
  rintro e w' ⟨rfl, rfl⟩
  go_wp2_with fail
  refine (check_bad A n c _ i bs _ hr2 HR.out (by omega)).mono ?_
  rintro e w' ⟨rfl, rfl⟩
  go_wp2
  go_loop [10, 56] (fun s kv => ∃ k : Nat, kv = .int .i64 k ∧ k ≤ 8 * n ∧ s = .int .i64 (cb (bit bs) k : Nat)) (fun _ kv => 8 * n - (intOf kv).toNat)
  case atStart => exact ⟨0, rfl, Nat.zero_le _, rfl⟩
  case round =>
    obtain ⟨k, rfl, hk, rfl⟩ := hrel
    have hle := cb_le (bit bs) k
    by_cases hlt : k < 8 * n
    · have d9 : decide ((k : Int) < 8 * (n : Int)) = true := by simp; omega
      have g2 := rget_any A n c _ k bs _ hr2 (by omega) (by omega)
      rw [bitI_nat] at g2
      have G2 := Lib.hid g2
      have HS := Lib.hid (show cb (bit bs) (k + 1) = cb (bit bs) k + if bit bs k then 1 else 0 from rfl)
      clear g2
      cases hbk : bit bs k
      all_goals
        rw [hbk] at G2 HS
        clear hbk
        generalize cb (bit bs) k = z at *
        go_wp2_with fail
        refine G2.out.mono ?_
        rintro e w' ⟨rfl, rfl⟩
        go_wp2
        exact ⟨⟨k + 1, by go_num, by omega, by rw [HS.out]; first | rfl | go_num⟩, by simp [intOf]; omega⟩
    · have d9 : decide ((k : Int) < 8 * (n : Int)) = false := by simp; omega
      obtain rfl : k = 8 * n := by omega
      clear hle
      go_wp2_with fail
      refine (get_any A n c _ j bs _ hr2 (by omega) hj).mono ?_
      rintro e w' ⟨rfl, q, rfl⟩
      go_wp2_with fail
      refine (rget_any A n c _ j bs (w1.drewN q) hr2 (by omega) hj).mono ?_
      rintro e w' ⟨rfl, rfl⟩
      go_wp2_with fail
      refine (count_any A n c _ bs (w1.drewN q) hr2 (by omega)).mono ?_
      rintro e w' ⟨rfl, rfl⟩
      go_wp2
      go_ret
      exact ⟨by simp, below_drewN hb1 q⟩

set_option maxHeartbeats 2000000 in
set_option maxRecDepth 100000 in
theorem reads_high (A : Option Addr) (n c : Nat) (i : Int) (hi : 300 < i) (j : Int) (bs : List Nat) (w : World) (h : BRow w w.heap.size A n bs) (hn : n ≤ 100) (hj : j ≤ 9223372036854775807) :
    Calls Try.prog 6 #[.slice A n c, .int .i64 i, .int .i64 j] w fun e w' => e = .returned (.bool true) ∧ Below w.heap.size w w' := by
  have dn : decide ((100 : Int) < n) = false := by simp; omega
  have HR := Lib.hid (show ¬ Right bs i from fun h => by have := h.2.1; omega)
  have HC := Lib.hid (show ¬ Right bs 300 from fun h => by have := h.2.1; omega)
  go_enter Try.func6, Try.ntmps6
  go_wp2_with fail
  refine (awake6 _).mono ?_
  rintro e w1 ⟨rfl, hb1⟩
  have hr1 := h.to hb1
  go_wp2_with fail
  refine (unpack_bad A n c _ bs _ hr1 HR.out (by omega)).mono ?_
  rintro e w' ⟨rfl, rfl⟩
  have hr2 := hr1
  clear h hr1
  go_wp2_with fail
  rw [show max (min i 300) (-1 : Int) = 300 from by omega]
  refine (rright_no A n c _ _ bs _ hr2 HC.out).mono ?_
  rintro e w' ⟨rfl, rfl⟩
  go_wp2_with fail
  refine (check_bad A n c _ i bs _ hr2 HR.out (by omega)).mono ?_
  rintro e w' ⟨rfl, rfl⟩
  go_wp2
  go_loop [10, 56] (fun s kv => ∃ k : Nat, kv = .int .i64 k ∧ k ≤ 8 * n ∧ s = .int .i64 (cb (bit bs) k : Nat)) (fun _ kv => 8 * n - (intOf kv).toNat)
  case atStart => exact ⟨0, rfl, Nat.zero_le _, rfl⟩
  case round =>
    obtain ⟨k, rfl, hk, rfl⟩ := hrel
    have hle := cb_le (bit bs) k
    by_cases hlt : k < 8 * n
    · have d9 : decide ((k : Int) < 8 * (n : Int)) = true := by simp; omega
      have g2 := rget_any A n c _ k bs _ hr2 (by omega) (by omega)
      rw [bitI_nat] at g2
      have G2 := Lib.hid g2
      have HS := Lib.hid (show cb (bit bs) (k + 1) = cb (bit bs) k + if bit bs k then 1 else 0 from rfl)
      clear g2
      cases hbk : bit bs k
      all_goals
        rw [hbk] at G2 HS
        clear hbk
        generalize cb (bit bs) k = z at *
        go_wp2_with fail
        refine G2.out.mono ?_
        rintro e w' ⟨rfl, rfl⟩
        go_wp2
        exact ⟨⟨k + 1, by go_num, by omega, by rw [HS.out]; first | rfl | go_num⟩, by simp [intOf]; omega⟩
    · have d9 : decide ((k : Int) < 8 * (n : Int)) = false := by simp; omega
      obtain rfl : k = 8 * n := by omega
      clear hle
      go_wp2_with fail
      refine (get_any A n c _ j bs _ hr2 (by omega) hj).mono ?_
      rintro e w' ⟨rfl, q, rfl⟩
      go_wp2_with fail
      refine (rget_any A n c _ j bs (w1.drewN q) hr2 (by omega) hj).mono ?_
      rintro e w' ⟨rfl, rfl⟩
      go_wp2_with fail
      refine (count_any A n c _ bs (w1.drewN q) hr2 (by omega)).mono ?_
      rintro e w' ⟨rfl, rfl⟩
      go_wp2
      go_ret
      exact ⟨by simp, below_drewN hb1 q⟩

set_option maxHeartbeats 2000000 in
set_option maxRecDepth 100000 in
theorem reads_yes (A : Option Addr) (n c i : Nat) (j : Int) (bs : List Nat) (hR : Right bs i) (w : World) (h : BRow w w.heap.size A n bs) (hn : n ≤ 100) (hj : j ≤ 9223372036854775807) :
    Calls Try.prog 6 #[.slice A n c, .int .i64 i, .int .i64 j] w fun e w' => e = .returned (.bool true) ∧ Below w.heap.size w w' := by
  have dn : decide ((100 : Int) < n) = false := by simp; omega
  have hi256 : i ≤ 256 := by have := hR.2.1; omega
  have HR := Lib.hid hR
  clear hR
  go_enter Try.func6, Try.ntmps6
  go_wp2_with fail
  refine (awake6 _).mono ?_
  rintro e w1 ⟨rfl, hb1⟩
  have hr1 := h.to hb1
  go_wp2_with fail
  refine (unpack_ok A n c i bs _ hr1 HR.out (by omega)).mono ?_
  rintro e w2 ⟨v, rfl, hown, hb2⟩
  obtain ⟨A2, c2, rfl, _, _, _, hrow2⟩ := lrow_of_own (unp_len _ _) hown
  have hr2 := hr1.to hb2
  have hbb := hb1.trans (hb2.mono hb1.size)
  clear h hown hr1 hb1 hb2
  go_wp2_with fail
  rw [show max (min (i : Int) 300) (-1 : Int) = i from by omega]
  refine (rright_yes A n c i _ bs _ hr2 HR.out).mono ?_
  rintro e w' ⟨rfl, rfl⟩
  go_wp2_with fail
  refine (check_ok A n c i _ bs _ hr2 HR.out (by omega)).mono ?_
  rintro e w' ⟨rfl, rfl⟩
  go_wp2
  go_loop [10, 56] (fun s kv => ∃ k : Nat, kv = .int .i64 k ∧ k ≤ 8 * n ∧ s = .int .i64 (cb (bit bs) k : Nat)) (fun _ kv => 8 * n - (intOf kv).toNat)
  case atStart => exact ⟨0, rfl, Nat.zero_le _, rfl⟩
  case round =>
    obtain ⟨k, rfl, hk, rfl⟩ := hrel
    have hle := cb_le (bit bs) k
    by_cases hlt : k < 8 * n
    · have d9 : decide ((k : Int) < 8 * (n : Int)) = true := by simp; omega
      have g2 := rget_any A n c _ k bs _ hr2 (by omega) (by omega)
      rw [bitI_nat] at g2
      have G2 := Lib.hid g2
      have HS := Lib.hid (show cb (bit bs) (k + 1) = cb (bit bs) k + if bit bs k then 1 else 0 from rfl)
      clear g2
      cases hbk : bit bs k
      all_goals
        rw [hbk] at G2 HS
        clear hbk
        generalize cb (bit bs) k = z at *
        go_wp2_with fail
        refine G2.out.mono ?_
        rintro e w' ⟨rfl, rfl⟩
        go_wp2
        exact ⟨⟨k + 1, by go_num, by omega, by rw [HS.out]; first | rfl | go_num⟩, by simp [intOf]; omega⟩
    · have d9 : decide ((k : Int) < 8 * (n : Int)) = false := by simp; omega
      obtain rfl : k = 8 * n := by omega
      clear hle
      go_wp2_with fail
      refine (get_any A n c _ j bs _ hr2 (by omega) hj).mono ?_
      rintro e w' ⟨rfl, q, rfl⟩
      go_wp2_with fail
      refine (rget_any A n c _ j bs (w2.drewN q) hr2 (by omega) hj).mono ?_
      rintro e w' ⟨rfl, rfl⟩
      go_wp2_with fail
      refine (count_any A n c _ bs (w2.drewN q) hr2 (by omega)).mono ?_
      rintro e w' ⟨rfl, rfl⟩
      go_wp2_with fail
      refine (runpack_any A n c i bs (w2.drewN q) hr2 hi256 (by omega)).mono ?_
      rintro e w3 ⟨v3, rfl, hown3, hb3⟩
      obtain ⟨A3, c3, rfl, _, _, _, hrow3⟩ := lrow_of_own (unp_len _ _) hown3
      have hrow23 := LRow.to (w := w2.drewN q) hrow2 hb3
      have hbf := (below_drewN hbb q).trans (hb3.mono hbb.size)
      clear hown3 hb3 hbb hrow2 hr2
      go_wp2_with fail
      refine (sameb_yes _ _ _ _ _ _ (unp bs i) _ hrow23 hrow3 (by omega)).mono ?_
      rintro e w4 ⟨rfl, q4, rfl⟩
      go_wp2
      go_ret
      exact ⟨by simp, below_drewN hbf q4⟩

theorem reads_law (A : Option Addr) (n c : Nat) (i j : Int) (bs : List Nat) (w : World) (h : BRow w w.heap.size A n bs) (hn : n ≤ 9223372036854775807) (hj : j ≤ 9223372036854775807) :
    Calls Try.prog 6 #[.slice A n c, .int .i64 i, .int .i64 j] w fun e w' => e = .returned (.bool true) ∧ Below w.heap.size w w' := by
  by_cases h1 : 100 < n
  · have d1 : decide ((100 : Int) < n) = true := by simp; omega
    clear h
    go_enter Try.func6, Try.ntmps6
    go_wp2_with fail
    refine (awake6 _).mono ?_
    rintro e w1 ⟨rfl, hb⟩
    go_wp2
    go_ret
    exact ⟨rfl, hb⟩
  by_cases hR : Right bs i
  · have h0 := hR.1
    obtain ⟨m, rfl⟩ : ∃ m : Nat, i = m := ⟨i.toNat, by omega⟩
    exact reads_yes A n c m j bs hR w h (by omega) hj
  by_cases h2 : i < -1
  · exact reads_low A n c i h2 j bs w h (by omega) hj
  by_cases h3 : 300 < i
  · exact reads_high A n c i h3 j bs w h (by omega) hj
  · exact reads_mid A n c i (by omega) (by omega) j bs hR w h (by omega) hj
end Go.Proofs.Ytblpekeikmblmaa.BitsW
