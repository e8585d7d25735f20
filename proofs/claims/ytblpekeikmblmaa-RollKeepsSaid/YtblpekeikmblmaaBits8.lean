/- The walks of the laws of layer 6, eighth part: BitsBack. Conditions: rows are read rightly. -/
import Derived.Test.YtblpekeikmblmaaBits6
namespace Go.Proofs.Ytblpekeikmblmaa.BitsW
open Go.RowKit
open Go.Proofs.Ytblpekeikmblmaa.Words Go.Proofs.Ytblpekeikmblmaa.Bit

theorem right_pks {l : List Bool} {n : Nat} (hl : l.length = n) (hn : n ≤ 256) : Right (pks l) n := by
  subst hl
  have h := packs_pks l
  refine ⟨by omega, by omega, by rw [h.1, Int.toNat_natCast], fun i hi => ?_⟩
  rw [h.2.2 i]; exact bo_ge (by omega)
theorem unp_pks {l : List Bool} {n : Nat} (hl : l.length = n) : unp (pks l) n = l := by
  subst hl
  apply List.ext_getElem (unp_len _ _)
  intro k h1 h2
  rw [← bo_lt h1, ← bo_lt h2, bo_unp h2]
  exact (packs_pks l).2.2 k
theorem cb_pks {l : List Bool} {n : Nat} (hl : l.length = n) : cb (bit (pks l)) (8 * ((n + 7) / 8)) = cb (bo l) n := by
  subst hl
  have h := packs_pks l
  rw [cb_congr (g := bo l) (fun i _ => h.2.2 i)]
  exact cb_more (by omega) (fun i hi => bo_ge hi)
theorem pks_unp {bs : List Nat} {m : Nat} (hb : Byt bs) (h : Right bs m) : pks (unp bs m) = bs := by
  refine Packs.one (packs_pks (unp bs m)) ⟨by rw [unp_len]; simpa using h.2.2.1, hb, fun i => ?_⟩
  by_cases hi : i < m
  · rw [bo_unp hi]
  · rw [bo_ge (by rw [unp_len]; omega)]; exact h.2.2.2 i (by omega)
theorem count_pks (A : Option Addr) (n c L : Nat) (l : List Bool) (w : World) (hl : l.length = n) (h : BRow w L A ((n + 7) / 8) (pks l)) (hn : n ≤ 1000) :
    Calls Try.prog 26 #[.slice A ((n + 7) / 8) c] w fun e w' => e = .returned (.int .i64 (cb (bo l) n : Nat)) ∧ w = w' := by
  rw [← cb_pks hl]; exact count_any A _ c L (pks l) w h (by omega)
theorem unpack_pks (A : Option Addr) (n c : Nat) (l : List Bool) (w : World) (hl : l.length = n) (h : BRow w w.heap.size A ((n + 7) / 8) (pks l)) (hn : n ≤ 256) :
    Calls Try.prog 23 #[.slice A ((n + 7) / 8) c, .int .i64 n] w fun e w' => ∃ B d, e = .returned (.tuple #[.slice B n d, .int .i64 0]) ∧ LRow w' w'.heap.size B n l ∧ Below w.heap.size w w' := by
  refine (unpack_ok A _ c n _ w h (right_pks hl hn) (by omega)).mono ?_
  rintro e w' ⟨v, rfl, hown, hb⟩
  rw [unp_pks hl] at hown
  obtain ⟨B, d, rfl, _, _, _, hrow⟩ := lrow_of_own hl hown
  exact ⟨B, d, rfl, hrow, hb⟩
theorem unpack_right (A : Option Addr) (n c m : Nat) (bs : List Nat) (w : World) (h : BRow w w.heap.size A n bs) (hR : Right bs m) (hn : n ≤ 1000000) :
    Calls Try.prog 23 #[.slice A n c, .int .i64 m] w fun e w' => ∃ B d, e = .returned (.tuple #[.slice B m d, .int .i64 0]) ∧ LRow w' w'.heap.size B m (unp bs m) ∧ Below w.heap.size w w' := by
  refine (unpack_ok A n c m bs w h hR hn).mono ?_
  rintro e w' ⟨v, rfl, hown, hb⟩
  obtain ⟨B, d, rfl, _, _, _, hrow⟩ := lrow_of_own (unp_len _ _) hown
  exact ⟨B, d, rfl, hrow, hb⟩
theorem pack_back (A : Option Addr) (n m c : Nat) (bs : List Nat) (w : World) (hb : Byt bs) (hln : bs.length = n) (hR : Right bs m) (h : LRow w w.heap.size A m (unp bs m)) :
    Calls Try.prog 15 #[.slice A m c] w fun e w' => ∃ B d, e = .returned (.tuple #[.slice B n d, .int .i64 0]) ∧ BRow w' w'.heap.size B n bs ∧ Below w.heap.size w w' := by
  refine (pack_any A m c _ w h (by have := hR.2.1; omega)).mono ?_
  rintro e w' ⟨g, rfl, _, hrow, hbw⟩
  rw [pks_unp hb hR] at hrow
  have e : (m + 7) / 8 = n := by have := hR.2.2.1; simp only [Int.toNat_natCast] at this; omega
  rw [e] at hrow ⊢
  exact ⟨_, _, rfl, hrow, hbw⟩

set_option maxHeartbeats 2000000 in
set_option maxRecDepth 100000 in
theorem back_law (A B : Option Addr) (n c m d : Nat) (i : Int) (l : List Bool) (bs : List Nat) (w : World) (h : LRow w w.heap.size A n l) (h' : BRow w w.heap.size B m bs) (hn : n ≤ 9223372036854775807) (hm : m ≤ 9223372036854775807) :
    Calls Try.prog 7 #[.slice A n c, .slice B m d, .int .i64 i] w fun e w' => e = .returned (.bool true) ∧ Below w.heap.size w w' := by
  by_cases h1 : 256 < n
  · have d1 : decide ((256 : Int) < n) = true := by simp; omega
    clear h h'
    go_enter Try.func7, Try.ntmps7
    go_wp2_with fail
    refine (awake6 _).mono ?_
    rintro e w1 ⟨rfl, hb⟩
    go_wp2
    go_ret
    exact ⟨rfl, hb⟩
  have d1 : decide ((256 : Int) < n) = false := by simp; omega
  by_cases h2 : 100 < m
  · have d2 : decide ((100 : Int) < m) = true := by simp; omega
    clear h h'
    go_enter Try.func7, Try.ntmps7
    go_wp2_with fail
    refine (awake6 _).mono ?_
    rintro e w1 ⟨rfl, hb⟩
    go_wp2
    go_ret
    exact ⟨rfl, hb⟩
  have d2 : decide ((100 : Int) < m) = false := by simp; omega
  have HL := Lib.hid h.1
  have HM := Lib.hid h'.1
  have HY := Lib.hid h'.2.1
  by_cases hR : Right bs i
  · have h0 := hR.1
    obtain ⟨k, rfl⟩ : ∃ m : Nat, i = m := ⟨i.toNat, by omega⟩
    have HR := Lib.hid hR
    clear hR h0
    go_enter Try.func7, Try.ntmps7
    go_wp2_with fail
    refine (awake6 _).mono ?_
    rintro e w1 ⟨rfl, hb1⟩
    have hr1 := h.to hb1
    have hs1 := h'.to hb1
    clear h h'
    go_wp2_with fail
    refine (pack_any A n c l w1 hr1 (by omega)).mono ?_
    rintro e w2 ⟨g, rfl, _, hrow2, hb2⟩
    have hr2 := hr1.to hb2
    have hs2 := hs1.to hb2
    have hbb2 := hb1.trans (hb2.mono hb1.size)
    clear hr1 hs1 hb1 hb2
    go_wp2_with fail
    refine (unpack_pks _ n _ l w2 HL.out hrow2 (by omega)).mono ?_
    rintro e w3 ⟨A3, c3, rfl, hrow3, hb3⟩
    have hr3 := hr2.to hb3
    have hs3 := hs2.to hb3
    have hk3 := hrow2.to hb3
    have hbb3 := hbb2.trans (hb3.mono hbb2.size)
    clear hr2 hs2 hrow2 hbb2 hb3
    go_wp2_with fail
    refine (sameb_yes _ _ _ _ _ _ l _ hrow3 hr3 (by omega)).mono ?_
    rintro e w4 ⟨rfl, q4, rfl⟩
    clear hrow3
    have hrd := hr3.2
    clear hr3
    go_wp2
    go_loop [11, 54] (fun s kv => ∃ k : Nat, kv = .int .i64 k ∧ k ≤ n ∧ s = .int .i64 (cb (bo l) k : Nat)) (fun _ kv => n - (intOf kv).toNat)
    case atStart => exact ⟨0, rfl, Nat.zero_le _, rfl⟩
    case round =>
      obtain ⟨j, rfl, hj, rfl⟩ := hrel
      by_cases hlt : j < n
      · have d9 : decide (j < n) = true := by simpa using hlt
        have hle := cb_le (bo l) j
        obtain ⟨ad, rfl, _, hc⟩ := hrd j hlt
        have hc' : w3.cell? (ad.add j) = some (.bool (bo l j)) := hc
        have HS := Lib.hid (show cb (bo l) (j + 1) = cb (bo l) j + if bo l j then 1 else 0 from rfl)
        clear hc hrd
        cases hbj : bo l j
        all_goals
          rw [hbj] at hc' HS
          clear hbj
          generalize cb (bo l) j = z at *
          go_wp2
          exact ⟨⟨j + 1, by go_num, by omega, by rw [HS.out]; first | rfl | go_num⟩, by simp [intOf]; omega⟩
      · have d9 : decide (j < n) = false := by simpa using hlt
        obtain rfl : j = n := by omega
        clear hrd
        go_wp2_with fail
        refine (count_pks _ j _ _ l (w3.drewN q4) HL.out hk3 (by omega)).mono ?_
        rintro e w5 ⟨rfl, rfl⟩
        go_wp2_with fail
        refine (unpack_right B m d k bs (w3.drewN q4) hs3 HR.out (by omega)).mono ?_
        rintro e w6 ⟨A6, c6, rfl, hrow6, hb6⟩
        have hs6 := BRow.to (w := w3.drewN q4) hs3 hb6
        have hbb6 := (below_drewN hbb3 q4).trans (hb6.mono hbb3.size)
        clear hs3 hk3 hbb3 hb6
        go_wp2_with fail
        refine (pack_back A6 m k c6 bs w6 HY.out HM.out HR.out hrow6).mono ?_
        rintro e w7 ⟨A7, c7, rfl, hrow7, hb7⟩
        have hs7 := hs6.to hb7
        have hbb7 := hbb6.trans (hb7.mono hbb6.size)
        clear hrow6 hs6 hbb6 hb7
        go_wp2_with fail
        refine (same_yes _ _ _ _ _ _ bs _ hrow7 hs7 (by omega)).mono ?_
        rintro e w8 ⟨rfl, q8, rfl⟩
        go_wp2
        go_ret
        exact ⟨by simp, below_drewN hbb7 q8⟩
  · have HR := Lib.hid hR
    clear hR
    go_enter Try.func7, Try.ntmps7
    go_wp2_with fail
    refine (awake6 _).mono ?_
    rintro e w1 ⟨rfl, hb1⟩
    have hr1 := h.to hb1
    have hs1 := h'.to hb1
    clear h h'
    go_wp2_with fail
    refine (pack_any A n c l w1 hr1 (by omega)).mono ?_
    rintro e w2 ⟨g, rfl, _, hrow2, hb2⟩
    have hr2 := hr1.to hb2
    have hs2 := hs1.to hb2
    have hbb2 := hb1.trans (hb2.mono hb1.size)
    clear hr1 hs1 hb1 hb2
    go_wp2_with fail
    refine (unpack_pks _ n _ l w2 HL.out hrow2 (by omega)).mono ?_
    rintro e w3 ⟨A3, c3, rfl, hrow3, hb3⟩
    have hr3 := hr2.to hb3
    have hs3 := hs2.to hb3
    have hk3 := hrow2.to hb3
    have hbb3 := hbb2.trans (hb3.mono hbb2.size)
    clear hr2 hs2 hrow2 hbb2 hb3
    go_wp2_with fail
    refine (sameb_yes _ _ _ _ _ _ l _ hrow3 hr3 (by omega)).mono ?_
    rintro e w4 ⟨rfl, q4, rfl⟩
    clear hrow3
    have hrd := hr3.2
    clear hr3
    go_wp2
    go_loop [11, 54] (fun s kv => ∃ k : Nat, kv = .int .i64 k ∧ k ≤ n ∧ s = .int .i64 (cb (bo l) k : Nat)) (fun _ kv => n - (intOf kv).toNat)
    case atStart => exact ⟨0, rfl, Nat.zero_le _, rfl⟩
    case round =>
      obtain ⟨j, rfl, hj, rfl⟩ := hrel
      by_cases hlt : j < n
      · have d9 : decide (j < n) = true := by simpa using hlt
        have hle := cb_le (bo l) j
        obtain ⟨ad, rfl, _, hc⟩ := hrd j hlt
        have hc' : w3.cell? (ad.add j) = some (.bool (bo l j)) := hc
        have HS := Lib.hid (show cb (bo l) (j + 1) = cb (bo l) j + if bo l j then 1 else 0 from rfl)
        clear hc hrd
        cases hbj : bo l j
        all_goals
          rw [hbj] at hc' HS
          clear hbj
          generalize cb (bo l) j = z at *
          go_wp2
          exact ⟨⟨j + 1, by go_num, by omega, by rw [HS.out]; first | rfl | go_num⟩, by simp [intOf]; omega⟩
      · have d9 : decide (j < n) = false := by simpa using hlt
        obtain rfl : j = n := by omega
        clear hrd
        go_wp2_with fail
        refine (count_pks _ j _ _ l (w3.drewN q4) HL.out hk3 (by omega)).mono ?_
        rintro e w5 ⟨rfl, rfl⟩
        go_wp2_with fail
        refine (unpack_bad B m d i bs (w3.drewN q4) hs3 HR.out (by omega)).mono ?_
        rintro e w6 ⟨rfl, rfl⟩
        go_wp2
        go_ret
        exact ⟨by simp, below_drewN hbb3 q4⟩
end Go.Proofs.Ytblpekeikmblmaa.BitsW
