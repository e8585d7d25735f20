/- The walks of package bits and of bullionref06, second part: Check, Get, Set; the document's Get and Right; the awakening of layer 6. Conditions: rows are read rightly and are not too long. -/
import Derived.Test.YtblpekeikmblmaaBits1
namespace Go.Proofs.Ytblpekeikmblmaa.BitsW
open Go.RowKit
open Go.Proofs.Ytblpekeikmblmaa.Words Go.Proofs.Ytblpekeikmblmaa.Bit

theorem check_ok (A : Option Addr) (n c m L : Nat) (bs : List Nat) (w : World) (h : BRow w L A n bs) (hR : Right bs m) (hn : n ≤ 1000000) :
    Calls Try.prog 24 #[.slice A n c, .int .i64 m] w fun e w' => e = .returned (.int .i64 0) ∧ w = w' := by
  obtain ⟨hl, hb, hr⟩ := h
  have h256 : m ≤ 256 := by have := hR.2.1; omega
  have hlen : bs.length = (m + 7) / 8 := by simpa using hR.2.2.1
  have e1 : (((n : Nat) : Int) == (((m + 7) / 8 : Nat) : Int)) = true := by rw [← hl, hlen]; simp
  have e2 : (((n : Nat) : Int) != (((m + 7) / 8 : Nat) : Int)) = false := by rw [← hl, hlen]; simp
  obtain rfl : n = (m + 7) / 8 := by omega
  have hz := hR.top hb
  rw [hlen] at hz
  have d0 : decide ((m : Int) < 0) = false := by simp
  have d1 : decide ((256 : Int) < (m : Int)) = false := by simp; omega
  have HL := Lib.hid hlen
  clear hl hb hR hlen e1 e2
  by_cases h8 : 0 < m % 8
  · obtain ⟨ad, rfl, _, hc⟩ := hr ((m + 7) / 8 - 1) (by omega)
    have hc' : w.cell? (ad.add ((m + 7) / 8 - 1)) = some (.int .u8 (by_ bs ((m + 7) / 8 - 1))) := hc
    have hz' : ((by_ bs ((m + 7) / 8 - 1) : Nat) : Int) / 2 ^ (m % 8) = 0 := by
      have := hz h8
      have e0 : (2 : Int) ^ (m % 8) = ((2 ^ (m % 8) : Nat) : Int) := by rw [Int.natCast_pow]; rfl
      rw [e0, ← Int.natCast_ediv, this]; rfl
    have d2 : decide (0 < m % 8) = true := by simpa using h8
    have h1 : 1 ≤ (m + 7) / 8 := by omega
    clear hr hc hz
    go_enter Try.func24, Try.ntmps24
    go_wp2_with (go_at_call 18; refine (size_any m (by omega) _).mono ?_; rintro e w' ⟨rfl, rfl⟩)
    go_ret
    exact ⟨rfl, rfl⟩
  · have d2 : decide (0 < m % 8) = false := by simpa using h8
    clear hr hz
    go_enter Try.func24, Try.ntmps24
    go_wp2_with (go_at_call 18; refine (size_any m (by omega) _).mono ?_; rintro e w' ⟨rfl, rfl⟩)
    go_ret
    exact ⟨rfl, rfl⟩

theorem check_bad (A : Option Addr) (n c L : Nat) (i : Int) (bs : List Nat) (w : World) (h : BRow w L A n bs) (hR : ¬ Right bs i) (hn : n ≤ 1000000) :
    Calls Try.prog 24 #[.slice A n c, .int .i64 i] w fun e w' => e = .returned (.int .i64 60) ∧ w = w' := by
  obtain ⟨hl, hb, hr⟩ := h
  by_cases h0 : i < 0
  · have d0 : decide (i < 0) = true := by simpa using h0
    clear hr hl hb hR
    go_enter Try.func24, Try.ntmps24
    go_wp2
    go_ret
    exact ⟨rfl, rfl⟩
  obtain ⟨m, rfl⟩ : ∃ m : Nat, i = m := ⟨i.toNat, by omega⟩
  have d0 : decide ((m : Int) < 0) = false := by simp
  by_cases h1 : 256 < m
  · have d1 : decide ((256 : Int) < (m : Int)) = true := by simp; omega
    clear hr hl hb hR
    go_enter Try.func24, Try.ntmps24
    go_wp2
    go_ret
    exact ⟨rfl, rfl⟩
  have d1 : decide ((256 : Int) < (m : Int)) = false := by simp; omega
  have h256 : m ≤ 256 := by omega
  by_cases h2 : n = (m + 7) / 8
  · subst h2
    by_cases h8 : 0 < m % 8
    · obtain ⟨ad, rfl, _, hc⟩ := hr ((m + 7) / 8 - 1) (by omega)
      have hc' : w.cell? (ad.add ((m + 7) / 8 - 1)) = some (.int .u8 (by_ bs ((m + 7) / 8 - 1))) := hc
      have hne : by_ bs ((m + 7) / 8 - 1) / 2 ^ (m % 8) ≠ 0 := fun e => hR (Right.back h256 hl (fun _ => by rw [hl]; exact e))
      have e0 : (2 : Int) ^ (m % 8) = ((2 ^ (m % 8) : Nat) : Int) := by rw [Int.natCast_pow]; rfl
      have hz1 : (((by_ bs ((m + 7) / 8 - 1) : Nat) : Int) / 2 ^ (m % 8) == 0) = false := by
        rw [e0, ← Int.natCast_ediv, beq_eq_false_iff_ne]; omega
      have hz2 : (((by_ bs ((m + 7) / 8 - 1) : Nat) : Int) / 2 ^ (m % 8) != 0) = true := by
        rw [e0, ← Int.natCast_ediv, bne_iff_ne]; omega
      have d2 : decide (0 < m % 8) = true := by simpa using h8
      have h1 : 1 ≤ (m + 7) / 8 := by omega
      clear hr hc hne hR hb e0 hl
      go_enter Try.func24, Try.ntmps24
      go_wp2_with (go_at_call 18; refine (size_any m (by omega) _).mono ?_; rintro e w' ⟨rfl, rfl⟩)
      go_ret
      exact ⟨rfl, rfl⟩
    · exact (hR (Right.back h256 hl (fun h => absurd h h8))).elim
  · have e1 : ((n : Int) == ((m : Int) + 7) / 8) = false := by rw [beq_eq_false_iff_ne]; omega
    have e2 : ((n : Int) != ((m : Int) + 7) / 8) = true := by rw [bne_iff_ne]; omega
    clear hr hl hb hR h2
    go_enter Try.func24, Try.ntmps24
    go_wp2_with (go_at_call 18; refine (size_any m (by omega) _).mono ?_; rintro e w' ⟨rfl, rfl⟩)
    go_ret
    exact ⟨rfl, rfl⟩

/-- the bit at any place -/
def bitI (bs : List Nat) (i : Int) : Bool := if 0 ≤ i then bit bs i.toNat else false
theorem bitI_nat (bs : List Nat) (i : Nat) : bitI bs i = bit bs i := by unfold bitI; rw [if_pos (by omega), Int.toNat_natCast]
theorem bitI_out {bs : List Nat} {i : Int} (h : i < 0 ∨ (bs.length : Int) ≤ i / 8) : bitI bs i = false := by
  unfold bitI
  split
  · exact bit_ge (by omega)
  · rfl

set_option maxHeartbeats 1000000 in
theorem get_any (A : Option Addr) (n c L : Nat) (i : Int) (bs : List Nat) (w : World) (h : BRow w L A n bs) (hn : n ≤ 1000000) (hi : i ≤ 9223372036854775807) :
    Calls Try.prog 25 #[.slice A n c, .int .i64 i] w fun e w' => e = .returned (.bool (bitI bs i)) ∧ ∃ q, w' = w.drewN q := by
  obtain ⟨hl, hb, hr⟩ := h
  by_cases ho : i < 0 ∨ (n : Int) ≤ i / 8
  · have hv := Lib.hid (bitI_out (bs := bs) (i := i) (by rw [hl]; exact ho))
    have hS := Lib.hid (spot_out A n c i hi ho)
    clear hl hb hr ho
    go_enter Try.func25, Try.ntmps25
    go_wp2_with (go_at_call 55; refine (hS.out _).mono ?_; rintro e w' ⟨rfl, rfl⟩)
    go_ret
    exact ⟨by rw [hv.out]; rfl, 0, rfl⟩
  · obtain ⟨m, rfl⟩ : ∃ m : Nat, i = m := ⟨i.toNat, by omega⟩
    have hj : m / 8 < n := by omega
    obtain ⟨ad, rfl, _, hc⟩ := hr (m / 8) hj
    have hc' : w.cell? (ad.add (m / 8)) = some (.int .u8 (by_ bs (m / 8))) := hc
    obtain ⟨p, hp⟩ : ∃ p, p = 2 ^ (m % 8) := ⟨_, rfl⟩
    have hp8 : p < 256 := by rw [hp]; exact two_pow_lt (Nat.mod_lt _ (by omega))
    have hS := Lib.hid (spot_p (some ad) n c m p hp (by omega) hj)
    have hand := u8_and_nat (by_ bs (m / 8)) p (hb.by_ _) hp8
    have hv : (((by_ bs (m / 8) &&& p : Nat) : Int) != 0) = bitI bs m := by
      rw [bitI_nat]
      unfold bit
      rw [← and_pow_ne, ← hp]
      by_cases e : by_ bs (m / 8) &&& p = 0
      · rw [e]; rfl
      · simp [e]
    have HV := Lib.hid hv
    generalize by_ bs (m / 8) &&& p = x at *
    clear hr hc hp ho hl hb hv
    go_enter Try.func25, Try.ntmps25
    go_wp2_with (go_at_call 55; refine (hS.out _).mono ?_; rintro e w' ⟨rfl, q, rfl⟩)
    go_ret
    exact ⟨by rw [← HV.out]; rfl, q, rfl⟩

set_option maxHeartbeats 1000000 in
theorem rget_any (A : Option Addr) (n c L : Nat) (i : Int) (bs : List Nat) (w : World) (h : BRow w L A n bs) (hn : n ≤ 1000000) (hi : i ≤ 9223372036854775807) :
    Calls Try.prog 20 #[.slice A n c, .int .i64 i] w fun e w' => e = .returned (.bool (bitI bs i)) ∧ w = w' := by
  obtain ⟨hl, hb, hr⟩ := h
  by_cases ho : i < 0 ∨ (n : Int) ≤ i / 8
  · have hv := Lib.hid (bitI_out (bs := bs) (i := i) (by rw [hl]; exact ho))
    by_cases h0 : i < 0
    · have d1 : decide (i < 0) = true := by simpa using h0
      clear hl hb hr ho
      go_enter Try.func20, Try.ntmps20
      go_wp2
      go_ret
      exact ⟨by rw [hv.out]; rfl, rfl⟩
    · have d1 : decide (i < 0) = false := by simpa using h0
      have h1 : 0 ≤ i := by omega
      have d2 : decide ((n : Int) ≤ i / 8) = true := by simp; omega
      clear hl hb hr ho h0
      go_enter Try.func20, Try.ntmps20
      go_wp2
      go_ret
      exact ⟨by rw [hv.out]; rfl, rfl⟩
  · obtain ⟨m, rfl⟩ : ∃ m : Nat, i = m := ⟨i.toNat, by omega⟩
    have hj : m / 8 < n := by omega
    obtain ⟨ad, rfl, _, hc⟩ := hr (m / 8) hj
    have hc' : w.cell? (ad.add (m / 8)) = some (.int .u8 (by_ bs (m / 8))) := hc
    have hx := hb.by_ (m / 8)
    have hv : decide (by_ bs (m / 8) / 2 ^ (m % 8) % 2 = 1) = bitI bs m := by
      rw [bitI_nat]; unfold bit; rw [Nat.testBit_eq_decide_div_mod_eq]
    have HV := Lib.hid hv
    have d0 : decide ((m : Int) < 0) = false := by simp
    have d1 : decide ((n : Int) ≤ (m : Int) / 8) = false := by simp; omega
    have hm : m ≤ 8000008 := by omega
    generalize by_ bs (m / 8) = x at *
    clear hr hc ho hl hb hv hi
    go_enter Try.func20, Try.ntmps20
    go_wp2
    go_loop [5, 6] (fun xv kv => ∃ k : Nat, k ≤ m % 8 ∧ kv = .int .i64 k ∧ xv = .int .i64 ((x / 2 ^ k : Nat) : Int)) (fun _ kv => 8 - (intOf kv).toNat)
    case atStart => exact ⟨0, Nat.zero_le _, rfl, by simp⟩
    case round =>
      obtain ⟨k, hk, rfl, rfl⟩ := hrel
      have hle : x / 2 ^ k ≤ x := Nat.div_le_self _ _
      by_cases hlt : k < m % 8
      · have d2 : decide (k < m % 8) = true := by simpa using hlt
        have hs : x / 2 ^ (k + 1) = x / 2 ^ k / 2 := by rw [Nat.pow_succ, Nat.div_div_eq_div_mul]
        have HS := Lib.hid hs
        clear hs
        generalize x / 2 ^ k = y at *
        go_wp2
        exact ⟨⟨k + 1, by omega, by go_num, by rw [HS.out]; go_num⟩, by simp [intOf]; omega⟩
      · have d2 : decide (k < m % 8) = false := by simpa using hlt
        obtain rfl : k = m % 8 := by omega
        have hq := HV.out
        generalize x / 2 ^ (m % 8) = y at *
        have HQ := Lib.hid hq
        clear hq HV
        by_cases hy : y % 2 = 1
        · have d3 : ((y : Int) % 2 == 1) = true := by simp; omega
          have HY := Lib.hid hy
          clear hy
          go_wp2
          go_ret
          exact ⟨by rw [← HQ.out, HY.out]; rfl, rfl⟩
        · have d3 : ((y : Int) % 2 == 1) = false := by simp; omega
          have HY := Lib.hid (decide_eq_false hy)
          clear hy
          go_wp2
          go_ret
          exact ⟨by rw [← HQ.out, HY.out]; rfl, rfl⟩

set_option maxHeartbeats 1000000 in
theorem rright_loop (A : Option Addr) (n c L m : Nat) (bs : List Nat) (w : World) (h : BRow w L A n bs) (h256 : m ≤ 256) (hlen : n = (m + 7) / 8) (b : Bool)
    (hyes : b = true → ∀ i : Nat, m ≤ i → bit bs i = false) (hno : b = false → ∃ i : Nat, m ≤ i ∧ bit bs i = true) :
    Calls Try.prog 22 #[.slice A n c, .int .i64 m] w fun e w' => e = .returned (.bool b) ∧ w = w' := by
  have d0 : decide ((m : Int) < 0) = false := by simp
  have d1 : decide ((256 : Int) < (m : Int)) = false := by simp; omega
  have e1 : ((n : Int) == ((m : Int) + 7) / 8) = true := by rw [beq_iff_eq]; omega
  have e2 : ((n : Int) != ((m : Int) + 7) / 8) = false := by rw [bne_eq_false_iff_eq]; omega
  have hl := Lib.hid h.1
  have HLN := Lib.hid hlen
  have hY := Lib.hid hyes
  have hN := Lib.hid hno
  have hn33 : n ≤ 33 := by omega
  clear hlen hyes hno
  go_enter Try.func22, Try.ntmps22
  go_wp2
  go_loop [5] (fun v => ∃ k : Nat, v = .int .i64 k ∧ m ≤ k ∧ ∀ i : Nat, m ≤ i → i < k → bit bs i = false) (fun v => 8 * n - (intOf v).toNat)
  case atStart => exact ⟨m, rfl, Nat.le_refl _, fun i h1 h2 => by omega⟩
  case round =>
    obtain ⟨k, rfl, hk, hz⟩ := hrel
    have HZ := Lib.hid hz
    clear hz
    by_cases hlt : k < 8 * n
    · have d2 : decide ((k : Int) < 8 * (n : Int)) = true := by simp; omega
      have hG := Lib.hid (rget_any A n c L k bs w h (by omega) (by omega))
      rw [bitI_nat] at hG
      cases hb : bit bs k
      · rw [hb] at hG
        have HZ' := Lib.hid (show ∀ i : Nat, m ≤ i → i < k + 1 → bit bs i = false from fun i h1 h2 => by
          by_cases e : i = k
          · rw [e]; exact hb
          · exact HZ.out i h1 (by omega))
        clear hb
        go_wp2_with (go_at_call 20; refine hG.out.mono ?_; rintro e w' ⟨rfl, rfl⟩)
        exact ⟨⟨k + 1, by go_num, by omega, HZ'.out⟩, by simp [intOf]; omega⟩
      · rw [hb] at hG
        have hbb : b = false := by
          cases b
          · rfl
          · have := hY.out rfl k hk
            rw [hb] at this
            cases this
        subst hbb
        clear hb
        go_wp2_with (go_at_call 20; refine hG.out.mono ?_; rintro e w' ⟨rfl, rfl⟩)
        go_ret
        exact ⟨rfl, rfl⟩
    · have d2 : decide ((k : Int) < 8 * (n : Int)) = false := by simp; omega
      have hbb : b = true := by
        cases b
        · obtain ⟨i, h1, h2⟩ := hN.out rfl
          by_cases h3 : i < k
          · rw [HZ.out i h1 h3] at h2; cases h2
          · rw [bit_ge (by rw [hl.out]; omega)] at h2; cases h2
        · rfl
      subst hbb
      go_wp2
      go_ret
      exact ⟨rfl, rfl⟩

theorem rright_yes (A : Option Addr) (n c m L : Nat) (bs : List Nat) (w : World) (h : BRow w L A n bs) (hR : Right bs m) :
    Calls Try.prog 22 #[.slice A n c, .int .i64 m] w fun e w' => e = .returned (.bool true) ∧ w = w' := by
  obtain ⟨h0, h1, h2, h3⟩ := hR
  exact rright_loop A n c L m bs w h (by omega) (by rw [← h.1, h2]; simp) true (fun _ i hi => h3 i (by omega)) (fun e => by cases e)
theorem rright_no (A : Option Addr) (n c L : Nat) (i : Int) (bs : List Nat) (w : World) (h : BRow w L A n bs) (hR : ¬ Right bs i) :
    Calls Try.prog 22 #[.slice A n c, .int .i64 i] w fun e w' => e = .returned (.bool false) ∧ w = w' := by
  by_cases h0 : i < 0
  · have d0 : decide (i < 0) = true := by simpa using h0
    clear hR h
    go_enter Try.func22, Try.ntmps22
    go_wp2
    go_ret
    exact ⟨rfl, rfl⟩
  obtain ⟨m, rfl⟩ : ∃ m : Nat, i = m := ⟨i.toNat, by omega⟩
  have d0 : decide ((m : Int) < 0) = false := by simp
  by_cases h1 : 256 < m
  · have d1 : decide ((256 : Int) < (m : Int)) = true := by simp; omega
    clear hR h
    go_enter Try.func22, Try.ntmps22
    go_wp2
    go_ret
    exact ⟨rfl, rfl⟩
  have d1 : decide ((256 : Int) < (m : Int)) = false := by simp; omega
  by_cases h2 : n = (m + 7) / 8
  · refine rright_loop A n c L m bs w h (by omega) h2 false (fun e => by cases e) (fun _ => ?_)
    refine Classical.byContradiction fun hne => hR ⟨by omega, by omega, by rw [h.1, h2]; simp, fun j hj => ?_⟩
    cases hb : bit bs j
    · rfl
    · exact (hne ⟨j, by omega, hb⟩).elim
  · have e1 : ((n : Int) == ((m : Int) + 7) / 8) = false := by rw [beq_eq_false_iff_ne]; omega
    have e2 : ((n : Int) != ((m : Int) + 7) / 8) = true := by rw [bne_iff_ne]; omega
    have hm : m ≤ 256 := by omega
    clear hR h h2
    go_enter Try.func22, Try.ntmps22
    go_wp2
    go_ret
    exact ⟨rfl, rfl⟩

set_option maxHeartbeats 1000000 in
theorem set_out (A : Option Addr) (n c : Nat) (i : Int) (bs : List Nat) (w : World) (h : BRow w w.heap.size A n bs) (hn : n ≤ 1000000) (hi : i ≤ 9223372036854775807) (ho : i < 0 ∨ (n : Int) ≤ i / 8) :
    Calls Try.prog 19 #[.slice A n c, .int .i64 i] w fun e w' => ∃ A' c', e = .returned (.tuple #[.slice A' n c', .bool false]) ∧ BRow w' w'.heap.size A' n bs ∧ Below w.heap.size w w' := by
  have hO := Lib.hid (own_any A n c bs w h hn)
  have hl := h.1
  have hb := h.2.1
  clear h
  go_enter Try.func19, Try.ntmps19
  go_wp2_with fail
  refine hO.out.mono ?_
  rintro e w1 ⟨v, rfl, hown, hb1⟩
  obtain ⟨A', c', rfl, _, _, _, hrow⟩ := brow_of_own hl hb hown
  have hS := Lib.hid (spot_out A' n c' i hi ho)
  clear hl hb ho hown hO
  go_wp2_with (go_at_call 55; refine (hS.out _).mono ?_; rintro e w' ⟨rfl, rfl⟩)
  go_ret2
  exact ⟨_, _, rfl, hrow, hb1⟩

theorem own_bytes {w : World} {base : Nat} {e : TypeId} {v : Value} {n : Nat} {bs : List Nat} (hn : bs.length = n) (h : w.ownsRow base e 1 v n (bs.map byc)) (h0 : 0 < n) :
    ∃ g c, v = .slice (some ⟨g, 0, none⟩) n c ∧ base ≤ g ∧ (∀ j, j < n → w.cell? ⟨g, j, none⟩ = some (.int .u8 (by_ bs j))) ∧ ∀ j, w.frozen? ⟨g, j, none⟩ = false := by
  obtain ⟨g, c, rfl, hb, _⟩ := h.form h0
  exact ⟨g, c, rfl, hb, fun j hj => by rw [h.cellAt j (by omega)]; exact bys_at (by omega), fun j => h.frozenAt j⟩

set_option maxHeartbeats 1000000 in
theorem set_in (A : Option Addr) (n c i : Nat) (bs : List Nat) (w : World) (h : BRow w w.heap.size A n bs) (hn : n ≤ 1000000) (hi : i / 8 < n) :
    Calls Try.prog 19 #[.slice A n c, .int .i64 i] w fun e w' => ∃ A' c', e = .returned (.tuple #[.slice A' n c', .bool true]) ∧ BRow w' w'.heap.size A' n (bs.set (i / 8) (by_ bs (i / 8) ||| 2 ^ (i % 8))) ∧ Below w.heap.size w w' := by
  have hO := Lib.hid (own_any A n c bs w h hn)
  have hl := h.1
  have hb := h.2.1
  obtain ⟨p, hp⟩ : ∃ p, p = 2 ^ (i % 8) := ⟨_, rfl⟩
  have hp8 : p < 256 := by rw [hp]; exact two_pow_lt (Nat.mod_lt _ (by omega))
  have hby := hb.by_ (i / 8)
  have hor := u8_or_nat (by_ bs (i / 8)) p hby hp8
  rw [← hp]
  have hset := byt_set (bs := bs) (k := i / 8) (x := by_ bs (i / 8) ||| p) hb (or_lt hby hp8)
  have HP := Lib.hid hp
  clear h hp
  go_enter Try.func19, Try.ntmps19
  go_wp2_with fail
  refine hO.out.mono ?_
  rintro e w1 ⟨v, rfl, hown, hb1⟩
  obtain ⟨g, c', rfl, hlo', hcs, hfs⟩ := own_bytes hl hown (by omega)
  have hc' := hcs (i / 8) hi
  have hfz := hown.frozenAt (i / 8)
  have hstore := fun q => (own_drewN hown q).stored (i / 8) (.int .u8 ((by_ bs (i / 8) ||| p : Nat) : Int))
  have hS := Lib.hid (spot_p (some ⟨g, 0, none⟩) n c' i p HP.out hn hi)
  have hST := Lib.hid hstore
  have HSET := Lib.hid hset
  have HL := Lib.hid hl
  clear hl hb hown hO hcs hfs hstore hset
  go_wp2_with (go_at_call 55; refine (hS.out _).mono ?_; rintro e w' ⟨rfl, q, rfl⟩)
  go_ret2
  have hfin := (hST.out q).1
  have e1 : (bs.map byc).set (i / 8) (.int .u8 ((by_ bs (i / 8) ||| p : Nat) : Int)) = (bs.set (i / 8) (by_ bs (i / 8) ||| p)).map byc := by rw [List.map_set]; rfl
  rw [e1] at hfin
  obtain ⟨A2, c2, hv2, _, _, _, hrow2⟩ := brow_of_own (by rw [List.length_set]; exact HL.out) HSET.out hfin
  simp only [Value.slice.injEq, true_and] at hv2
  obtain ⟨rfl, rfl⟩ := hv2
  exact ⟨_, _, rfl, hrow2, (below_drewN hb1 q).setCell hlo' _⟩

theorem lrow3 (w : World) : LRow (w.alloc (.cells #[.bool true, .bool false, .bool true] 4)) (w.alloc (.cells #[.bool true, .bool false, .bool true] 4)).heap.size (some ⟨w.heap.size, 0, none⟩) 3 [true, false, true] :=
  ⟨rfl, fun j hj => ⟨_, rfl, by simp, by
    rw [add0, World.cell?_alloc_at _ _ _ _ rfl]
    rcases j with _ | _ | _ | j
    · rfl
    · rfl
    · rfl
    · omega⟩⟩
end Go.Proofs.Ytblpekeikmblmaa.BitsW
