/- The walks of the laws of layer 6, second part: BitsSets. Conditions: rows are read rightly. -/
import Derived.Test.YtblpekeikmblmaaBits3
namespace Go.Proofs.Ytblpekeikmblmaa.BitsW
open Go.RowKit
open Go.Proofs.Ytblpekeikmblmaa.Words Go.Proofs.Ytblpekeikmblmaa.Bit

set_option maxHeartbeats 2000000 in
set_option maxRecDepth 100000 in
theorem sets_neg (A : Option Addr) (n c : Nat) (i : Int) (hi : i < 0) (bs : List Nat) (w : World) (h : BRow w w.heap.size A n bs) (hn : n ≤ 100) :
    Calls Try.prog 4 #[.slice A n c, .int .i64 i] w fun e w' => e = .returned (.bool true) ∧ Below w.heap.size w w' := by
  obtain ⟨i0, hi0, hz0, hz1, hz2⟩ := info_parts info_u8
  have d1 : decide ((100 : Int) < n) = false := by simp; omega
  have hx : (List.range n).map (fun j => Value.int .u8 (by_ bs j)) = bs.map byc := by
    apply List.ext_getElem (by simp [h.1])
    intro j h1 h2
    simp at h1 h2
    simp [byc, by_lt h2]
  have HX := Lib.hid hx
  have hl := Lib.hid h.1
  have hby := h.2.1
  clear hx
  have dA : decide (0 ≤ i) = false := by simpa using hi
  have hi2 : i ≤ 9223372036854775807 := by omega
  go_enter Try.func4, Try.ntmps4
  go_wp2_with fail
  refine (awake6 _).mono ?_
  rintro e w1 ⟨rfl, hb1⟩
  have hr1 := h.to hb1
  go_wp2_with (at_builtin; refine wpList_append_whole _ rfl _ _ 24 rfl w1.heap.size 5 i0 (.int .u8 0) 1 Try.underlying24 hi0 hz0 hz1 hz2 rfl _ _ _ rfl (World.ownsRow_lit w1 #[] 0 (Nat.le_refl _) (by unfold maxLen; omega) rfl) A n c _ rfl (by exact (hr1.to ((Below.refl _ _).alloc (Nat.le_refl _) _)).2.2) (fun _ => rfl) ?_ ?_ ?_ ?_)
  · unfold maxLen; omega
  · omega
  · simp
  intro v' w2 hown hg
  have hg' : w2.ownsRow w1.heap.size 5 1 v' n (bs.map byc) := by
    have := hown
    rw [HX.out] at this
    simpa using this
  have hb2 : Below w1.heap.size w1 w2 := ((Below.refl _ _).alloc (Nat.le_refl _) _).grown hg (by simp) (fun k hk => by simp [Value.ownBlock] at hk; omega)
  obtain ⟨A2, c2, rfl, _, _, _, hgiv⟩ := brow_of_own hl.out hby hg'
  have hr2 := hr1.to hb2
  have hbb := hb1.trans (hb2.mono hb1.size)
  clear hown hg hg' h hr1 hb1 hb2
  go_wp2_with fail
  refine (set_out A2 n c2 i bs _ hgiv (by omega) hi2 (.inl hi)).mono ?_
  rintro e w3 ⟨A3, c3, rfl, hrow3, hb3⟩
  have hgiv3 := hgiv.to hb3
  have hr3 := hr2.to hb3
  have hbb3 := hbb.trans (hb3.mono hbb.size)
  clear hgiv hr2 hbb hb3
  go_wp2_with fail
  refine (same_yes _ _ _ _ _ _ bs _ hgiv3 hr3 (by omega)).mono ?_
  rintro e w4 ⟨rfl, q, rfl⟩
  have hbit : ∀ k : Nat, k < 8 * n → bit (bs) k = (bit bs k || decide ((k : Int) = i)) := fun k _ => by rw [decide_eq_false (by omega), Bool.or_false]
  obtain ⟨cs, hrow3, HBIT⟩ : ∃ cs, BRow w3 w3.heap.size A3 n cs ∧ Hid (∀ k : Nat, k < 8 * n → bit cs k = (bit bs k || decide ((k : Int) = i))) := ⟨_, hrow3, Lib.hid hbit⟩
  clear hbit hgiv3
  go_wp2
  go_loopw [52] (fun kv wr => ∃ k : Nat, kv = .int .i64 k ∧ k ≤ 8 * n ∧ wr = w3.drewN q) (fun kv _ => 8 * n - (intOf kv).toNat)
  case atStart => exact ⟨0, rfl, Nat.zero_le _, rfl⟩
  case round =>
    obtain ⟨k, rfl, hk, rfl⟩ := hrel
    by_cases hlt : k < 8 * n
    · have d9 : decide ((k : Int) < 8 * (n : Int)) = true := by simp; omega
      have g1 := rget_any A3 n c3 _ k cs (w3.drewN q) (hrow3.drewN q) (by omega) (by omega)
      have g2 := rget_any A n c _ k bs (w3.drewN q) (hr3.drewN q) (by omega) (by omega)
      rw [bitI_nat] at g1 g2
      rw [HBIT.out k hlt] at g1
      have G1 := Lib.hid g1
      have G2 := Lib.hid g2
      clear g1 g2
      cases hb2 : bit bs k
      · rw [hb2] at G1 G2
        clear hb2
        by_cases hki : (k : Int) = i
        · rw [decide_eq_true hki] at G1
          have dk : ((k : Int) == i) = true := by rw [beq_iff_eq]; exact hki
          clear hki
          go_wp2_with fail
          refine G1.out.mono ?_
          rintro e w' ⟨rfl, rfl⟩
          go_wp2_with fail
          refine G2.out.mono ?_
          rintro e w' ⟨rfl, rfl⟩
          go_wp2
          exact ⟨⟨k + 1, by go_num, by omega, by first | trivial | rfl⟩, by simp [intOf]; omega⟩
        · rw [decide_eq_false hki] at G1
          have dk : ((k : Int) == i) = false := by rw [beq_eq_false_iff_ne]; exact hki
          clear hki
          go_wp2_with fail
          refine G1.out.mono ?_
          rintro e w' ⟨rfl, rfl⟩
          go_wp2_with fail
          refine G2.out.mono ?_
          rintro e w' ⟨rfl, rfl⟩
          go_wp2
          exact ⟨⟨k + 1, by go_num, by omega, by first | trivial | rfl⟩, by simp [intOf]; omega⟩
      · rw [hb2] at G1 G2
        clear hb2
        go_wp2_with fail
        refine G1.out.mono ?_
        rintro e w' ⟨rfl, rfl⟩
        go_wp2_with fail
        refine G2.out.mono ?_
        rintro e w' ⟨rfl, rfl⟩
        go_wp2
        exact ⟨⟨k + 1, by go_num, by omega, by first | trivial | rfl⟩, by simp [intOf]; omega⟩
    · have d9 : decide ((k : Int) < 8 * (n : Int)) = false := by simp; omega
      go_wp2
      go_ret
      exact ⟨rfl, below_drewN hbb3 q⟩

set_option maxHeartbeats 2000000 in
set_option maxRecDepth 100000 in
theorem sets_far (A : Option Addr) (n c : Nat) (i : Int) (hi : 0 ≤ i) (hi2 : i ≤ 9223372036854775807) (hf : (n : Int) ≤ i / 8) (bs : List Nat) (w : World) (h : BRow w w.heap.size A n bs) (hn : n ≤ 100) :
    Calls Try.prog 4 #[.slice A n c, .int .i64 i] w fun e w' => e = .returned (.bool true) ∧ Below w.heap.size w w' := by
  obtain ⟨i0, hi0, hz0, hz1, hz2⟩ := info_parts info_u8
  have d1 : decide ((100 : Int) < n) = false := by simp; omega
  have hx : (List.range n).map (fun j => Value.int .u8 (by_ bs j)) = bs.map byc := by
    apply List.ext_getElem (by simp [h.1])
    intro j h1 h2
    simp at h1 h2
    simp [byc, by_lt h2]
  have HX := Lib.hid hx
  have hl := Lib.hid h.1
  have hby := h.2.1
  clear hx
  have dA : decide (0 ≤ i) = true := by simpa using hi
  have dB : decide (i / 8 < (n : Int)) = false := by simp; omega
  go_enter Try.func4, Try.ntmps4
  go_wp2_with fail
  refine (awake6 _).mono ?_
  rintro e w1 ⟨rfl, hb1⟩
  have hr1 := h.to hb1
  go_wp2_with (at_builtin; refine wpList_append_whole _ rfl _ _ 24 rfl w1.heap.size 5 i0 (.int .u8 0) 1 Try.underlying24 hi0 hz0 hz1 hz2 rfl _ _ _ rfl (World.ownsRow_lit w1 #[] 0 (Nat.le_refl _) (by unfold maxLen; omega) rfl) A n c _ rfl (by exact (hr1.to ((Below.refl _ _).alloc (Nat.le_refl _) _)).2.2) (fun _ => rfl) ?_ ?_ ?_ ?_)
  · unfold maxLen; omega
  · omega
  · simp
  intro v' w2 hown hg
  have hg' : w2.ownsRow w1.heap.size 5 1 v' n (bs.map byc) := by
    have := hown
    rw [HX.out] at this
    simpa using this
  have hb2 : Below w1.heap.size w1 w2 := ((Below.refl _ _).alloc (Nat.le_refl _) _).grown hg (by simp) (fun k hk => by simp [Value.ownBlock] at hk; omega)
  obtain ⟨A2, c2, rfl, _, _, _, hgiv⟩ := brow_of_own hl.out hby hg'
  have hr2 := hr1.to hb2
  have hbb := hb1.trans (hb2.mono hb1.size)
  clear hown hg hg' h hr1 hb1 hb2
  go_wp2_with fail
  refine (set_out A2 n c2 i bs _ hgiv (by omega) hi2 (.inr hf)).mono ?_
  rintro e w3 ⟨A3, c3, rfl, hrow3, hb3⟩
  have hgiv3 := hgiv.to hb3
  have hr3 := hr2.to hb3
  have hbb3 := hbb.trans (hb3.mono hbb.size)
  clear hgiv hr2 hbb hb3
  go_wp2_with fail
  refine (same_yes _ _ _ _ _ _ bs _ hgiv3 hr3 (by omega)).mono ?_
  rintro e w4 ⟨rfl, q, rfl⟩
  have hbit : ∀ k : Nat, k < 8 * n → bit (bs) k = (bit bs k || decide ((k : Int) = i)) := fun k hk => by rw [decide_eq_false (by omega), Bool.or_false]
  obtain ⟨cs, hrow3, HBIT⟩ : ∃ cs, BRow w3 w3.heap.size A3 n cs ∧ Hid (∀ k : Nat, k < 8 * n → bit cs k = (bit bs k || decide ((k : Int) = i))) := ⟨_, hrow3, Lib.hid hbit⟩
  clear hbit hgiv3
  go_wp2
  go_loopw [52] (fun kv wr => ∃ k : Nat, kv = .int .i64 k ∧ k ≤ 8 * n ∧ wr = w3.drewN q) (fun kv _ => 8 * n - (intOf kv).toNat)
  case atStart => exact ⟨0, rfl, Nat.zero_le _, rfl⟩
  case round =>
    obtain ⟨k, rfl, hk, rfl⟩ := hrel
    by_cases hlt : k < 8 * n
    · have d9 : decide ((k : Int) < 8 * (n : Int)) = true := by simp; omega
      have g1 := rget_any A3 n c3 _ k cs (w3.drewN q) (hrow3.drewN q) (by omega) (by omega)
      have g2 := rget_any A n c _ k bs (w3.drewN q) (hr3.drewN q) (by omega) (by omega)
      rw [bitI_nat] at g1 g2
      rw [HBIT.out k hlt] at g1
      have G1 := Lib.hid g1
      have G2 := Lib.hid g2
      clear g1 g2
      cases hb2 : bit bs k
      · rw [hb2] at G1 G2
        clear hb2
        by_cases hki : (k : Int) = i
        · rw [decide_eq_true hki] at G1
          have dk : ((k : Int) == i) = true := by rw [beq_iff_eq]; exact hki
          clear hki
          go_wp2_with fail
          refine G1.out.mono ?_
          rintro e w' ⟨rfl, rfl⟩
          go_wp2_with fail
          refine G2.out.mono ?_
          rintro e w' ⟨rfl, rfl⟩
          go_wp2
          exact ⟨⟨k + 1, by go_num, by omega, by first | trivial | rfl⟩, by simp [intOf]; omega⟩
        · rw [decide_eq_false hki] at G1
          have dk : ((k : Int) == i) = false := by rw [beq_eq_false_iff_ne]; exact hki
          clear hki
          go_wp2_with fail
          refine G1.out.mono ?_
          rintro e w' ⟨rfl, rfl⟩
          go_wp2_with fail
          refine G2.out.mono ?_
          rintro e w' ⟨rfl, rfl⟩
          go_wp2
          exact ⟨⟨k + 1, by go_num, by omega, by first | trivial | rfl⟩, by simp [intOf]; omega⟩
      · rw [hb2] at G1 G2
        clear hb2
        go_wp2_with fail
        refine G1.out.mono ?_
        rintro e w' ⟨rfl, rfl⟩
        go_wp2_with fail
        refine G2.out.mono ?_
        rintro e w' ⟨rfl, rfl⟩
        go_wp2
        exact ⟨⟨k + 1, by go_num, by omega, by first | trivial | rfl⟩, by simp [intOf]; omega⟩
    · have d9 : decide ((k : Int) < 8 * (n : Int)) = false := by simp; omega
      go_wp2
      go_ret
      exact ⟨rfl, below_drewN hbb3 q⟩

set_option maxHeartbeats 2000000 in
set_option maxRecDepth 100000 in
theorem sets_in (A : Option Addr) (n c : Nat) (i : Nat) (hf : i / 8 < n) (bs : List Nat) (w : World) (h : BRow w w.heap.size A n bs) (hn : n ≤ 100) :
    Calls Try.prog 4 #[.slice A n c, .int .i64 i] w fun e w' => e = .returned (.bool true) ∧ Below w.heap.size w w' := by
  obtain ⟨i0, hi0, hz0, hz1, hz2⟩ := info_parts info_u8
  have d1 : decide ((100 : Int) < n) = false := by simp; omega
  have hx : (List.range n).map (fun j => Value.int .u8 (by_ bs j)) = bs.map byc := by
    apply List.ext_getElem (by simp [h.1])
    intro j h1 h2
    simp at h1 h2
    simp [byc, by_lt h2]
  have HX := Lib.hid hx
  have hl := Lib.hid h.1
  have hby := h.2.1
  clear hx
  have dA : decide ((0 : Int) ≤ (i : Int)) = true := by simp
  have dB : decide ((i : Int) / 8 < (n : Int)) = true := by simp; omega
  have hi8 : i ≤ 8000 := by omega
  go_enter Try.func4, Try.ntmps4
  go_wp2_with fail
  refine (awake6 _).mono ?_
  rintro e w1 ⟨rfl, hb1⟩
  have hr1 := h.to hb1
  go_wp2_with (at_builtin; refine wpList_append_whole _ rfl _ _ 24 rfl w1.heap.size 5 i0 (.int .u8 0) 1 Try.underlying24 hi0 hz0 hz1 hz2 rfl _ _ _ rfl (World.ownsRow_lit w1 #[] 0 (Nat.le_refl _) (by unfold maxLen; omega) rfl) A n c _ rfl (by exact (hr1.to ((Below.refl _ _).alloc (Nat.le_refl _) _)).2.2) (fun _ => rfl) ?_ ?_ ?_ ?_)
  · unfold maxLen; omega
  · omega
  · simp
  intro v' w2 hown hg
  have hg' : w2.ownsRow w1.heap.size 5 1 v' n (bs.map byc) := by
    have := hown
    rw [HX.out] at this
    simpa using this
  have hb2 : Below w1.heap.size w1 w2 := ((Below.refl _ _).alloc (Nat.le_refl _) _).grown hg (by simp) (fun k hk => by simp [Value.ownBlock] at hk; omega)
  obtain ⟨A2, c2, rfl, _, _, _, hgiv⟩ := brow_of_own hl.out hby hg'
  have hr2 := hr1.to hb2
  have hbb := hb1.trans (hb2.mono hb1.size)
  clear hown hg hg' h hr1 hb1 hb2
  go_wp2_with fail
  refine (set_in A2 n c2 i bs _ hgiv (by omega) hf).mono ?_
  rintro e w3 ⟨A3, c3, rfl, hrow3, hb3⟩
  have hgiv3 := hgiv.to hb3
  have hr3 := hr2.to hb3
  have hbb3 := hbb.trans (hb3.mono hbb.size)
  clear hgiv hr2 hbb hb3
  go_wp2_with fail
  refine (same_yes _ _ _ _ _ _ bs _ hgiv3 hr3 (by omega)).mono ?_
  rintro e w4 ⟨rfl, q, rfl⟩
  have hbit : ∀ k : Nat, k < 8 * n → bit (bs.set (i / 8) (by_ bs (i / 8) ||| 2 ^ (i % 8))) k = (bit bs k || decide ((k : Int) = i)) := fun k _ => by
    rw [bit_or (by rw [hl.out]; exact hf)]
    congr 1
    rw [decide_eq_decide]; omega
  obtain ⟨cs, hrow3, HBIT⟩ : ∃ cs, BRow w3 w3.heap.size A3 n cs ∧ Hid (∀ k : Nat, k < 8 * n → bit cs k = (bit bs k || decide ((k : Int) = i))) := ⟨_, hrow3, Lib.hid hbit⟩
  clear hbit hgiv3
  go_wp2
  go_loopw [52] (fun kv wr => ∃ k : Nat, kv = .int .i64 k ∧ k ≤ 8 * n ∧ wr = w3.drewN q) (fun kv _ => 8 * n - (intOf kv).toNat)
  case atStart => exact ⟨0, rfl, Nat.zero_le _, rfl⟩
  case round =>
    obtain ⟨k, rfl, hk, rfl⟩ := hrel
    by_cases hlt : k < 8 * n
    · have d9 : decide ((k : Int) < 8 * (n : Int)) = true := by simp; omega
      have g1 := rget_any A3 n c3 _ k cs (w3.drewN q) (hrow3.drewN q) (by omega) (by omega)
      have g2 := rget_any A n c _ k bs (w3.drewN q) (hr3.drewN q) (by omega) (by omega)
      rw [bitI_nat] at g1 g2
      rw [HBIT.out k hlt] at g1
      have G1 := Lib.hid g1
      have G2 := Lib.hid g2
      clear g1 g2
      cases hb2 : bit bs k
      · rw [hb2] at G1 G2
        clear hb2
        by_cases hki : (k : Int) = i
        · rw [decide_eq_true hki] at G1
          have dk : ((k : Int) == i) = true := by rw [beq_iff_eq]; exact hki
          clear hki
          go_wp2_with fail
          refine G1.out.mono ?_
          rintro e w' ⟨rfl, rfl⟩
          go_wp2_with fail
          refine G2.out.mono ?_
          rintro e w' ⟨rfl, rfl⟩
          go_wp2
          exact ⟨⟨k + 1, by go_num, by omega, by first | trivial | rfl⟩, by simp [intOf]; omega⟩
        · rw [decide_eq_false hki] at G1
          have dk : ((k : Int) == i) = false := by rw [beq_eq_false_iff_ne]; exact hki
          clear hki
          go_wp2_with fail
          refine G1.out.mono ?_
          rintro e w' ⟨rfl, rfl⟩
          go_wp2_with fail
          refine G2.out.mono ?_
          rintro e w' ⟨rfl, rfl⟩
          go_wp2
          exact ⟨⟨k + 1, by go_num, by omega, by first | trivial | rfl⟩, by simp [intOf]; omega⟩
      · rw [hb2] at G1 G2
        clear hb2
        go_wp2_with fail
        refine G1.out.mono ?_
        rintro e w' ⟨rfl, rfl⟩
        go_wp2_with fail
        refine G2.out.mono ?_
        rintro e w' ⟨rfl, rfl⟩
        go_wp2
        exact ⟨⟨k + 1, by go_num, by omega, by first | trivial | rfl⟩, by simp [intOf]; omega⟩
    · have d9 : decide ((k : Int) < 8 * (n : Int)) = false := by simp; omega
      go_wp2
      go_ret
      exact ⟨rfl, below_drewN hbb3 q⟩

theorem sets_law (A : Option Addr) (n c : Nat) (i : Int) (bs : List Nat) (w : World) (h : BRow w w.heap.size A n bs) (hn : n ≤ 9223372036854775807) (hi : i ≤ 9223372036854775807) :
    Calls Try.prog 4 #[.slice A n c, .int .i64 i] w fun e w' => e = .returned (.bool true) ∧ Below w.heap.size w w' := by
  by_cases h1 : 100 < n
  · have d1 : decide ((100 : Int) < n) = true := by simp; omega
    clear h
    go_enter Try.func4, Try.ntmps4
    go_wp2_with fail
    refine (awake6 _).mono ?_
    rintro e w1 ⟨rfl, hb⟩
    go_wp2
    go_ret
    exact ⟨rfl, hb⟩
  by_cases h2 : i < 0
  · exact sets_neg A n c i h2 bs w h (by omega)
  by_cases h3 : (n : Int) ≤ i / 8
  · exact sets_far A n c i (by omega) hi h3 bs w h (by omega)
  · obtain ⟨m, rfl⟩ : ∃ m : Nat, i = m := ⟨i.toNat, by omega⟩
    exact sets_in A n c m (by omega) bs w h (by omega)
end Go.Proofs.Ytblpekeikmblmaa.BitsW
