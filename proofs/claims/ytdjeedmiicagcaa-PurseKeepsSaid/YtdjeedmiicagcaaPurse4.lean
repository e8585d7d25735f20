/- The walks of the purse, fourth part: PurseKeeps. Conditions: rows are read rightly and are not too long. Printed by gen_purse4.py. -/
import Derived.Test.YtdjeedmiicagcaaPurse3
namespace Go.Proofs.Ytdjeedmiicagcaa.PurseW
open Go.RowKit
open Go.Proofs.Ytdjeedmiicagcaa.Words

theorem draw_err {us : List Nat} {i : Int} {x : Nat} (h : (drawF us i x).2 ≠ 0) : (drawF us i x).1 = [] := by
  unfold drawF at *; split
  · rfl
  · split
    · rfl
    · rename_i h1 h2; rw [if_neg h1, if_neg h2] at h; exact absurd rfl h
theorem pay_err {us : List Nat} {i : Int} {x : Nat} (h : (payF us i x).2 ≠ 0) : (payF us i x).1 = [] := by
  unfold payF at *; split
  · rfl
  · split
    · rename_i h1 h2; rw [if_neg h1, if_pos h2] at h; exact absurd rfl h
    · rfl
theorem move_err {us : List Nat} {i j : Int} {x : Nat} (h : (moveF us i j x).2 ≠ 0) : (moveF us i j x).1 = [] := by
  unfold moveF at *; split
  · rfl
  · split
    · rename_i h1 h2; rw [if_neg h1, if_pos h2] at h; exact pay_err h
    · rfl
/-- a move that goes well -/
theorem move_ok {us : List Nat} {i j : Int} {x : Nat} (h : (moveF us i j x).2 = 0) :
    ∃ k m : Nat, i = k ∧ j = m ∧ k < us.length ∧ m < us.length ∧ x ≤ un us k ∧ un (us.set k (un us k - x)) m + x ≤ 4611686018427387904 ∧
      (moveF us i j x).1 = (us.set k (un us k - x)).set m (un (us.set k (un us k - x)) m + x) := by
  have h' := h
  unfold moveF at h' ⊢
  split at h'
  · cases h'
  · rename_i h1
    rw [if_neg h1]
    split at h'
    · rename_i h2
      rw [if_pos h2]
      obtain ⟨k, rfl⟩ : ∃ k : Nat, i = k := ⟨i.toNat, by omega⟩
      obtain ⟨m, rfl⟩ : ∃ m : Nat, j = m := ⟨j.toNat, by omega⟩
      have hd : x ≤ un us k ∧ drawF us k x = (us.set k (un us k - x), 0) := by
        unfold drawF at h2 ⊢
        rw [if_neg (by omega)] at h2 ⊢
        rw [Int.toNat_natCast] at h2 ⊢
        by_cases hx : un us k < x
        · rw [if_pos hx] at h2; cases h2
        · rw [if_neg hx]; exact ⟨by omega, rfl⟩
      rw [hd.2] at h' ⊢
      simp only at h' ⊢
      unfold payF at h' ⊢
      rw [if_neg (by simp; omega)] at h' ⊢
      rw [Int.toNat_natCast] at h' ⊢
      by_cases hp : un (us.set k (un us k - x)) m + x ≤ 4611686018427387904
      · rw [if_pos hp]; exact ⟨k, m, rfl, rfl, by omega, by omega, hd.1, hp, rfl⟩
      · rw [if_neg hp] at h'; cases h'
    · rename_i h2; exact absurd h' h2
theorem us_ext {us vs : List Nat} (hl : us.length = vs.length) (h : ∀ t, t < us.length → un us t = un vs t) : us = vs := by
  apply List.ext_getElem hl
  intro t h1 h2
  rw [← un_lt h1, ← un_lt h2]; exact h t h1
/-- and back again -/
theorem back_ok {us L : List Nat} {k m x : Nat} (hk : k < us.length) (hm : m < us.length) (hkm : k ≠ m) (hx : x ≤ un us k) (hp : un us m + x ≤ 4611686018427387904)
    (hl : L.length = us.length) (hu : ∀ t, un L t = if t = m then un us m + x else if t = k then un us k - x else un us t) :
    moveF L m k x = if un us k ≤ 4611686018427387904 then (us, 0) else ([], 10) := by
  unfold moveF
  rw [if_neg (by omega)]
  have hum := hu m
  rw [if_pos rfl] at hum
  have huk := hu k
  rw [if_neg hkm, if_pos rfl] at huk
  have hd : drawF L m x = (L.set m (un us m), 0) := by
    unfold drawF
    rw [if_neg (by omega), Int.toNat_natCast, if_neg (by omega), hum, Nat.add_sub_cancel]
  rw [hd, if_pos rfl]
  unfold payF
  rw [if_neg (by simp; omega), Int.toNat_natCast]
  have h2 : un (L.set m (un us m)) k = un us k - x := by rw [un_set (by omega), if_neg hkm, huk]
  simp only
  rw [h2, show un us k - x + x = un us k by omega]
  by_cases hy : un us k ≤ 4611686018427387904
  · rw [if_pos hy, if_pos hy]
    congr 1
    apply us_ext (by simp; omega)
    intro t ht
    rw [un_set (by simp; omega), un_set (by omega), hu t]
    by_cases e1 : t = k
    · subst e1; simp
    · rw [if_neg e1]
      by_cases e2 : t = m
      · subst e2; simp
      · rw [if_neg e2, if_neg e2, if_neg e1]
  · rw [if_neg hy, if_neg hy]
theorem after_move {us : List Nat} {k m x : Nat} (hk : k < us.length) (hm : m < us.length) (hkm : k ≠ m) (t : Nat) :
    un ((us.set k (un us k - x)).set m (un (us.set k (un us k - x)) m + x)) t = if t = m then un us m + x else if t = k then un us k - x else un us t := by
  have e : un (us.set k (un us k - x)) m = un us m := by rw [un_set hk, if_neg (fun h => hkm h.symm)]
  rw [un_set (by simp; exact hm), e, un_set hk]
theorem self_move {us : List Nat} {k x : Nat} (hk : k < us.length) (hx : x ≤ un us k) : (us.set k (un us k - x)).set k (un (us.set k (un us k - x)) k + x) = us := by
  apply us_ext (by simp)
  intro t ht
  rw [un_set (by simp; exact hk), un_set hk, un_set hk]
  by_cases e : t = k
  · subst e; simp; omega
  · simp [e]

set_option maxHeartbeats 4000000 in
set_option maxRecDepth 100000 in
theorem keeps_err (A : Option Addr) (n c x : Nat) (i j : Int) (us : List Nat) (w : World) (h : URow w w.heap.size A n us) (hn : n ≤ 200) (hx : x < 18446744073709551616) (hi : -9223372036854775808 ≤ i ∧ i ≤ 9223372036854775807) (hj : -9223372036854775808 ≤ j ∧ j ≤ 9223372036854775807) (hE : (moveF us i j x).2 ≠ 0) :
    Calls Try.prog 7 #[.slice A n c, .agg #[.int .i64 i, .int .i64 j, .int .u64 x]] w fun e w' => e = .returned (.bool true) ∧ Below w.heap.size w w' := by
  have dn : decide ((200 : Int) < n) = false := by simp; omega
  have hM := fun B d w' (h' : URow w' w'.heap.size B n us) => move_any B n d i j x us w' h' (by omega) hx hi hj
  have hL := move_err hE
  generalize moveF us i j x = r at hM hE hL
  obtain ⟨L, E⟩ := r
  simp only at hE hL
  subst hL
  have d0 : (E != 0) = true := by simp [hE]
  have HM := Lib.hid hM
  clear hM hE hi hj
  go_enter Try.func7, Try.ntmps7
  have hb0 := lit_below w (.cells #[.int .i64 i, .int .i64 j, .int .u64 x] 33)
  have XX := XC.new w i j x 33
  have e0 := XX.c0
  have e1 := XX.c1
  have e2 := XX.c2
  have pu := h.to hb0
  have bb := hb0
  clear h hb0
  go_wp2_with fail
  refine Calls.mono (awake_any _) ?_
  rintro e w1 ⟨rfl, hb⟩
  have put := pu.to hb
  clear pu
  have pu := put
  clear put
  have XCt := XX.to hb
  clear XX e0 e1 e2
  have XX := XCt
  have e0 := XX.c0
  have e1 := XX.c1
  have e2 := XX.c2
  clear XCt
  have hbt := bb.trans (hb.mono bb.size)
  clear bb hb
  have bb := hbt
  clear hbt
  go_wp2_with fail
  refine Calls.mono (HM.out A _ _ pu) ?_
  rintro e w2 ⟨B, d, rfl, hr, hb⟩
  have put := pu.to hb
  clear pu
  have pu := put
  clear put
  have XCt := XX.to hb
  clear XX e0 e1 e2
  have XX := XCt
  have e0 := XX.c0
  have e1 := XX.c1
  have e2 := XX.c2
  clear XCt
  have hbt := bb.trans (hb.mono bb.size)
  clear bb hb
  have bb := hbt
  clear hbt
  go_wp2
  go_ret
  exact ⟨by simp, bb⟩

set_option maxHeartbeats 4000000 in
set_option maxRecDepth 100000 in
theorem keeps_self (A : Option Addr) (n c x : Nat) (k : Nat) (us : List Nat) (hk : k < n) (w : World) (h : URow w w.heap.size A n us) (hn : n ≤ 200) (hx : x < 18446744073709551616) (hi : -9223372036854775808 ≤ (k : Int) ∧ (k : Int) ≤ 9223372036854775807) (hM0 : moveF us k k x = (us, 0)) :
    Calls Try.prog 7 #[.slice A n c, .agg #[.int .i64 k, .int .i64 k, .int .u64 x]] w fun e w' => e = .returned (.bool true) ∧ Below w.heap.size w w' := by
  have dn : decide ((200 : Int) < n) = false := by simp; omega
  have hl := h.1
  have hM := fun B d w' (h' : URow w' w'.heap.size B n us) => move_any B n d k k x us w' h' (by omega) hx hi hi
  rw [hM0] at hM
  have HM := Lib.hid hM
  have d1 : decide (n ≤ k) = false := by simp; omega
  clear hM hi hM0
  go_enter Try.func7, Try.ntmps7
  have hb0 := lit_below w (.cells #[.int .i64 k, .int .i64 k, .int .u64 x] 33)
  have XX := XC.new w k k x 33
  have e0 := XX.c0
  have e1 := XX.c1
  have e2 := XX.c2
  have pu := h.to hb0
  have bb := hb0
  clear h hb0
  go_wp2_with fail
  refine Calls.mono (awake_any _) ?_
  rintro e w1 ⟨rfl, hb⟩
  have put := pu.to hb
  clear pu
  have pu := put
  clear put
  have XCt := XX.to hb
  clear XX e0 e1 e2
  have XX := XCt
  have e0 := XX.c0
  have e1 := XX.c1
  have e2 := XX.c2
  clear XCt
  have hbt := bb.trans (hb.mono bb.size)
  clear bb hb
  have bb := hbt
  clear hbt
  have hm := HM.out A c _ pu
  unfold Gives Gave at hm
  simp only [hl] at hm
  have Hm := Lib.hid hm
  clear hm
  go_wp2_with fail
  refine Calls.mono (Hm.out) ?_
  rintro e w2 ⟨B, d, rfl, hr, hb⟩
  have put := pu.to hb
  clear pu
  have pu := put
  clear put
  have XCt := XX.to hb
  clear XX e0 e1 e2
  have XX := XCt
  have e0 := XX.c0
  have e1 := XX.c1
  have e2 := XX.c2
  clear XCt
  have hbt := bb.trans (hb.mono bb.size)
  clear bb hb
  have bb := hbt
  clear hbt
  have hR := Lib.hid hr
  have hP := Lib.hid pu
  clear hr pu
  go_wp2
  go_loop [63] (fun kv => ∃ t : Nat, kv = .int .i64 t ∧ t ≤ n) (fun kv => n - (intOf kv).toNat)
  case atStart => exact ⟨0, rfl, Nat.zero_le _⟩
  case round =>
    obtain ⟨t, rfl, ht⟩ := hrel
    by_cases hlt : t < n
    · have d9 : decide (t < n) = true := by simpa using hlt
      obtain ⟨ad, rfl, _, hc⟩ := hR.out.2.2 t hlt
      obtain ⟨ad', rfl, _, hc'⟩ := hP.out.2.2 t hlt
      have hcx := hc
      have hcy := hc'
      simp only at hcx hcy
      clear hc hc'
      generalize un us t = y at hcx hcy
      by_cases hk' : t = k
      · have d2 : ((t : Int) != (k : Int)) = false := by simp; omega
        clear hk'
        go_wp2
        exact ⟨⟨t + 1, by go_num, by omega⟩, by simp [intOf]; omega⟩
      · have d2 : ((t : Int) != (k : Int)) = true := by simp; omega
        clear hk'
        go_wp2
        exact ⟨⟨t + 1, by go_num, by omega⟩, by simp [intOf]; omega⟩
    · have d9 : decide (t < n) = false := by simpa using hlt
      obtain rfl : t = n := by omega
      clear ht hlt
      go_wp2_with fail
      refine (same_yes B A _ _ _ _ us _ hR.out hP.out (by omega)).mono ?_
      rintro e w3 ⟨rfl, q, rfl⟩
      go_wp2
      go_ret
      exact ⟨by simp, below_drewN bb q⟩

theorem q_more {P : Program} {f : FuncId} {args : Array Value} {w : World} {n : Nat} {v : Value}
    (h : Calls P f args (w.drewN n) fun e w' => e = .returned v ∧ ∃ q, w' = (w.drewN n).drewN q) : Calls P f args (w.drewN n) fun e w'' => e = .returned v ∧ ∃ m, w'' = w.drewN m :=
  h.mono fun _ _ ⟨he, q, hm⟩ => ⟨he, n + q, by rw [hm, World.drewN_drewN]⟩

set_option maxHeartbeats 4000000 in
set_option maxRecDepth 100000 in
theorem keeps_back (A : Option Addr) (n c x : Nat) (k m : Nat) (us L : List Nat) (hk : k < n) (hm : m < n) (hkm : k ≠ m) (w : World) (h : URow w w.heap.size A n us) (hn : n ≤ 200) (hx : x < 18446744073709551616) (hi : -9223372036854775808 ≤ (k : Int) ∧ (k : Int) ≤ 9223372036854775807) (hj : -9223372036854775808 ≤ (m : Int) ∧ (m : Int) ≤ 9223372036854775807)
    (hxk : x ≤ un us k) (_hp : un us m + x ≤ 4611686018427387904) (hM0 : moveF us k m x = (L, 0)) (hll : L.length = n)
    (hu : ∀ t, un L t = if t = m then un us m + x else if t = k then un us k - x else un us t) (hB0 : moveF L m k x = (us, 0)) :
    Calls Try.prog 7 #[.slice A n c, .agg #[.int .i64 k, .int .i64 m, .int .u64 x]] w fun e w' => e = .returned (.bool true) ∧ Below w.heap.size w w' := by
  have dn : decide ((200 : Int) < n) = false := by simp; omega
  have hl := h.1
  have hM := fun B d w' (h' : URow w' w'.heap.size B n us) => move_any B n d k m x us w' h' (by omega) hx hi hj
  rw [hM0] at hM
  have HM := Lib.hid hM
  have hB := fun B d w' (h' : URow w' w'.heap.size B n L) => move_any B n d m k x L w' h' (by omega) hx hj hi
  rw [hB0] at hB
  have HB := Lib.hid hB
  have d1 : decide (n ≤ k) = false := by simp; omega
  have d2 : decide (n ≤ m) = false := by simp; omega
  have d3 : decide (k < n) = true := by simp; omega
  have d4 : decide (m < n) = true := by simp; omega
  have HU := Lib.hid hu
  have HN := Lib.hid hkm
  have d5 : ((k : Int) == (m : Int)) = false := by simp; omega
  have d6 : ((k : Int) != (m : Int)) = true := by simp; omega
  have d7 : ((m : Int) != (k : Int)) = true := by simp; omega
  have hlk := h.2.1.un k
  have hlm := h.2.1.un m
  have uk := hu k
  rw [if_neg hkm, if_pos rfl] at uk
  have um := hu m
  rw [if_pos rfl] at um
  obtain ⟨a, ha⟩ : ∃ a, a = un us k := ⟨_, rfl⟩
  obtain ⟨b, hb'⟩ : ∃ b, b = un L k := ⟨_, rfl⟩
  obtain ⟨f, hf⟩ : ∃ f, f = un us m := ⟨_, rfl⟩
  obtain ⟨g, hg⟩ : ∃ g, g = un L m := ⟨_, rfl⟩
  have HA := Lib.hid ha
  have HBB := Lib.hid hb'
  have HF := Lib.hid hf
  have HG := Lib.hid hg
  have s1 : IntKind.u64.wrap ((a : Int) - (b : Int)) = (x : Int) := (IntWalk.u64_in _ (by omega)).trans (by omega)
  have s2 : IntKind.u64.wrap ((g : Int) - (f : Int)) = (x : Int) := (IntWalk.u64_in _ (by omega)).trans (by omega)
  clear hM hi hM0 hj hB hB0 hu hkm ha hb' hf hg uk um hlk hlm _hp hxk
  go_enter Try.func7, Try.ntmps7
  have hb0 := lit_below w (.cells #[.int .i64 k, .int .i64 m, .int .u64 x] 33)
  have XX := XC.new w k m x 33
  have e0 := XX.c0
  have e1 := XX.c1
  have e2 := XX.c2
  have pu := h.to hb0
  have bb := hb0
  clear h hb0
  go_wp2_with fail
  refine Calls.mono (awake_any _) ?_
  rintro e w1 ⟨rfl, hb⟩
  have put := pu.to hb
  clear pu
  have pu := put
  clear put
  have XCt := XX.to hb
  clear XX e0 e1 e2
  have XX := XCt
  have e0 := XX.c0
  have e1 := XX.c1
  have e2 := XX.c2
  clear XCt
  have hbt := bb.trans (hb.mono bb.size)
  clear bb hb
  have bb := hbt
  clear hbt
  have hm' := HM.out A c _ pu
  unfold Gives Gave at hm'
  simp only [hll] at hm'
  have Hm := Lib.hid hm'
  clear hm'
  go_wp2_with fail
  refine Calls.mono (Hm.out) ?_
  rintro e w2 ⟨B, d, rfl, hr, hb⟩
  have put := pu.to hb
  clear pu
  have pu := put
  clear put
  have XCt := XX.to hb
  clear XX e0 e1 e2
  have XX := XCt
  have e0 := XX.c0
  have e1 := XX.c1
  have e2 := XX.c2
  clear XCt
  have hbt := bb.trans (hb.mono bb.size)
  clear bb hb
  have bb := hbt
  clear hbt
  have hR := Lib.hid hr
  have hP := Lib.hid pu
  clear hr pu
  go_wp2
  go_loop [63] (fun kv => ∃ t : Nat, kv = .int .i64 t ∧ t ≤ n) (fun kv => n - (intOf kv).toNat)
  case atStart => exact ⟨0, rfl, Nat.zero_le _⟩
  case round =>
    obtain ⟨t, rfl, ht⟩ := hrel
    by_cases hlt : t < n
    · have d9 : decide (t < n) = true := by simpa using hlt
      obtain ⟨ad, rfl, _, hc⟩ := hR.out.2.2 t hlt
      obtain ⟨ad', rfl, _, hc'⟩ := hP.out.2.2 t hlt
      have hcx := hc
      have hcy := hc'
      simp only at hcx hcy
      clear hc hc'
      have ut := HU.out t
      by_cases hm' : t = m
      · have q1 : ((t : Int) != (m : Int)) = false := by simp; omega
        have q2 : ((t : Int) != (k : Int)) = true := by have := HN.out; simp; omega
        generalize un us t = y at hcx hcy
        generalize un L t = z at hcx hcy
        clear hm' ut
        go_wp2
        exact ⟨⟨t + 1, by go_num, by omega⟩, by simp [intOf]; omega⟩
      · by_cases hk' : t = k
        · have q2 : ((t : Int) != (k : Int)) = false := by simp; omega
          generalize un us t = y at hcx hcy
          generalize un L t = z at hcx hcy
          clear hk' hm' ut
          go_wp2
          exact ⟨⟨t + 1, by go_num, by omega⟩, by simp [intOf]; omega⟩
        · have q1 : ((t : Int) != (m : Int)) = true := by simp; omega
          have q2 : ((t : Int) != (k : Int)) = true := by simp; omega
          rw [if_neg hm', if_neg hk'] at ut
          rw [ut] at hcx
          generalize un us t = y at hcx hcy
          clear hk' hm' ut
          go_wp2
          exact ⟨⟨t + 1, by go_num, by omega⟩, by simp [intOf]; omega⟩
    · have d9 : decide (t < n) = false := by simpa using hlt
      obtain rfl : t = n := by omega
      clear ht hlt
      go_wp2_with fail
      have hm' := HB.out B d _ hR.out
      unfold Gives Gave at hm'
      simp only [hl] at hm'
      refine Calls.mono hm' ?_
      rintro e w3 ⟨B3, d3', rfl, hr3, hb⟩
      have pu := hP.out.to hb
      have hr := hR.out.to hb
      have XCt := XX.to hb
      clear XX e0 e1 e2 hm'
      have e0 := XCt.c0
      have e1 := XCt.c1
      have e2 := XCt.c2
      have bb3 := bb.trans (hb.mono bb.size)
      clear bb hb
      obtain ⟨ad, rfl, _, hc1⟩ := hr.2.2 k hk
      obtain ⟨ad', e', _, hc2⟩ := hr.2.2 m hm
      obtain ⟨ad2, rfl, _, hc3⟩ := pu.2.2 k hk
      obtain ⟨ad2', e2', _, hc4⟩ := pu.2.2 m hm
      cases e'
      cases e2'
      simp only at hc1 hc2 hc3 hc4
      rw [← HBB.out] at hc1
      rw [← HG.out] at hc2
      rw [← HA.out] at hc3
      rw [← HF.out] at hc4
      have hS := Lib.hid (fun q => same_yes B3 (some ad2) _ d3' c _ us (w3.drewN q) hr3 pu (by omega))
      clear hr pu hr3
      go_wp2
      go_quiet ((go_at_call 30; (with_reducible exact q_more (hS.out _))))
      go_wp2
      go_ret
      exact ⟨by simp, below_drewN bb3 _⟩

set_option maxHeartbeats 4000000 in
set_option maxRecDepth 100000 in
theorem keeps_over (A : Option Addr) (n c x : Nat) (k m : Nat) (us L : List Nat) (hk : k < n) (hm : m < n) (hkm : k ≠ m) (w : World) (h : URow w w.heap.size A n us) (hn : n ≤ 200) (hx : x < 18446744073709551616) (hi : -9223372036854775808 ≤ (k : Int) ∧ (k : Int) ≤ 9223372036854775807) (hj : -9223372036854775808 ≤ (m : Int) ∧ (m : Int) ≤ 9223372036854775807)
    (hxk : x ≤ un us k) (_hp : un us m + x ≤ 4611686018427387904) (hM0 : moveF us k m x = (L, 0)) (hll : L.length = n)
    (hu : ∀ t, un L t = if t = m then un us m + x else if t = k then un us k - x else un us t) (hB0 : moveF L m k x = ([], 10)) (hy : 4611686018427387904 < un us k) :
    Calls Try.prog 7 #[.slice A n c, .agg #[.int .i64 k, .int .i64 m, .int .u64 x]] w fun e w' => e = .returned (.bool true) ∧ Below w.heap.size w w' := by
  have dn : decide ((200 : Int) < n) = false := by simp; omega
  have hl := h.1
  have hM := fun B d w' (h' : URow w' w'.heap.size B n us) => move_any B n d k m x us w' h' (by omega) hx hi hj
  rw [hM0] at hM
  have HM := Lib.hid hM
  have hB := fun B d w' (h' : URow w' w'.heap.size B n L) => move_any B n d m k x L w' h' (by omega) hx hj hi
  rw [hB0] at hB
  have HB := Lib.hid hB
  have d1 : decide (n ≤ k) = false := by simp; omega
  have d2 : decide (n ≤ m) = false := by simp; omega
  have d3 : decide (k < n) = true := by simp; omega
  have d4 : decide (m < n) = true := by simp; omega
  have HU := Lib.hid hu
  have HN := Lib.hid hkm
  have d5 : ((k : Int) == (m : Int)) = false := by simp; omega
  have d6 : ((k : Int) != (m : Int)) = true := by simp; omega
  have d7 : ((m : Int) != (k : Int)) = true := by simp; omega
  have hlk := h.2.1.un k
  have hlm := h.2.1.un m
  have uk := hu k
  rw [if_neg hkm, if_pos rfl] at uk
  have um := hu m
  rw [if_pos rfl] at um
  obtain ⟨a, ha⟩ : ∃ a, a = un us k := ⟨_, rfl⟩
  obtain ⟨b, hb'⟩ : ∃ b, b = un L k := ⟨_, rfl⟩
  obtain ⟨f, hf⟩ : ∃ f, f = un us m := ⟨_, rfl⟩
  obtain ⟨g, hg⟩ : ∃ g, g = un L m := ⟨_, rfl⟩
  have HA := Lib.hid ha
  have HBB := Lib.hid hb'
  have HF := Lib.hid hf
  have HG := Lib.hid hg
  have s1 : IntKind.u64.wrap ((a : Int) - (b : Int)) = (x : Int) := (IntWalk.u64_in _ (by omega)).trans (by omega)
  have s2 : IntKind.u64.wrap ((g : Int) - (f : Int)) = (x : Int) := (IntWalk.u64_in _ (by omega)).trans (by omega)
  have d8 : decide ((4611686018427387904 : Int) < a) = true := by simp; omega
  clear hM hi hM0 hj hB hB0 hu hkm ha hb' hf hg uk um hlk hlm _hp hxk hy
  go_enter Try.func7, Try.ntmps7
  have hb0 := lit_below w (.cells #[.int .i64 k, .int .i64 m, .int .u64 x] 33)
  have XX := XC.new w k m x 33
  have e0 := XX.c0
  have e1 := XX.c1
  have e2 := XX.c2
  have pu := h.to hb0
  have bb := hb0
  clear h hb0
  go_wp2_with fail
  refine Calls.mono (awake_any _) ?_
  rintro e w1 ⟨rfl, hb⟩
  have put := pu.to hb
  clear pu
  have pu := put
  clear put
  have XCt := XX.to hb
  clear XX e0 e1 e2
  have XX := XCt
  have e0 := XX.c0
  have e1 := XX.c1
  have e2 := XX.c2
  clear XCt
  have hbt := bb.trans (hb.mono bb.size)
  clear bb hb
  have bb := hbt
  clear hbt
  have hm' := HM.out A c _ pu
  unfold Gives Gave at hm'
  simp only [hll] at hm'
  have Hm := Lib.hid hm'
  clear hm'
  go_wp2_with fail
  refine Calls.mono (Hm.out) ?_
  rintro e w2 ⟨B, d, rfl, hr, hb⟩
  have put := pu.to hb
  clear pu
  have pu := put
  clear put
  have XCt := XX.to hb
  clear XX e0 e1 e2
  have XX := XCt
  have e0 := XX.c0
  have e1 := XX.c1
  have e2 := XX.c2
  clear XCt
  have hbt := bb.trans (hb.mono bb.size)
  clear bb hb
  have bb := hbt
  clear hbt
  have hR := Lib.hid hr
  have hP := Lib.hid pu
  clear hr pu
  go_wp2
  go_loop [63] (fun kv => ∃ t : Nat, kv = .int .i64 t ∧ t ≤ n) (fun kv => n - (intOf kv).toNat)
  case atStart => exact ⟨0, rfl, Nat.zero_le _⟩
  case round =>
    obtain ⟨t, rfl, ht⟩ := hrel
    by_cases hlt : t < n
    · have d9 : decide (t < n) = true := by simpa using hlt
      obtain ⟨ad, rfl, _, hc⟩ := hR.out.2.2 t hlt
      obtain ⟨ad', rfl, _, hc'⟩ := hP.out.2.2 t hlt
      have hcx := hc
      have hcy := hc'
      simp only at hcx hcy
      clear hc hc'
      have ut := HU.out t
      by_cases hm' : t = m
      · have q1 : ((t : Int) != (m : Int)) = false := by simp; omega
        have q2 : ((t : Int) != (k : Int)) = true := by have := HN.out; simp; omega
        generalize un us t = y at hcx hcy
        generalize un L t = z at hcx hcy
        clear hm' ut
        go_wp2
        exact ⟨⟨t + 1, by go_num, by omega⟩, by simp [intOf]; omega⟩
      · by_cases hk' : t = k
        · have q2 : ((t : Int) != (k : Int)) = false := by simp; omega
          generalize un us t = y at hcx hcy
          generalize un L t = z at hcx hcy
          clear hk' hm' ut
          go_wp2
          exact ⟨⟨t + 1, by go_num, by omega⟩, by simp [intOf]; omega⟩
        · have q1 : ((t : Int) != (m : Int)) = true := by simp; omega
          have q2 : ((t : Int) != (k : Int)) = true := by simp; omega
          rw [if_neg hm', if_neg hk'] at ut
          rw [ut] at hcx
          generalize un us t = y at hcx hcy
          clear hk' hm' ut
          go_wp2
          exact ⟨⟨t + 1, by go_num, by omega⟩, by simp [intOf]; omega⟩
    · have d9 : decide (t < n) = false := by simpa using hlt
      obtain rfl : t = n := by omega
      clear ht hlt
      go_wp2_with fail
      have hm' := HB.out B d _ hR.out
      unfold Gives Gave at hm'
      simp only [List.length_nil] at hm'
      refine Calls.mono hm' ?_
      rintro e w3 ⟨B3, d3', rfl, hr3, hb⟩
      have pu := hP.out.to hb
      have hr := hR.out.to hb
      have XCt := XX.to hb
      clear XX e0 e1 e2 hm'
      have e0 := XCt.c0
      have e1 := XCt.c1
      have e2 := XCt.c2
      have bb3 := bb.trans (hb.mono bb.size)
      clear bb hb
      obtain ⟨ad, rfl, _, hc1⟩ := hr.2.2 k hk
      obtain ⟨ad', e', _, hc2⟩ := hr.2.2 m hm
      obtain ⟨ad2, rfl, _, hc3⟩ := pu.2.2 k hk
      obtain ⟨ad2', e2', _, hc4⟩ := pu.2.2 m hm
      cases e'
      cases e2'
      simp only at hc1 hc2 hc3 hc4
      rw [← HBB.out] at hc1
      rw [← HG.out] at hc2
      rw [← HA.out] at hc3
      rw [← HF.out] at hc4
      clear hr pu hr3
      go_wp2
      go_quiet (fail)
      go_wp2
      go_ret
      exact ⟨by simp, below_drewN bb3 _⟩

theorem keeps_law (A : Option Addr) (n c x : Nat) (i j : Int) (us : List Nat) (w : World) (h : URow w w.heap.size A n us) (hn : n ≤ 9223372036854775807) (hx : x < 18446744073709551616) (hi : -9223372036854775808 ≤ i ∧ i ≤ 9223372036854775807) (hj : -9223372036854775808 ≤ j ∧ j ≤ 9223372036854775807) :
    Calls Try.prog 7 #[.slice A n c, .agg #[.int .i64 i, .int .i64 j, .int .u64 x]] w fun e w' => e = .returned (.bool true) ∧ Below w.heap.size w w' := by
  by_cases h1 : 200 < n
  · have d1 : decide ((200 : Int) < n) = true := by simp; omega
    have hb0 := lit_below w (.cells #[.int .i64 i, .int .i64 j, .int .u64 x] 33)
    clear h hi hj
    go_enter Try.func7, Try.ntmps7
    go_wp2_with fail
    refine (awake_any _).mono ?_
    rintro e w1 ⟨rfl, hb⟩
    go_wp2
    go_ret
    exact ⟨rfl, hb0.trans (hb.mono hb0.size)⟩
  by_cases hE : (moveF us i j x).2 = 0
  · obtain ⟨k, m, rfl, rfl, hk, hm, hxk, hp, hL⟩ := move_ok hE
    have hM0 : moveF us k m x = ((us.set k (un us k - x)).set m (un (us.set k (un us k - x)) m + x), 0) := by rw [← hL, ← hE]
    have hl := h.1
    by_cases hkm : k = m
    · subst hkm
      rw [self_move hk hxk] at hM0
      exact keeps_self A n c x k us (by omega) w h (by omega) hx hi hM0
    · have hu := after_move (us := us) (x := x) hk hm hkm
      have hp' : un us m + x ≤ 4611686018427387904 := by rw [un_set hk, if_neg (fun h => hkm h.symm)] at hp; exact hp
      have hB := back_ok (L := (us.set k (un us k - x)).set m (un (us.set k (un us k - x)) m + x)) hk hm hkm hxk hp' (by simp) hu
      by_cases hy : un us k ≤ 4611686018427387904
      · rw [if_pos hy] at hB
        exact keeps_back A n c x k m us _ (by omega) (by omega) hkm w h (by omega) hx hi hj hxk hp' hM0 (by simp; exact hl) hu hB
      · rw [if_neg hy] at hB
        exact keeps_over A n c x k m us _ (by omega) (by omega) hkm w h (by omega) hx hi hj hxk hp' hM0 (by simp; exact hl) hu hB (by omega)
  · exact keeps_err A n c x i j us w h (by omega) hx hi hj hE
end Go.Proofs.Ytdjeedmiicagcaa.PurseW
