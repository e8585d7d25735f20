/- The walks of the purse, fifth part: all together, PurseAll. Conditions: rows are read rightly and are not too long. -/
import Derived.Test.YtdjeedmiicagcaaPurse3
import Derived.Test.YtdjeedmiicagcaaNat4
import Derived.Deep.RegionWith
namespace Go.Proofs.Ytdjeedmiicagcaa.PurseW
open Go.RowKit
open Go.Proofs.Ytdjeedmiicagcaa.Words Go.Proofs.Ytdjeedmiicagcaa.NatW

/-- the sum of the first k -/
def sm (us : List Nat) : Nat → Nat
  | 0 => 0
  | k + 1 => sm us k + un us k
theorem sm_le {us : List Nat} (h : Wd us) (k : Nat) : sm us k ≤ k * 18446744073709551615 := by
  induction k with
  | zero => exact Nat.le_refl _
  | succ k ih => have := h.un k; simp only [sm]; omega
theorem sm_mono (us : List Nat) {k m : Nat} (h : k ≤ m) : sm us k ≤ sm us m := by
  induction m with
  | zero => obtain rfl : k = 0 := by omega
            exact Nat.le_refl _
  | succ m ih =>
    by_cases e : k = m + 1
    · rw [e]; exact Nat.le_refl _
    · have := ih (by omega); simp only [sm]; omega

set_option maxRecDepth 100000 in
theorem msum_ok (A : Option Addr) (n c L : Nat) (us : List Nat) (w : World) (h : URow w L A n us) (hn : n ≤ 1000) (hs : sm us n < 18446744073709551616) :
    Calls Try.prog 66 #[.slice A n c] w fun e w' => e = .returned (.tuple #[.int .u64 (sm us n), .int .i64 0]) ∧ w = w' := by
  have hR := Lib.hid h
  have HS := Lib.hid hs
  clear h hs
  go_enter Try.func66, Try.ntmps66
  go_wp2
  go_loop [4, 11] (fun s kv => ∃ k : Nat, kv = .int .i64 k ∧ k ≤ n ∧ s = .int .u64 (sm us k : Nat)) (fun _ kv => n - (intOf kv).toNat)
  case atStart => exact ⟨0, rfl, Nat.zero_le _, rfl⟩
  case round =>
    obtain ⟨k, rfl, hk, rfl⟩ := hrel
    by_cases hlt : k < n
    · have d1 : decide (k < n) = true := by simpa using hlt
      obtain ⟨ad, rfl, _, hc⟩ := hR.out.2.2 k hlt
      have hc' := hc
      simp only at hc'
      have hlim := Nat.lt_of_le_of_lt (sm_mono us (show k + 1 ≤ n by omega)) HS.out
      obtain ⟨t, ht⟩ : ∃ t, t = sm us (k + 1) := ⟨_, rfl⟩
      have HT := Lib.hid ht
      have HA := Lib.hid (madd_ok (sm us k) (un us k) t (by rw [ht]; rfl) (by rw [ht]; exact hlim) w)
      clear hc hlim ht
      generalize sm us k = s at *
      generalize un us k = x at *
      go_wp2_with fail
      refine HA.out.mono ?_
      rintro e w' ⟨rfl, rfl⟩
      go_wp2
      exact ⟨⟨k + 1, by go_num, by omega, by rw [HT.out]⟩, by simp [intOf]; omega⟩
    · have d1 : decide (k < n) = false := by simpa using hlt
      obtain rfl : k = n := by omega
      go_wp2
      go_ret2
      exact ⟨rfl, rfl⟩
set_option maxRecDepth 100000 in
theorem msum_bad (A : Option Addr) (n c L : Nat) (us : List Nat) (w : World) (h : URow w L A n us) (hn : n ≤ 1000) (hs : 18446744073709551616 ≤ sm us n) :
    Calls Try.prog 66 #[.slice A n c] w fun e w' => e = .returned (.tuple #[.int .u64 0, .int .i64 10]) ∧ w = w' := by
  have hR := Lib.hid h
  have HS := Lib.hid hs
  clear h hs
  go_enter Try.func66, Try.ntmps66
  go_wp2
  go_loop [4, 11] (fun s kv => ∃ k : Nat, kv = .int .i64 k ∧ k ≤ n ∧ s = .int .u64 (sm us k : Nat) ∧ sm us k < 18446744073709551616) (fun _ kv => n - (intOf kv).toNat)
  case atStart => exact ⟨0, rfl, Nat.zero_le _, rfl, by simp [sm]⟩
  case round =>
    obtain ⟨k, rfl, hk, rfl, hsm⟩ := hrel
    by_cases hlt : k < n
    · have d1 : decide (k < n) = true := by simpa using hlt
      obtain ⟨ad, rfl, _, hc⟩ := hR.out.2.2 k hlt
      have hc' := hc
      simp only at hc'
      have hxw := hR.out.2.1.un k
      obtain ⟨t, ht⟩ : ∃ t, t = sm us (k + 1) := ⟨_, rfl⟩
      have ht' : t = sm us k + un us k := ht
      have HT := Lib.hid ht
      by_cases hlim : t < 18446744073709551616
      · have HA := Lib.hid (madd_ok (sm us k) (un us k) t ht' hlim w)
        have HL := Lib.hid hlim
        clear hc hlim ht ht' hsm hxw
        generalize sm us k = s at *
        generalize un us k = x at *
        go_wp2_with fail
        refine HA.out.mono ?_
        rintro e w' ⟨rfl, rfl⟩
        go_wp2
        exact ⟨⟨k + 1, by go_num, by omega, by rw [HT.out], by rw [← HT.out]; exact HL.out⟩, by simp [intOf]; omega⟩
      · have HA := Lib.hid (madd_bad (sm us k) (un us k) hsm hxw (by omega) w)
        clear hc hlim ht ht' hsm hxw
        generalize sm us k = s at *
        generalize un us k = x at *
        go_wp2_with fail
        refine HA.out.mono ?_
        rintro e w' ⟨rfl, rfl⟩
        go_wp2
        go_ret2
        exact ⟨rfl, rfl⟩
    · exfalso
      obtain rfl : k = n := by omega
      have := HS.out
      omega


theorem all_any (A : Option Addr) (n c L : Nat) (us : List Nat) (w : World) (h : URow w L A n us) (hn : n ≤ 1000) (r : Nat × Int) (hr : r = if sm us n < 18446744073709551616 then (sm us n, 0) else (0, 10)) :
    Calls Try.prog 31 #[.slice A n c] w fun e w' => e = .returned (.tuple #[.int .u64 r.1, .int .i64 r.2]) ∧ w = w' := by
  have H : Calls Try.prog 66 #[.slice A n c] w fun e w' => e = .returned (.tuple #[.int .u64 r.1, .int .i64 r.2]) ∧ w = w' := by
    by_cases hs : sm us n < 18446744073709551616
    · rw [if_pos hs] at hr; subst hr; exact msum_ok A n c L us w h hn hs
    · rw [if_neg hs] at hr; subst hr; exact msum_bad A n c L us w h hn (by omega)
  clear hr h
  obtain ⟨a, b⟩ := r
  simp only at H ⊢
  have H' := Lib.hid H
  clear H
  go_enter Try.func31, Try.ntmps31
  go_wp2_with fail
  refine H'.out.mono ?_
  rintro e w' ⟨rfl, rfl⟩
  go_wp2
  go_ret2
  exact ⟨rfl, rfl⟩

theorem told_any {lo : Nat} (a : Value) (N : Nat) (w : World) (ha : NatAt lo w a N) (hS : Sm N) (r : Nat × Int) (hr : r = if N < 18446744073709551616 then (N, 0) else (0, 10)) :
    Calls Try.prog 32 #[a] w fun e w' => e = .returned (.tuple #[.int .u64 r.1, .int .i64 r.2]) ∧ Below w.heap.size w w' := by
  by_cases hs : N < 18446744073709551616
  · rw [if_pos hs] at hr; subst hr; exact told_yes a N w ha hs
  · rw [if_neg hs] at hr; subst hr; exact told_no a N w ha (by omega) hS

set_option maxHeartbeats 2000000 in
set_option maxRecDepth 100000 in
theorem rsum_any (A : Option Addr) (n c : Nat) (us : List Nat) (w : World) (h : URow w w.heap.size A n us) (hn : n ≤ 1000) :
    Calls Try.prog 33 #[.slice A n c] w fun e w' => ∃ v, e = .returned v ∧ NatAt w.heap.size w' v (sm us n) ∧ Below w.heap.size w w' := by
  have hR := Lib.hid h
  clear h
  obtain ⟨W0, hW0⟩ : ∃ W0, (w.alloc (.cells #[.slice none 0 0] 51)).alloc (.cells #[.slice none 0 0] 51) = W0 := ⟨_, rfl⟩
  have hbW : Below w.heap.size w W0 := by rw [← hW0]; exact ((Below.refl _ _).alloc (Nat.le_refl _) _).alloc (by simp) _
  have hsz : w.heap.size + 2 ≤ W0.heap.size := by rw [← hW0]; simp
  have hc2 : W0.cell? ⟨w.heap.size, 0, none⟩ = some (.slice none 0 0) := by rw [← hW0, World.cell?_alloc_old _ _ _ (by simp), World.cell?_alloc_at _ _ _ _ rfl]; rfl
  have hc3 : W0.cell? ⟨w.heap.size + 1, 0, none⟩ = some (.slice none 0 0) := by rw [← hW0, World.cell?_alloc_at _ _ _ _ (by simp)]; rfl
  have hf2 : W0.frozen? ⟨w.heap.size, 0, none⟩ = false := by rw [← hW0, World.frozen?_alloc_old _ _ _ (by simp), World.frozen?_alloc_at _ _ _ _ rfl]
  have hf3 : W0.frozen? ⟨w.heap.size + 1, 0, none⟩ = false := by rw [← hW0, World.frozen?_alloc_at _ _ _ _ (by simp)]
  go_enter Try.func33, Try.ntmps33
  go_wp2
  clear hW0
  go_loopw [4] (fun iv wr => ∃ (k : Nat) (A' : Option Addr) (m c' : Nat), iv = .int .i64 k ∧ k ≤ n ∧ wr.cell? ⟨w.heap.size + 1, 0, none⟩ = some (.slice A' m c') ∧ NatAt (w.heap.size + 2) wr (.agg #[.slice A' m c']) (sm us k) ∧
    wr.cell? ⟨w.heap.size, 0, none⟩ = some (.slice none 0 0) ∧ wr.frozen? ⟨w.heap.size, 0, none⟩ = false ∧ wr.frozen? ⟨w.heap.size + 1, 0, none⟩ = false ∧ w.heap.size + 2 ≤ wr.heap.size ∧ Below w.heap.size w wr) (fun iv _ => n - (intOf iv).toNat)
  case atStart => exact ⟨0, none, 0, 0, rfl, Nat.zero_le _, hc3, NatAt.zero _ _, hc2, hf2, hf3, hsz, hbW⟩
  case round =>
    clear hc2 hc3 hsz hbW hf2 hf3
    obtain ⟨k, A', m, c', rfl, hk, hc3, hN, hc2, hf2, hf3, hsz, hbw⟩ := hrel
    by_cases hlt : k < n
    · have d1 : decide (k < n) = true := by simpa using hlt
      obtain ⟨ad, rfl, _, hc⟩ := (hR.out.2.2.below hbw) k hlt
      have hc' := hc
      simp only at hc'
      have hxw := hR.out.2.1.un k
      have hO := Lib.hid (of_any (un us k) hxw)
      obtain ⟨t, ht⟩ : ∃ t, t = sm us (k + 1) := ⟨_, rfl⟩
      have HT := Lib.hid ht
      have HT' := Lib.hid (show t = sm us k + un us k from ht)
      have hS1 := Lib.hid (Sm.of (N := sm us k) (by have := sm_le hR.out.2.1 k; omega))
      have hS2 := Lib.hid (Sm.of (N := un us k) (by omega))
      clear hc ht hxw
      generalize un us k = x at *
      generalize sm us k = s at *
      go_wp2
      go_region_with (first
        | (go_at_call 58; refine (hO.out _).mono ?_; rintro e w5 ⟨v5, rfl, hN5, hb5⟩; have hb5' : Below wr.heap.size wr w5 := ⟨hb5.1, hb5.2, hb5.3, hb5.4, hb5.5⟩; have hc5 := (hb5'.cell (p := ⟨w.heap.size + 1, 0, none⟩) (by show w.heap.size + 1 < wr.heap.size; omega)).trans hc3; clear hb5)
        | (go_at_call 67; refine (add_v _ v5 _ _ _ (hN.to hb5') hN5 hS1.out hS2.out).mono ?_; rintro e w6 ⟨v6, rfl, hN6, hb6⟩; have hb56 : Below wr.heap.size wr w6 := hb5'.trans (hb6.mono hb5'.size); have hf6 := (hb56.frozen (p := ⟨w.heap.size + 1, 0, none⟩) (by show w.heap.size + 1 < wr.heap.size; omega)).trans hf3; have hc6 := (hb56.cell (p := ⟨w.heap.size + 1, 0, none⟩) (by show w.heap.size + 1 < wr.heap.size; omega)).trans hc3; have hf26 := (hb56.frozen (p := ⟨w.heap.size, 0, none⟩) (by show w.heap.size < wr.heap.size; omega)).trans hf2; have hc26 := (hb56.cell (p := ⟨w.heap.size, 0, none⟩) (by show w.heap.size < wr.heap.size; omega)).trans hc2; have hN7 := hN6.low (Nat.le_trans hsz hb5'.size); obtain ⟨A6, m6, c6, rfl⟩ := hN6.form; clear hb5' hb6 hN5 hc5 hN6))
      all_goals
        have hbf : Below w.heap.size w w6 := hbw.trans (hb56.mono hbw.size)
        have hs6 := hb56.size
        clear hc3 hN hc2 hf2 hf3 hbw hb56
        go_wp2
        exact ⟨⟨k + 1, A6, m6, c6, by go_num, by omega, World.cell?_setCell_same _ _ _ hc6, by rw [← HT.out, HT'.out]; exact hN7.set (by simp) _,
          (World.cell?_setCell_other _ _ _ _ (by simp)).trans hc26, (World.frozen?_setCell _ _ _ _).trans hf26, (World.frozen?_setCell _ _ _ _).trans hf6, by show _ ≤ _; simpa [World.setCell] using Nat.le_trans hsz hs6, hbf.setCell (by simp) _⟩, by simp [intOf]; omega⟩
    · have d1 : decide (k < n) = false := by simpa using hlt
      obtain rfl : k = n := by omega
      go_wp2
      refine bodyPost_ret (v := .agg #[.slice A' m c']) (by simp [results, Try.results33, go_sem, World.cell?_setCell_same _ _ _ hc2]) rfl ?_
      exact ⟨_, rfl, (hN.set (by simp) _).low (by omega), hbw.setCell (Nat.le_refl _) _⟩

theorem all_law (A : Option Addr) (n c : Nat) (us : List Nat) (w : World) (h : URow w w.heap.size A n us) (hn : n ≤ 9223372036854775807) :
    Calls Try.prog 8 #[.slice A n c] w fun e w' => e = .returned (.bool true) ∧ Below w.heap.size w w' := by
  by_cases h1 : 200 < n
  · have d1 : decide ((200 : Int) < n) = true := by simp; omega
    clear h
    go_enter Try.func8, Try.ntmps8
    go_wp2_with fail
    refine (awake_any _).mono ?_
    rintro e w1 ⟨rfl, hb⟩
    go_wp2
    go_ret
    exact ⟨rfl, hb⟩
  have d1 : decide ((200 : Int) < n) = false := by simp; omega
  obtain ⟨r, hr⟩ : ∃ r : Nat × Int, r = if sm us n < 18446744073709551616 then (sm us n, 0) else (0, 10) := ⟨_, rfl⟩
  have hS := Lib.hid (Sm.of (N := sm us n) (by have := sm_le h.2.1 n; omega))
  have HR := Lib.hid hr
  clear hr
  go_enter Try.func8, Try.ntmps8
  go_wp2_with fail
  refine (awake_any _).mono ?_
  rintro e w1 ⟨rfl, hb1⟩
  have h1' := h.to hb1
  clear h
  go_wp2_with fail
  refine (all_any A n c _ us w1 h1' (by omega) r HR.out).mono ?_
  rintro e w' ⟨rfl, rfl⟩
  go_wp2_with fail
  refine (rsum_any A n c us w1 h1' (by omega)).mono ?_
  rintro e w2 ⟨v, rfl, hN, hb2⟩
  have hbb := hb1.trans (hb2.mono hb1.size)
  clear h1' hb1 hb2
  go_wp2_with fail
  refine (told_any v _ w2 hN hS.out r HR.out).mono ?_
  rintro e w3 ⟨rfl, hb3⟩
  have hbf := hbb.trans (hb3.mono hbb.size)
  go_wp2
  go_ret
  exact ⟨by simp, hbf⟩
end Go.Proofs.Ytdjeedmiicagcaa.PurseW
