/- The walks of bullionref01, fourth part: the contracts at values; Most, Uint, Told, Sum. Conditions: the numbers are held rightly and are not too great. -/
import Derived.Test.YtdjeedmiicagcaaNat3
import Derived.Deep.RegionHeld3
namespace Go.Proofs.Ytdjeedmiicagcaa.NatW
open Go.RowKit
open Go.Proofs.Ytdjeedmiicagcaa.Words Go.Proofs.Ytdjeedmiicagcaa.Dec

/-- of at most forty digits -/
def Sm (N : Nat) : Prop := N < 10 ^ 40
theorem Sm.of {N : Nat} (h : N ≤ 340282366920938463463374607431768211456) : Sm N := by unfold Sm; omega
theorem Sm.len {ds : List Nat} (h : Sm (dv ds)) (hd : Nrm ds) : ds.length ≤ 1000000 := Nat.le_trans (hd.len h) (by omega)

theorem NatAt.to {lo : Nat} {w w' : World} {v : Value} {N : Nat} (h : NatAt lo w v N) (hb : Below w.heap.size w w') : NatAt lo w' v N := by
  obtain ⟨A, n, c, ds, hv, hc, hr, hN, hd, hl⟩ := h
  exact ⟨A, n, c, ds, hv, hc, hr.to hb, hN, hd, hl⟩
theorem NatAt.low {lo lo' : Nat} {w : World} {v : Value} {N : Nat} (h : NatAt lo w v N) (hl : lo' ≤ lo) : NatAt lo' w v N := by
  obtain ⟨A, n, c, ds, hv, hc, hr, hN, hd, hl'⟩ := h
  exact ⟨A, n, c, ds, hv, hc, hr, hN, hd, fun ad e => Nat.le_trans hl (hl' ad e)⟩
theorem NatAt.set {lo : Nat} {w : World} {v : Value} {N : Nat} (h : NatAt lo w v N) {p : Addr} (hp : p.block < lo) (u : Value) : NatAt lo (w.setCell p u) v N := by
  obtain ⟨A, n, c, ds, hv, hc, hr, hN, hd, hl⟩ := h
  exact ⟨A, n, c, ds, hv, hc, by rw [World.size_setCell]; exact hr.set (fun ad e => by have := hl ad e; omega) u, hN, hd, hl⟩
theorem NatAt.drew {lo : Nat} {w : World} {v : Value} {N : Nat} (h : NatAt lo w v N) : NatAt lo w.drew v N := h
theorem NatAt.drewN {lo : Nat} {w : World} {v : Value} {N : Nat} (h : NatAt lo w v N) (q : Nat) : NatAt lo (w.drewN q) v N := h
theorem NatAt.form {lo : Nat} {w : World} {v : Value} {N : Nat} (h : NatAt lo w v N) : ∃ A n c, v = .agg #[.slice A n c] := by
  obtain ⟨A, n, c, _, hv, _⟩ := h
  exact ⟨A, n, c, hv⟩
theorem NatAt.zero (lo : Nat) (w : World) : NatAt lo w (.agg #[.slice none 0 0]) 0 := ⟨none, 0, 0, [], rfl, Nat.le_refl _, ⟨rfl, Rd.nil⟩, nrm_nil, rfl, fun _ h => by cases h⟩

theorem cmp_v {lo lo' : Nat} (a b : Value) (N M : Nat) (w : World) (ha : NatAt lo w a N) (hb : NatAt lo' w b M) (hN : Sm N) (hM : Sm M) :
    Calls Try.prog 56 #[a, b] w fun e w' => e = .returned (.int .i64 (cmpN N M)) ∧ Below w.heap.size w w' := by
  obtain ⟨A, n, c, ds, rfl, _, hr, hn, rfl, _⟩ := ha
  obtain ⟨A', n', c', es, rfl, _, hr', hn', rfl, _⟩ := hb
  exact cmp_any A A' n c n' c' ds es w hr hr' hn.1 hn'.1 (by rw [← hr.1]; exact hN.len hn) (by rw [← hr'.1]; exact hM.len hn')
theorem add_v {lo lo' : Nat} (a b : Value) (N M : Nat) (w : World) (ha : NatAt lo w a N) (hb : NatAt lo' w b M) (hN : Sm N) (hM : Sm M) :
    Calls Try.prog 67 #[a, b] w fun e w' => ∃ v, e = .returned v ∧ NatAt w.heap.size w' v (N + M) ∧ Below w.heap.size w w' := by
  obtain ⟨A, n, c, ds, rfl, _, hr, hn, rfl, _⟩ := ha
  obtain ⟨A', n', c', es, rfl, _, hr', hn', rfl, _⟩ := hb
  exact add_row A A' n c n' c' ds es w hr hr' hn hn' (by rw [← hr.1]; exact hN.len hn) (by rw [← hr'.1]; exact hM.len hn')
theorem sub_v {lo lo' : Nat} (a b : Value) (N M : Nat) (w : World) (ha : NatAt lo w a N) (hb : NatAt lo' w b M) (hN : Sm N) (hle : M ≤ N) :
    Calls Try.prog 60 #[a, b] w fun e w' => ∃ v, e = .returned v ∧ NatAt w.heap.size w' v (N - M) ∧ Below w.heap.size w w' := by
  obtain ⟨A, n, c, ds, rfl, _, hr, hn, rfl, _⟩ := ha
  obtain ⟨A', n', c', es, rfl, _, hr', hn', rfl, _⟩ := hb
  exact sub_row A A' n c n' c' ds es w hr hr' hn hn' (by rw [← hr.1]; exact hN.len hn) hle
theorem mul_v {lo lo' : Nat} (a b : Value) (N M : Nat) (w : World) (ha : NatAt lo w a N) (hb : NatAt lo' w b M) (hN : Sm N) (hM : Sm M) :
    Calls Try.prog 84 #[a, b] w fun e w' => ∃ v, e = .returned v ∧ NatAt w.heap.size w' v (N * M) ∧ Below w.heap.size w w' := by
  obtain ⟨A, n, c, ds, rfl, _, hr, hn, rfl, _⟩ := ha
  obtain ⟨A', n', c', es, rfl, _, hr', hn', rfl, _⟩ := hb
  exact mul_row A A' n c n' c' ds es w hr hr' hn hn' (by rw [← hr.1]; exact hN.len hn) (by rw [← hr'.1]; exact hM.len hn')

theorem of_most (w : World) : Calls Try.prog 58 #[.int .u64 18446744073709551615] w fun e w' => ∃ v, e = .returned v ∧ NatAt w.heap.size w' v 18446744073709551615 ∧ Below w.heap.size w w' := of_any 18446744073709551615 (by omega) w

theorem most_any (w : World) : Calls Try.prog 85 #[] w fun e w' => ∃ v, e = .returned v ∧ NatAt w.heap.size w' v 18446744073709551615 ∧ Below w.heap.size w w' := by
  go_enter Try.func85, Try.ntmps85
  go_wp2_with fail
  refine (of_most _).mono ?_
  rintro e w' ⟨v, rfl, hN, hb⟩
  obtain ⟨A, n, c, rfl⟩ := hN.form
  have hc : w'.cell? ⟨w.heap.size, 0, none⟩ = some (.slice none 0 0) := bcell hb (by simp) (by rw [World.cell?_alloc_at _ _ _ _ rfl]; rfl)
  have hf : w'.frozen? ⟨w.heap.size, 0, none⟩ = false := (hb.frozen (by simp)).trans (World.frozen?_alloc_at _ _ _ _ rfl)
  go_wp2
  refine bodyPost_ret (v := .agg #[.slice A n c]) (by simp [results, Try.results85, go_sem, World.cell?_setCell_same _ _ _ hc]) rfl ?_
  exact ⟨_, rfl, (hN.set (by simp) _).low (by simp), ((Below.refl _ _).alloc (Nat.le_refl _) _ |>.trans (hb.mono (by simp))).setCell (Nat.le_refl _) _⟩

set_option maxHeartbeats 1000000 in
set_option maxRecDepth 100000 in
theorem uint_yes {lo : Nat} (a : Value) (N : Nat) (w : World) (ha : NatAt lo w a N) (hN : N < 18446744073709551616) :
    Calls Try.prog 59 #[a] w fun e w' => e = .returned (.tuple #[.int .u64 N, .bool true]) ∧ Below w.heap.size w w' := by
  have hS := Sm.of (N := N) (by omega)
  have hS' := Sm.of (N := 18446744073709551615) (by omega)
  have hcmp : decide ((0 : Int) < cmpN N 18446744073709551615) = false := by rw [cmpN_pos]; simp; omega
  have hA := ha
  obtain ⟨A, n, c, ds, rfl, _, hr, hn, hv, _⟩ := ha
  obtain ⟨W0, hW0⟩ : ∃ W0, w.alloc (.cells #[.slice A n c] 51) = W0 := ⟨_, rfl⟩
  have hbW : Below w.heap.size w W0 := by rw [← hW0]; exact (Below.refl _ _).alloc (Nat.le_refl _) _
  have hsz : w.heap.size < W0.heap.size := by rw [← hW0]; simp
  have hc0 : W0.cell? ⟨w.heap.size, 0, none⟩ = some (.slice A n c) := by rw [← hW0, World.cell?_alloc_at _ _ _ _ rfl]; rfl
  have hA0 := hA.to hbW
  clear hA
  go_enter Try.func59, Try.ntmps59
  go_wp2
  clear hW0
  go_region_held3 (fun w' => w'.cell? ⟨w.heap.size, 0, none⟩ = some (.slice A n c) ∧ Below W0.heap.size W0 w')
    (first
      | exact ⟨hc0, (Below.refl _ _).drew⟩
      | (have hh := And.right ‹_ ∧ Below W0.heap.size W0 _›; exact ⟨bcell (hh.trans (hbm.mono hh.size)) hsz hc0, hh.trans (hbm.mono hh.size)⟩))
    (first
      | (go_at_call 85; refine (most_any _).mono ?_; rintro e w2 ⟨vm, rfl, hNm, hbm⟩)
      | (go_at_call 56; have hh := And.right ‹_ ∧ Below W0.heap.size W0 _›; refine (cmp_v _ _ N 18446744073709551615 _ (hA0.to hh) hNm hS hS').mono ?_; clear hbm hNm hh; rintro e w3 ⟨rfl, hbm⟩))
  obtain ⟨hc3, hb3⟩ := ‹_ ∧ Below W0.heap.size W0 _›
  have hr3 := hr.below (hbW.trans (hb3.mono (by omega)))
  have hbF := hbW.trans (hb3.mono (by omega))
  have hl := Lib.hid hr.1
  have hln : n ≤ 1000000 := by rw [← hr.1]; exact Sm.len (by rw [hv]; exact hS) hn
  have hV := Lib.hid hv
  have hN' := Lib.hid hN
  clear hA0 hS hS' hcmp hr hb3 hc0 hbm hbW hv hN
  go_wp2
  go_loop [4, 5] (fun x iv => ∃ (m : Nat) (i : Int), iv = .int .i64 i ∧ i = (m : Int) - 1 ∧ m ≤ n ∧ x = .int .u64 ((N / 10 ^ m : Nat) : Int)) (fun _ iv => (intOf iv + 1).toNat)
  case atStart =>
    refine ⟨n, _, rfl, rfl, Nat.le_refl _, ?_⟩
    have h := horner_top hn.1
    rw [hV.out, hl.out] at h
    rw [h]; rfl
  case round =>
    obtain ⟨m, i, rfl, hi, hm, rfl⟩ := hrel
    rcases Nat.eq_zero_or_pos m with h0 | h0
    · subst h0
      obtain rfl : i = -1 := by omega
      clear hi
      go_wp2
      go_ret2
      exact ⟨by simp, hbF⟩
    · obtain ⟨k, rfl⟩ : ∃ k, m = k + 1 := ⟨m - 1, by omega⟩
      obtain rfl : i = (k : Int) := by omega
      obtain ⟨ad, rfl, _, hcell⟩ := hr3.2 k (by omega)
      have hh := horner hn.1 (show k < ds.length by rw [hl.out]; omega)
      rw [hV.out] at hh
      have hq : N / 10 ^ k ≤ N := Nat.div_le_self _ _
      have hd10 := hn.1.dg k
      have hN2 := hN'.out
      have HH := Lib.hid hh
      have hle : 10 * (N / 10 ^ (k + 1)) + dg ds k ≤ 18446744073709551615 := by omega
      clear hh hi hr3 hq hN2 h0
      generalize N / 10 ^ (k + 1) = q at *
      go_wp2
      exact ⟨⟨k, _, rfl, by omega, by omega, by rw [HH.out]; go_num⟩, by simp [intOf]⟩
set_option maxHeartbeats 1000000 in
set_option maxRecDepth 100000 in
theorem uint_no {lo : Nat} (a : Value) (N : Nat) (w : World) (ha : NatAt lo w a N) (hN : 18446744073709551616 ≤ N) (hS : Sm N) :
    Calls Try.prog 59 #[a] w fun e w' => e = .returned (.tuple #[.int .u64 0, .bool false]) ∧ Below w.heap.size w w' := by
  have hS' := Sm.of (N := 18446744073709551615) (by omega)
  have hcmp : decide ((0 : Int) < cmpN N 18446744073709551615) = true := by rw [cmpN_pos]; simp; omega
  have hA := ha
  obtain ⟨A, n, c, ds, rfl, _, hr, hn, hv, _⟩ := ha
  obtain ⟨W0, hW0⟩ : ∃ W0, w.alloc (.cells #[.slice A n c] 51) = W0 := ⟨_, rfl⟩
  have hbW : Below w.heap.size w W0 := by rw [← hW0]; exact (Below.refl _ _).alloc (Nat.le_refl _) _
  have hsz : w.heap.size < W0.heap.size := by rw [← hW0]; simp
  have hc0 : W0.cell? ⟨w.heap.size, 0, none⟩ = some (.slice A n c) := by rw [← hW0, World.cell?_alloc_at _ _ _ _ rfl]; rfl
  have hA0 := hA.to hbW
  clear hA
  go_enter Try.func59, Try.ntmps59
  go_wp2
  clear hW0
  go_region_held3 (fun w' => w'.cell? ⟨w.heap.size, 0, none⟩ = some (.slice A n c) ∧ Below W0.heap.size W0 w')
    (first
      | exact ⟨hc0, (Below.refl _ _).drew⟩
      | (have hh := And.right ‹_ ∧ Below W0.heap.size W0 _›; exact ⟨bcell (hh.trans (hbm.mono hh.size)) hsz hc0, hh.trans (hbm.mono hh.size)⟩))
    (first
      | (go_at_call 85; refine (most_any _).mono ?_; rintro e w2 ⟨vm, rfl, hNm, hbm⟩)
      | (go_at_call 56; have hh := And.right ‹_ ∧ Below W0.heap.size W0 _›; refine (cmp_v _ _ N 18446744073709551615 _ (hA0.to hh) hNm hS hS').mono ?_; clear hbm hNm hh; rintro e w3 ⟨rfl, hbm⟩))
  obtain ⟨hc3, hb3⟩ := ‹_ ∧ Below W0.heap.size W0 _›
  have hbF := hbW.trans (hb3.mono (by omega))
  clear hb3 hbW hN
  go_wp2
  go_ret2
  exact ⟨rfl, hbF⟩

theorem told_yes {lo : Nat} (a : Value) (N : Nat) (w : World) (ha : NatAt lo w a N) (hN : N < 18446744073709551616) :
    Calls Try.prog 32 #[a] w fun e w' => e = .returned (.tuple #[.int .u64 N, .int .i64 0]) ∧ Below w.heap.size w w' := by
  obtain ⟨A, n, c, rfl⟩ := ha.form
  have hb0 : Below w.heap.size w (w.alloc (.cells #[.slice A n c] 51)) := (Below.refl _ _).alloc (Nat.le_refl _) _
  have hU := Lib.hid (uint_yes _ N _ (ha.to hb0) hN)
  clear hN
  go_enter Try.func32, Try.ntmps32
  go_wp2_with fail
  refine hU.out.mono ?_
  rintro e w2 ⟨rfl, hb⟩
  go_wp2
  go_ret2
  exact ⟨rfl, hb0.trans (hb.mono (by simp))⟩
theorem told_no {lo : Nat} (a : Value) (N : Nat) (w : World) (ha : NatAt lo w a N) (hN : 18446744073709551616 ≤ N) (hS : Sm N) :
    Calls Try.prog 32 #[a] w fun e w' => e = .returned (.tuple #[.int .u64 0, .int .i64 10]) ∧ Below w.heap.size w w' := by
  obtain ⟨A, n, c, rfl⟩ := ha.form
  have hb0 : Below w.heap.size w (w.alloc (.cells #[.slice A n c] 51)) := (Below.refl _ _).alloc (Nat.le_refl _) _
  have hU := Lib.hid (uint_no _ N _ (ha.to hb0) hN hS)
  clear hN
  go_enter Try.func32, Try.ntmps32
  go_wp2_with fail
  refine hU.out.mono ?_
  rintro e w2 ⟨rfl, hb⟩
  go_wp2
  go_ret2
  exact ⟨rfl, hb0.trans (hb.mono (by simp))⟩
end Go.Proofs.Ytdjeedmiicagcaa.NatW
