/- The walks of the supply, seventh part: the awakening, few. Conditions: lists are read rightly. -/
import Derived.Test.YtdjeedmiicagcaaSup6
namespace Go.Proofs.Ytdjeedmiicagcaa.SupplyW
open Go.RowKit
open Go.Proofs.Ytdjeedmiicagcaa.Words Go.Proofs.Ytdjeedmiicagcaa.Agg Go.Proofs.Ytdjeedmiicagcaa.NatW Go.Proofs.Ytdjeedmiicagcaa.PurseW Go.Proofs.Ytdjeedmiicagcaa.PoolW

/-- a state of some money in one purse and in the treasury -/
def awC (u : Value) (t : Nat) : Array Value := #[.int .u64 0, .int .u64 0, .int .u64 0, .int .u64 0, .int .u64 0, .int .u64 0, .int .u64 0, .int .u64 0, .int .u64 0, .int .u64 0, .int .u64 0, .int .u64 0, .int .u64 0, .int .u64 0,
  .int .i64 0, .int .i64 0, .int .i64 0, .int .i64 0, .int .i64 0, .int .i64 0, .int .i64 0, .int .i64 0, .int .i64 0, .int .i64 0,
  .int .u64 20, .int .u64 10, .int .u64 0, .int .u64 0, .int .u64 t, .int .i64 0, .int .i64 0, .bool false,
  u, .slice none 0 0, .slice none 0 0, .slice none 0 0, .slice none 0 0, .slice none 0 0, .slice none 0 0, .slice none 0 0, .slice none 0 0]
theorem one_awC {u : Value} (h : u.oneCell' = true) (t : Nat) : (awC u t).all (·.oneCell') = true := by simp [awC, Value.oneCell'] at *; exact h
def awS (A : Option Addr) (n c : Nat) (us : List Nat) (t : Nat) : St := { cs := awC (.slice A n c) t, most := 20, gen := 10, mnt := 0, brn := 0, trs := t, pa := A, pl := n, pc := c, us := us, ma := none, ml := 0, mc := 0, ms := [], qa := none, ql := 0, qc := 0, ds := [], da := none, dl := 0, dc := 0, es := [] }
theorem awS_ok (A : Option Addr) (n c : Nat) (us : List Nat) (t : Nat) (ht : t < 18446744073709551616) : (awS A n c us t).Ok where
  size := rfl
  c24 := rfl
  c25 := rfl
  c26 := rfl
  c27 := rfl
  c28 := rfl
  c32 := rfl
  c33 := rfl
  c36 := rfl
  c37 := rfl
  most := by show 20 < _; omega
  gen := by show 10 < _; omega
  mnt := by show 0 < _; omega
  brn := by show 0 < _; omega
  trs := ht
  wms := fun b hb => by cases hb
  wds := fun b hb => by cases hb
  wes := fun b hb => by cases hb
theorem awS_at {w : World} {L : Nat} {A : Option Addr} {n : Nat} {us : List Nat} (h : URow w L A n us) (c t : Nat) : (awS A n c us t).At w L := ⟨h, SRow.nil _ _ _ _, SRow.nil _ _ _ _, SRow.nil _ _ _ _⟩
theorem aw1 (A : Option Addr) : holdsB (awS A 1 1 [4] 6) = true := by
  unfold holdsB
  rw [decide_eq_true_iff]
  refine ⟨by show 20 ≤ _; omega, by show 10 + 0 ≤ 20; omega, ?_⟩
  show 0 + (0 + 4) + 0 + 0 + 6 + 0 = 10 + 0
  rfl
theorem aw2 : holdsB (awS none 0 0 [] 0) = false := by
  unfold holdsB
  rw [decide_eq_false_iff_not]
  intro h
  have := h.2.2
  exact absurd (show (0 : Nat) = 10 from this) (by omega)
set_option maxHeartbeats 1000000 in
set_option maxRecDepth 100000 in
theorem awake21 (w : World) : Calls Try.prog 34 #[] w fun e w' => e = .returned (.bool true) ∧ Below w.heap.size w w' := by
  have hu0 := urow_lit w [4] (fun b hb => by simp at hb; omega) #[.int .u64 4] rfl 1 rfl 22 (w.heap.size + 1) w.heap.size rfl (by omega)
  have hb0 : Below w.heap.size w (w.alloc (.cells #[.int .u64 4] 22)) := (Below.refl _ _).alloc (Nat.le_refl _) _
  have hu1 : URow (w.alloc (.cells #[.int .u64 4] 22)) (w.alloc (.cells #[.int .u64 4] 22)).heap.size (some ⟨w.heap.size, 0, none⟩) 1 [4] := by simpa using hu0
  obtain ⟨W1, hW1⟩ : ∃ W1, w.alloc (.cells #[.int .u64 4] 22) = W1 := ⟨_, rfl⟩
  have hsz : W1.heap.size = w.heap.size + 1 := by rw [← hW1]; simp
  rw [hW1] at hu1 hb0
  have HW1 := Lib.hid hW1
  have HU := Lib.hid hu1
  have HSZ := Lib.hid hsz
  have hM := fun W => mint_cap (awS (some ⟨w.heap.size, 0, none⟩) 1 1 [4] 6) (awS_ok _ _ _ _ _ (by omega)) 11 (by omega) (by show min 20 4611686018427387904 < 10 + 0 + 11; omega) W
  have HM := Lib.hid hM
  clear hW1 hu0 hu1 hsz hM
  go_enter Try.func34, Try.ntmps34
  go_upto_region 1 with (fail)
  go_wp2_with (refine wpList_store_new rfl 63 (.tmp 1) (.tmp 5) rfl (awS (some ⟨w.heap.size, 0, none⟩) 1 1 [4] 6).cs (by simp; rfl) rfl info_state rfl (one_awC rfl 6) ?_)
  rw [HW1.out]
  intro w2 hB2 hb2' hs2
  have hb2 : Below W1.heap.size W1 w2 := by rw [HSZ.out]; exact hb2'
  have hb02 := hb0.trans (hb2.mono hb0.size)
  have hA2 := awS_at (HU.out.to hb2) 1 6
  have HB2 := Lib.hid hB2
  have HA2 := Lib.hid hA2
  clear hb2 hb2' HU hb0 hB2 hA2
  go_wp2_with (refine wpList_load_blk rfl 63 (.tmp 1) rfl (w.heap.size + 1) rfl 63 (awS (some ⟨w.heap.size, 0, none⟩) 1 1 [4] 6).cs _ HB2.out Try.underlying63 rfl info_state ?_)
  refine (HM.out w2).mono ?_
  rintro e w3 ⟨rfl, hb3⟩
  have hb03 := hb02.trans (hb3.mono hb02.size)
  have HA3 := Lib.hid (HA2.out.to hb3)
  have HB3 := Lib.hid (HB2.out.to hb3)
  clear HA2 HB2 hb02 hb3 HM HW1
  go_wp2_with (refine wpList_store_new rfl 63 (.tmp 2) (.tmp 9) rfl zst rfl rfl info_state rfl one_zst ?_)
  intro w4 hB4 hb4 hs4
  have hb04 := hb03.trans (hb4.mono hb03.size)
  have HA4 := Lib.hid (HA3.out.to hb4)
  have HB4 := Lib.hid (HB3.out.to hb4)
  have HC4 := Lib.hid hB4
  clear HA3 HB3 hb03 hb4 hB4
  go_wp2_with (refine wpList_load_blk rfl 63 (.tmp 1) rfl (w.heap.size + 1) rfl 63 (awS (some ⟨w.heap.size, 0, none⟩) 1 1 [4] 6).cs _ HB4.out Try.underlying63 rfl info_state ?_)
  refine (holds_any (awS (some ⟨w.heap.size, 0, none⟩) 1 1 [4] 6) (awS_ok _ _ _ _ _ (by omega)) w4 HA4.out ⟨by show 1 ≤ 300; omega, by show 0 ≤ 300; omega, by show 0 ≤ 400; omega, by show 0 ≤ 400; omega⟩ true (aw1 _).symm).mono ?_
  rintro e w5 ⟨rfl, hb5⟩
  have hb05 := hb04.trans (hb5.mono hb04.size)
  have q25 := (HC4.out.to hb5).cell (j := 25) (v := .int .u64 0) rfl
  clear HA4 HB4 HC4 hb04 hb5
  go_wp2_with fail
  refine (holds_any (awS none 0 0 [] 0) (awS_ok _ _ _ _ _ (by omega)) w5 (awS_at (urow_nil _ _) 0 0) ⟨by show 0 ≤ 300; omega, by show 0 ≤ 300; omega, by show 0 ≤ 400; omega, by show 0 ≤ 400; omega⟩ false aw2.symm).mono ?_
  rintro e w6 ⟨rfl, hb6⟩
  have hb06 := hb05.trans (hb6.mono hb05.size)
  clear q25 hb6 hb05
  go_wp2
  go_ret
  exact ⟨rfl, hb06⟩
/-- a state that a play goes through with -/
def St.Plays (s : St) : Prop := s.pl ≤ 100 ∧ s.ml ≤ 200 ∧ s.ql ≤ 300 ∧ s.dl ≤ 300
theorem St.Plays.few {s : St} (h : s.Plays) : s.Few := ⟨by have := h.1; omega, by have := h.2.1; omega, by have := h.2.2.1; omega, by have := h.2.2.2; omega⟩
theorem few_any (s : St) (hs : s.Ok) (w : World) (b : Bool) (hb : b = decide (s.pl ≤ 100 ∧ s.ml ≤ 200 ∧ s.ql ≤ 300 ∧ s.dl ≤ 300)) :
    Calls Try.prog 35 #[.agg s.cs] w fun e w' => e = .returned (.bool b) ∧ Below w.heap.size w w' := by
  have hbW : Below w.heap.size w (w.alloc (.cells s.cs 63)) := (Below.refl _ _).alloc (Nat.le_refl _) _
  have c1 := hs.c32
  have c2 := hs.c33
  have c3 := hs.c36
  have c4 := hs.c37
  clear hs
  by_cases h1 : s.pl ≤ 100
  · have d1 : decide ((s.pl : Int) ≤ 100) = true := by simp; omega
    by_cases h2 : s.ml ≤ 200
    · have d2 : decide ((s.ml : Int) ≤ 200) = true := by simp; omega
      by_cases h3 : s.ql ≤ 300
      · have d3 : decide ((s.ql : Int) ≤ 300) = true := by simp; omega
        by_cases h4 : s.dl ≤ 300
        · have d4 : decide ((s.dl : Int) ≤ 300) = true := by simp; omega
          obtain rfl : b = true := by rw [hb]; simp [h1, h2, h3, h4]
          clear hb h1 h2 h3 h4
          go_enter Try.func35, Try.ntmps35
          go_wp2
          go_ret
          exact ⟨rfl, hbW⟩
        · have d4 : decide ((s.dl : Int) ≤ 300) = false := by simp; omega
          obtain rfl : b = false := by rw [hb]; simp [h4]
          clear hb h1 h2 h3 h4
          go_enter Try.func35, Try.ntmps35
          go_wp2
          go_ret
          exact ⟨rfl, hbW⟩
      · have d3 : decide ((s.ql : Int) ≤ 300) = false := by simp; omega
        obtain rfl : b = false := by rw [hb]; simp [h3]
        clear hb h1 h2 h3
        go_enter Try.func35, Try.ntmps35
        go_wp2
        go_ret
        exact ⟨rfl, hbW⟩
    · have d2 : decide ((s.ml : Int) ≤ 200) = false := by simp; omega
      obtain rfl : b = false := by rw [hb]; simp [h2]
      clear hb h1 h2
      go_enter Try.func35, Try.ntmps35
      go_wp2
      go_ret
      exact ⟨rfl, hbW⟩
  · have d1 : decide ((s.pl : Int) ≤ 100) = false := by simp; omega
    obtain rfl : b = false := by rw [hb]; simp [h1]
    clear hb h1
    go_enter Try.func35, Try.ntmps35
    go_wp2
    go_ret
    exact ⟨rfl, hbW⟩
end Go.Proofs.Ytdjeedmiicagcaa.SupplyW
