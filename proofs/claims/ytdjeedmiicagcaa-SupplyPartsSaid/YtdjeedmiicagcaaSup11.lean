/- The walks of the document's supply, second part: Fits, Holds, part. Conditions: lists are read rightly and are not too long. -/
import Derived.Test.YtdjeedmiicagcaaMon
namespace Go.Proofs.Ytdjeedmiicagcaa.SupplyW
open Go.RowKit
open Go.Proofs.Ytdjeedmiicagcaa.Words Go.Proofs.Ytdjeedmiicagcaa.Agg Go.Proofs.Ytdjeedmiicagcaa.NatW Go.Proofs.Ytdjeedmiicagcaa.PurseW Go.Proofs.Ytdjeedmiicagcaa.PoolW

/-- a number's 64 bits: the number, and whether it is one of them -/
def ub (N : Nat) : Nat × Bool := if N < 18446744073709551616 then (N, true) else (0, false)
theorem uint_any {lo : Nat} (a : Value) (N : Nat) (w : World) (ha : NatAt lo w a N) (hS : Sm N) (r : Nat × Bool) (hr : r = ub N) :
    Calls Try.prog 59 #[a] w fun e w' => e = .returned (.tuple #[.int .u64 r.1, .bool r.2]) ∧ Below w.heap.size w w' := by
  unfold ub at hr
  by_cases hs : N < 18446744073709551616
  · rw [if_pos hs] at hr; subst hr; exact uint_yes a N w ha hs
  · rw [if_neg hs] at hr; subst hr; exact uint_no a N w ha (by omega) hS
theorem smul {us : List Nat} {n : Nat} (h : Wd us) (hn : n ≤ 400) : sm us n ≤ 400 * 18446744073709551615 := Nat.le_trans (sm_le h n) (Nat.mul_le_mul_right _ hn)
/-- the sum of a list, and whether it is one of 64 bits -/
theorem sum_uint {us : List Nat} {n : Nat} (h : Wd us) (hn : n ≤ 400) : Sm (sm us n) := Sm.of (by have := smul h hn; omega)
set_option maxHeartbeats 1000000 in
theorem part_any (x : Nat) (A : Option Addr) (n c : Nat) (us : List Nat) (w : World) (h : URow w w.heap.size A n us) (hn : n ≤ 400) (b : Bool) (hb : b = (decide (sm us n < 18446744073709551616) && decide (x = sm us n))) :
    Calls Try.prog 41 #[.int .u64 x, .slice A n c] w fun e w' => e = .returned (.bool b) ∧ Below w.heap.size w w' := by
  have hS := Lib.hid (sum_uint h.2.1 hn)
  have HR := Lib.hid (rsum_any A n c us w h (by omega))
  have HB := Lib.hid hb
  clear h hb
  generalize sm us n = N at *
  go_enter Try.func41, Try.ntmps41
  go_wp2_with fail
  refine HR.out.mono ?_
  rintro e w1 ⟨v, rfl, hN1, hb1⟩
  obtain ⟨r, hr⟩ : ∃ r, r = ub N := ⟨_, rfl⟩
  have HU := Lib.hid (uint_any v N w1 hN1 hS.out r hr)
  have HRr := Lib.hid hr
  clear hN1 HR hr
  go_wp2_with fail
  refine HU.out.mono ?_
  rintro e w2 ⟨rfl, hb2⟩
  have hb02 := hb1.trans (hb2.mono hb1.size)
  clear HU hb1 hb2
  by_cases hs : N < 18446744073709551616
  · obtain rfl : r = (N, true) := by rw [HRr.out]; unfold ub; rw [if_pos hs]
    by_cases he : x = N
    · subst he
      obtain rfl : b = true := by rw [HB.out]; simp [hs]
      clear HRr
      go_wp2
      go_ret
      exact ⟨rfl, hb02⟩
    · obtain rfl : b = false := by rw [HB.out]; simp [he]
      have e1 : ((x : Int) == (N : Int)) = false := by rw [beq_eq_false_iff_ne]; omega
      clear he HRr
      go_wp2
      go_ret
      exact ⟨rfl, hb02⟩
  · obtain rfl : r = (0, false) := by rw [HRr.out]; unfold ub; rw [if_neg hs]
    obtain rfl : b = false := by rw [HB.out]; simp [hs]
    clear HRr hs
    go_wp2
    go_ret
    exact ⟨rfl, hb02⟩
def fitsB (m : Mon) : Bool := (ub (sm m.l1 m.n1)).2 && (ub (sm m.l2 m.n2)).2 && (ub (sm m.l3 m.n3)).2 && (ub (sm m.l4 m.n4)).2
set_option maxHeartbeats 2000000 in
set_option maxRecDepth 100000 in
theorem fits_any (m : Mon) (hm : m.Ok) (w : World) (hA : m.At w w.heap.size) (b : Bool) (hb : b = fitsB m) :
    Calls Try.prog 40 #[.agg m.cs] w fun e w' => e = .returned (.bool b) ∧ Below w.heap.size w w' := by
  have hbW : Below w.heap.size w (w.alloc (.cells m.cs 66)) := (Below.refl _ _).alloc (Nat.le_refl _) _
  have hB0 : Blk (w.alloc (.cells m.cs 66)) w.heap.size 66 m.cs := Blk.new w _ _ _ rfl
  obtain ⟨W0, hW0⟩ : ∃ W0, w.alloc (.cells m.cs 66) = W0 := ⟨_, rfl⟩
  rw [hW0] at hbW hB0
  have S1 := Lib.hid (sum_uint hA.l1.2.1 hm.n1)
  have S2 := Lib.hid (sum_uint hA.l2.2.1 hm.n2)
  have S3 := Lib.hid (sum_uint hA.l3.2.1 hm.n3)
  have S4 := Lib.hid (sum_uint hA.l4.2.1 hm.n4)
  have HA0 := Lib.hid (hA.to hbW)
  have HB0 := Lib.hid hB0
  have HB := Lib.hid hb
  have HM := Lib.hid hm
  have q5 := hB0.cell (j := 5) (v := .slice m.a1 m.n1 m.c1) rfl
  clear hA hm hb hB0
  go_enter Try.func40, Try.ntmps40
  go_wp2_with fail
  clear hW0
  refine (rsum_any _ _ _ m.l1 _ HA0.out.l1 (by have := HM.out.n1; omega)).mono ?_
  rintro e x1 ⟨v1, rfl, hN1, hs1⟩
  obtain ⟨r1, hr1⟩ : ∃ r, r = ub (sm m.l1 m.n1) := ⟨_, rfl⟩
  have HU1 := Lib.hid (uint_any v1 _ _ hN1 S1.out r1 hr1)
  have HR1 := Lib.hid hr1
  clear hN1 hr1 q5
  go_wp2_with fail
  refine HU1.out.mono ?_
  rintro e y1 ⟨rfl, ht1⟩
  have hb1 := hbW.trans ((hs1.trans (ht1.mono hs1.size)).mono hbW.size)
  have HA1 := Lib.hid ((HA0.out.to hs1).to ht1)
  have HB1 := Lib.hid ((HB0.out.to hs1).to ht1)
  have q6 := HB1.out.cell (j := 6) (v := .slice m.a2 m.n2 m.c2) rfl
  clear hs1 ht1 HU1 HA0 HB0 S1
  go_wp2_with fail
  refine (rsum_any _ _ _ m.l2 _ HA1.out.l2 (by have := HM.out.n2; omega)).mono ?_
  rintro e x2 ⟨v2, rfl, hN2, hs2⟩
  obtain ⟨r2, hr2⟩ : ∃ r, r = ub (sm m.l2 m.n2) := ⟨_, rfl⟩
  have HU2 := Lib.hid (uint_any v2 _ _ hN2 S2.out r2 hr2)
  have HR2 := Lib.hid hr2
  clear hN2 hr2 q6
  go_wp2_with fail
  refine HU2.out.mono ?_
  rintro e y2 ⟨rfl, ht2⟩
  have hb2 := hb1.trans ((hs2.trans (ht2.mono hs2.size)).mono hb1.size)
  have HA2 := Lib.hid ((HA1.out.to hs2).to ht2)
  have HB2 := Lib.hid ((HB1.out.to hs2).to ht2)
  have q7 := HB2.out.cell (j := 7) (v := .slice m.a3 m.n3 m.c3) rfl
  clear hs2 ht2 HU2 HA1 HB1 S2
  go_wp2_with fail
  refine (rsum_any _ _ _ m.l3 _ HA2.out.l3 (by have := HM.out.n3; omega)).mono ?_
  rintro e x3 ⟨v3, rfl, hN3, hs3⟩
  obtain ⟨r3, hr3⟩ : ∃ r, r = ub (sm m.l3 m.n3) := ⟨_, rfl⟩
  have HU3 := Lib.hid (uint_any v3 _ _ hN3 S3.out r3 hr3)
  have HR3 := Lib.hid hr3
  clear hN3 hr3 q7
  go_wp2_with fail
  refine HU3.out.mono ?_
  rintro e y3 ⟨rfl, ht3⟩
  have hb3 := hb2.trans ((hs3.trans (ht3.mono hs3.size)).mono hb2.size)
  have HA3 := Lib.hid ((HA2.out.to hs3).to ht3)
  have HB3 := Lib.hid ((HB2.out.to hs3).to ht3)
  have q8 := HB3.out.cell (j := 8) (v := .slice m.a4 m.n4 m.c4) rfl
  clear hs3 ht3 HU3 HA2 HB2 S3
  go_wp2_with fail
  refine (rsum_any _ _ _ m.l4 _ HA3.out.l4 (by have := HM.out.n4; omega)).mono ?_
  rintro e x4 ⟨v4, rfl, hN4, hs4⟩
  obtain ⟨r4, hr4⟩ : ∃ r, r = ub (sm m.l4 m.n4) := ⟨_, rfl⟩
  have HU4 := Lib.hid (uint_any v4 _ _ hN4 S4.out r4 hr4)
  have HR4 := Lib.hid hr4
  clear hN4 hr4 q8
  go_wp2_with fail
  refine HU4.out.mono ?_
  rintro e y4 ⟨rfl, ht4⟩
  have hb4 := hb3.trans ((hs4.trans (ht4.mono hs4.size)).mono hb3.size)
  have HA4 := Lib.hid ((HA3.out.to hs4).to ht4)
  have HB4 := Lib.hid ((HB3.out.to hs4).to ht4)
  clear hs4 ht4 HU4 HA3 HB3 HA4 HB4 S4
  have HF : Hid (b = (r1.2 && r2.2 && r3.2 && r4.2)) := Lib.hid (by rw [HB.out, HR1.out, HR2.out, HR3.out, HR4.out]; rfl)
  obtain ⟨r1, b1⟩ := r1
  obtain ⟨r2, b2⟩ := r2
  obtain ⟨r3, b3⟩ := r3
  obtain ⟨r4, b4⟩ := r4
  obtain rfl : b = (b1 && b2 && b3 && b4) := HF.out
  clear HF HB HR1 HR2 HR3 HR4
  cases b1 <;> cases b2 <;> cases b3 <;> cases b4 <;> (go_wp2; go_ret; exact ⟨rfl, hb4⟩)
/-- Holds, as the document has it -/
def rholdsB (m : Mon) : Bool := decide (m.gen + m.mnt ≤ m.most ∧ m.most ≤ 4611686018427387904 ∧ sm m.l1 m.n1 + sm m.l2 m.n2 + (sm m.l3 m.n3 + sm m.l4 m.n4) + m.trs + m.brn = m.gen + m.mnt)
end Go.Proofs.Ytdjeedmiicagcaa.SupplyW
