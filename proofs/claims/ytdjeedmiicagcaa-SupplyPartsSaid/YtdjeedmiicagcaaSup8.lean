/- The walks of the supply, eighth part: SupplyHolds. Conditions: lists are read rightly. -/
import Derived.Test.YtdjeedmiicagcaaSup7
namespace Go.Proofs.Ytdjeedmiicagcaa.SupplyW
open Go.RowKit
open Go.Proofs.Ytdjeedmiicagcaa.Words Go.Proofs.Ytdjeedmiicagcaa.Agg Go.Proofs.Ytdjeedmiicagcaa.NatW Go.Proofs.Ytdjeedmiicagcaa.PurseW Go.Proofs.Ytdjeedmiicagcaa.PoolW

def St.minted (s : St) (m t : Nat) : St := { s with cs := mintC s.cs m t, mnt := m, trs := t }
def St.burned (s : St) (t b : Nat) : St := { s with cs := burnC s.cs t b, trs := t, brn := b }
def richC (cs : Array Value) (t : Nat) : Array Value := cs.setIfInBounds 28 (.int .u64 t)
def lostC (cs : Array Value) (b : Nat) : Array Value := cs.setIfInBounds 27 (.int .u64 b)
def St.richer (s : St) (t : Nat) : St := { s with cs := richC s.cs t, trs := t }
def St.loser (s : St) (b : Nat) : St := { s with cs := lostC s.cs b, brn := b }
theorem size_richC (cs : Array Value) (t : Nat) : (richC cs t).size = cs.size := by simp [richC]
theorem size_lostC (cs : Array Value) (t : Nat) : (lostC cs t).size = cs.size := by simp [lostC]
theorem set_at (cs : Array Value) (i k : Nat) (v : Value) (h : i ≠ k) : (cs.setIfInBounds i v)[k]? = cs[k]? := Array.getElem?_setIfInBounds_ne h
theorem set_is (cs : Array Value) (i : Nat) (v : Value) (h : i < cs.size) : (cs.setIfInBounds i v)[i]? = some v := by simp [h]
theorem St.Ok.minted {s : St} (h : s.Ok) {m t : Nat} (hm : m < 18446744073709551616) (ht : t < 18446744073709551616) : (s.minted m t).Ok where
  size := (size_mintC _ _ _).trans h.size
  c24 := (set_at _ _ _ _ (by decide)).trans ((set_at _ _ _ _ (by decide)).trans h.c24)
  c25 := (set_at _ _ _ _ (by decide)).trans ((set_at _ _ _ _ (by decide)).trans h.c25)
  c26 := (set_at _ _ _ _ (by decide)).trans (set_is _ _ _ (by rw [h.size]; decide))
  c27 := (set_at _ _ _ _ (by decide)).trans ((set_at _ _ _ _ (by decide)).trans h.c27)
  c28 := set_is _ _ _ (by rw [Array.size_setIfInBounds, h.size]; decide)
  c32 := (set_at _ _ _ _ (by decide)).trans ((set_at _ _ _ _ (by decide)).trans h.c32)
  c33 := (set_at _ _ _ _ (by decide)).trans ((set_at _ _ _ _ (by decide)).trans h.c33)
  c36 := (set_at _ _ _ _ (by decide)).trans ((set_at _ _ _ _ (by decide)).trans h.c36)
  c37 := (set_at _ _ _ _ (by decide)).trans ((set_at _ _ _ _ (by decide)).trans h.c37)
  most := h.most
  gen := h.gen
  mnt := hm
  brn := h.brn
  trs := ht
  wms := h.wms
  wds := h.wds
  wes := h.wes
theorem St.Ok.burned {s : St} (h : s.Ok) {t b : Nat} (ht : t < 18446744073709551616) (hb : b < 18446744073709551616) : (s.burned t b).Ok where
  size := (size_burnC _ _ _).trans h.size
  c24 := (set_at _ _ _ _ (by decide)).trans ((set_at _ _ _ _ (by decide)).trans h.c24)
  c25 := (set_at _ _ _ _ (by decide)).trans ((set_at _ _ _ _ (by decide)).trans h.c25)
  c26 := (set_at _ _ _ _ (by decide)).trans ((set_at _ _ _ _ (by decide)).trans h.c26)
  c27 := set_is _ _ _ (by rw [Array.size_setIfInBounds, h.size]; decide)
  c28 := (set_at _ _ _ _ (by decide)).trans (set_is _ _ _ (by rw [h.size]; decide))
  c32 := (set_at _ _ _ _ (by decide)).trans ((set_at _ _ _ _ (by decide)).trans h.c32)
  c33 := (set_at _ _ _ _ (by decide)).trans ((set_at _ _ _ _ (by decide)).trans h.c33)
  c36 := (set_at _ _ _ _ (by decide)).trans ((set_at _ _ _ _ (by decide)).trans h.c36)
  c37 := (set_at _ _ _ _ (by decide)).trans ((set_at _ _ _ _ (by decide)).trans h.c37)
  most := h.most
  gen := h.gen
  mnt := h.mnt
  brn := hb
  trs := ht
  wms := h.wms
  wds := h.wds
  wes := h.wes
theorem St.Ok.richer {s : St} (h : s.Ok) {t : Nat} (ht : t < 18446744073709551616) : (s.richer t).Ok where
  size := (size_richC _ _).trans h.size
  c24 := (set_at _ _ _ _ (by decide)).trans h.c24
  c25 := (set_at _ _ _ _ (by decide)).trans h.c25
  c26 := (set_at _ _ _ _ (by decide)).trans h.c26
  c27 := (set_at _ _ _ _ (by decide)).trans h.c27
  c28 := set_is _ _ _ (by rw [h.size]; decide)
  c32 := (set_at _ _ _ _ (by decide)).trans h.c32
  c33 := (set_at _ _ _ _ (by decide)).trans h.c33
  c36 := (set_at _ _ _ _ (by decide)).trans h.c36
  c37 := (set_at _ _ _ _ (by decide)).trans h.c37
  most := h.most
  gen := h.gen
  mnt := h.mnt
  brn := h.brn
  trs := ht
  wms := h.wms
  wds := h.wds
  wes := h.wes
theorem St.Ok.loser {s : St} (h : s.Ok) {b : Nat} (hb : b < 18446744073709551616) : (s.loser b).Ok where
  size := (size_lostC _ _).trans h.size
  c24 := (set_at _ _ _ _ (by decide)).trans h.c24
  c25 := (set_at _ _ _ _ (by decide)).trans h.c25
  c26 := (set_at _ _ _ _ (by decide)).trans h.c26
  c27 := set_is _ _ _ (by rw [h.size]; decide)
  c28 := (set_at _ _ _ _ (by decide)).trans h.c28
  c32 := (set_at _ _ _ _ (by decide)).trans h.c32
  c33 := (set_at _ _ _ _ (by decide)).trans h.c33
  c36 := (set_at _ _ _ _ (by decide)).trans h.c36
  c37 := (set_at _ _ _ _ (by decide)).trans h.c37
  most := h.most
  gen := h.gen
  mnt := h.mnt
  brn := hb
  trs := h.trs
  wms := h.wms
  wds := h.wds
  wes := h.wes
theorem holdsB_iff (s : St) : holdsB s = true ↔ (s.most ≤ 4611686018427387904 ∧ s.gen + s.mnt ≤ s.most ∧ s.tot + s.brn = s.gen + s.mnt) := by unfold holdsB; rw [decide_eq_true_iff]
theorem tot_minted (s : St) (m t : Nat) : (s.minted m t).tot + s.trs = s.tot + t := by unfold St.tot St.minted; simp only; omega
theorem tot_burned (s : St) (t b : Nat) : (s.burned t b).tot + s.trs = s.tot + t := by unfold St.tot St.burned; simp only; omega
theorem tot_richer (s : St) (t : Nat) : (s.richer t).tot + s.trs = s.tot + t := by unfold St.tot St.richer; simp only; omega
theorem tot_loser (s : St) (b : Nat) : (s.loser b).tot = s.tot := rfl
theorem holds_minted {s : St} (h : holdsB s = true) (n m t : Nat) (hm : m = s.mnt + n) (ht : t = s.trs + n) (hn : s.gen + s.mnt + n ≤ min s.most 4611686018427387904) : holdsB (s.minted m t) = true := by
  rw [holdsB_iff] at h ⊢
  have h2 := tot_minted s m t
  show s.most ≤ _ ∧ s.gen + m ≤ s.most ∧ (s.minted m t).tot + s.brn = s.gen + m
  omega
theorem holds_burned {s : St} (h : holdsB s = true) (n t b : Nat) (hb : b = s.brn + n) (ht : s.trs = t + n) : holdsB (s.burned t b) = true := by
  rw [holdsB_iff] at h ⊢
  have h2 := tot_burned s t b
  show s.most ≤ _ ∧ s.gen + s.mnt ≤ s.most ∧ (s.burned t b).tot + b = s.gen + s.mnt
  omega
theorem holds_richer {s : St} (h : holdsB s = true) (t : Nat) (ht : t = s.trs + 1) : holdsB (s.richer t) = false := by
  rw [Bool.eq_false_iff]
  intro h'
  rw [holdsB_iff] at h h'
  have h2 := tot_richer s t
  have h3 : (s.richer t).tot + s.brn = s.gen + s.mnt := h'.2.2
  omega
theorem holds_loser {s : St} (h : holdsB s = true) (b : Nat) (hb : b = s.brn + 1) : holdsB (s.loser b) = false := by
  rw [Bool.eq_false_iff]
  intro h'
  rw [holdsB_iff] at h h'
  have h3 : s.tot + b = s.gen + s.mnt := h'.2.2
  omega
/-- what a mint or a burn comes to -/
structure Comes (f : FuncId) (s : St) (n : Nat) (c : Array Value) (z : Int) : Prop where
  calls : ∀ W, Calls Try.prog f #[.agg s.cs, .int .u64 n] W fun e w' => e = .returned (.tuple #[.agg c, .int .i64 z]) ∧ Below W.heap.size W w'
  size : c.size = 41
  one : c.all (·.oneCell') = true
  holds : z = 0 → ∀ W, s.At W W.heap.size → Calls Try.prog 38 #[.agg c] W fun e w' => e = .returned (.bool true) ∧ Below W.heap.size W w'
theorem comes_mint (s : St) (hs : s.Ok) (h1 : s.cs.all (·.oneCell') = true) (hf : s.Few) (h : holdsB s = true) (n : Nat) (hn : n < 18446744073709551616) : ∃ c z, Comes 44 s n c z := by
  by_cases hn1 : s.gen + s.mnt + n ≤ min s.most 4611686018427387904
  · by_cases ht : s.trs + n < 18446744073709551616
    · exact ⟨mintC s.cs (s.mnt + n) (s.trs + n), 0, fun W => mint_yes s hs h1 n _ _ rfl rfl hn1 ht W, (size_mintC _ _ _).trans hs.size, one_mintC h1 _ _, fun _ W hA => holds_any (s.minted (s.mnt + n) (s.trs + n)) (hs.minted (by omega) ht) W ⟨hA.us, hA.ms, hA.ds, hA.es⟩ hf true (holds_minted h n _ _ rfl rfl hn1).symm⟩
    · exact ⟨zst, 210, fun W => mint_full s hs n hn1 (by omega) W, rfl, one_zst, fun hz => by cases hz⟩
  · exact ⟨zst, 210, fun W => mint_cap s hs n hn (by omega) W, rfl, one_zst, fun hz => by cases hz⟩
theorem comes_burn (s : St) (hs : s.Ok) (h1 : s.cs.all (·.oneCell') = true) (hf : s.Few) (h : holdsB s = true) (n : Nat) (hn : n < 18446744073709551616) : ∃ c z, Comes 45 s n c z := by
  by_cases ht : s.trs < n
  · exact ⟨zst, 171, fun W => burn_funds s hs n hn ht W, rfl, one_zst, fun hz => by cases hz⟩
  · obtain ⟨t, ht2⟩ : ∃ t, s.trs = t + n := ⟨s.trs - n, by omega⟩
    have l5 := hs.trs
    by_cases hb : s.brn + n < 18446744073709551616
    · exact ⟨burnC s.cs t (s.brn + n), 0, fun W => burn_yes s hs h1 n _ t rfl ht2 hb W, (size_burnC _ _ _).trans hs.size, one_burnC h1 _ _, fun _ W hA => holds_any (s.burned t (s.brn + n)) (hs.burned (by omega) hb) W ⟨hA.us, hA.ms, hA.ds, hA.es⟩ hf true (holds_burned h n t _ rfl ht2).symm⟩
    · exact ⟨zst, 10, fun W => burn_over s hs n t ht2 (by omega) W, rfl, one_zst, fun hz => by cases hz⟩
set_option maxHeartbeats 2000000 in
set_option maxRecDepth 100000 in
theorem holds_core (s : St) (hs : s.Ok) (h1 : s.cs.all (·.oneCell') = true) (hp : s.Plays) (n : Nat) (h : holdsB s = true) (w : World) (hA : s.At w w.heap.size)
    (ca cb : Array Value) (ea eb : Int) (hca : Comes 44 s n ca ea) (hcb : Comes 45 s n cb eb) :
    Calls Try.prog 10 #[.agg s.cs, .int .u64 n] w fun e w' => e = .returned (.bool true) ∧ Below w.heap.size w w' := by
  have hbW : Below w.heap.size w (w.alloc (.cells s.cs 63)) := (Below.refl _ _).alloc (Nat.le_refl _) _
  have hB0 : Blk (w.alloc (.cells s.cs 63)) w.heap.size 63 s.cs := Blk.new w _ _ _ rfl
  obtain ⟨W0, hW0⟩ : ∃ W0, w.alloc (.cells s.cs 63) = W0 := ⟨_, rfl⟩
  rw [hW0] at hbW hB0
  have i41 : (Try.prog.info? 63).map (·.size) = some s.cs.size := by rw [hs.size]; exact info_state
  obtain ⟨hm1, hm2, hm3⟩ := (holdsB_iff s).1 h
  have hle : s.trs ≤ s.tot := by unfold St.tot; omega
  obtain ⟨t1, ht1⟩ : ∃ t1, t1 = s.trs + 1 := ⟨_, rfl⟩
  obtain ⟨b1, hb1⟩ : ∃ b1, b1 = s.brn + 1 := ⟨_, rfl⟩
  have wt := (IntWalk.u64_in ((s.trs : Int) + 1) (by omega)).trans (show (s.trs : Int) + 1 = (t1 : Int) by omega)
  have wb := (IntWalk.u64_in ((s.brn : Int) + 1) (by omega)).trans (show (s.brn : Int) + 1 = (b1 : Int) by omega)
  have HC := Lib.hid (fun W hA => holds_any (s.richer t1) (hs.richer (by omega)) W ⟨hA.us, hA.ms, hA.ds, hA.es⟩ hp.few false (holds_richer h _ ht1).symm : ∀ W : World, s.At W W.heap.size → _)
  have HD := Lib.hid (fun W hA => holds_any (s.loser b1) (hs.loser (by omega)) W ⟨hA.us, hA.ms, hA.ds, hA.es⟩ hp.few false (holds_loser h _ hb1).symm : ∀ W : World, s.At W W.heap.size → _)
  have HI := Lib.hid i41
  have HS := Lib.hid hs
  have H1 := Lib.hid h1
  have HP := Lib.hid hp
  have HH := Lib.hid h
  have HA0 := Lib.hid (hA.to hbW)
  have HB0 := Lib.hid hB0
  have HCA := Lib.hid hca
  have HCB := Lib.hid hcb
  have HW0 := Lib.hid hW0
  clear hm1 hm2 hm3 hle ht1 hb1 i41 hs h1 hp h hA hB0 hca hcb hW0
  go_enter Try.func10, Try.ntmps10
  go_wp2_with fail
  rw [HW0.out]
  refine (awake21 W0).mono ?_
  rintro e w1 ⟨rfl, hb1⟩
  have hb01 := hbW.trans (hb1.mono hbW.size)
  have HA1 := Lib.hid (HA0.out.to hb1)
  have HB1 := Lib.hid (HB0.out.to hb1)
  clear HA0 HB0 hb1 hbW HW0
  go_wp2_with (refine wpList_load_blk rfl 63 (.tmp 2) rfl w.heap.size rfl 63 s.cs _ HB1.out Try.underlying63 rfl HI.out ?_)
  refine (few_any s HS.out w1 true (by have := HP.out; simp; exact this)).mono ?_
  rintro e w2 ⟨rfl, hb2⟩
  have hb02 := hb01.trans (hb2.mono hb01.size)
  have HA2 := Lib.hid (HA1.out.to hb2)
  have HB2 := Lib.hid (HB1.out.to hb2)
  clear HA1 HB1 hb2 hb01
  go_wp2_with (refine wpList_load_want rfl 63 (.tmp 2) rfl w.heap.size rfl 63 s.cs _ HB2.out Try.underlying63 rfl HI.out ?_)
  refine (holds_any s HS.out w2 HA2.out HP.out.few true HH.out.symm).mono ?_
  rintro e w3 ⟨rfl, hb3⟩
  have hb03 := hb02.trans (hb3.mono hb02.size)
  have HA3 := Lib.hid (HA2.out.to hb3)
  have HB3 := Lib.hid (HB2.out.to hb3)
  clear HA2 HB2 hb3 hb02
  go_wp2_with (refine wpList_load_blk rfl 63 (.tmp 2) rfl w.heap.size rfl 63 s.cs _ HB3.out Try.underlying63 rfl HI.out ?_)
  refine (HCA.out.calls w3).mono ?_
  rintro e w4 ⟨rfl, hb4⟩
  have hb04 := hb03.trans (hb4.mono hb03.size)
  have HA4 := Lib.hid (HA3.out.to hb4)
  have HB4 := Lib.hid (HB3.out.to hb4)
  clear HA3 HB3 hb4 hb03
  go_wp2_with (refine wpList_store_new rfl 63 (.tmp 5) (.tmp 25) rfl ca rfl rfl (by rw [HCA.out.size]; exact info_state) (by rw [HCA.out.size]; rfl) HCA.out.one ?_)
  intro w5 hP5 hb5 hs5
  have hb05 := hb04.trans (hb5.mono hb04.size)
  have HA5 := Lib.hid (HA4.out.to hb5)
  have HB5 := Lib.hid (HB4.out.to hb5)
  have HP5 := Lib.hid hP5
  clear HA4 HB4 hb5 hb04 hP5
  go_wp2_with (refine wpList_load_blk rfl 63 (.tmp 2) rfl w.heap.size rfl 63 s.cs _ HB5.out Try.underlying63 rfl HI.out ?_)
  refine (HCB.out.calls w5).mono ?_
  rintro e w6 ⟨rfl, hb6⟩
  have hb06 := hb05.trans (hb6.mono hb05.size)
  have HA6 := Lib.hid (HA5.out.to hb6)
  have HB6 := Lib.hid (HB5.out.to hb6)
  have HP6 := Lib.hid (HP5.out.to hb6)
  clear HA5 HB5 HP5 hb6 hb05
  go_wp2_with (refine wpList_store_new rfl 63 (.tmp 7) (.tmp 31) rfl cb rfl rfl (by rw [HCB.out.size]; exact info_state) (by rw [HCB.out.size]; rfl) HCB.out.one ?_)
  intro w7 hQ7 hb7 hs7
  have hb07 := hb06.trans (hb7.mono hb06.size)
  have HA7 := Lib.hid (HA6.out.to hb7)
  have HB7 := Lib.hid (HB6.out.to hb7)
  have HP7 := Lib.hid (HP6.out.to hb7)
  have HQ7 := Lib.hid hQ7
  clear HA6 HB6 HP6 hb7 hb06 hQ7
  go_wp2_with (first | refine wpList_load_blk rfl 63 (.tmp 2) rfl w.heap.size rfl 63 s.cs _ HB7.out Try.underlying63 rfl HI.out ?_ | refine wpList_store_new rfl 63 (.tmp 9) (.tmp 33) rfl s.cs rfl rfl HI.out (by rw [HS.out.size]; rfl) H1.out ?_)
  intro w8 hC8 hb8 hs8
  have hb08 := hb07.trans (hb8.mono hb07.size)
  have HA8 := Lib.hid (HA7.out.to hb8)
  have HB8 := Lib.hid (HB7.out.to hb8)
  have HP8 := Lib.hid (HP7.out.to hb8)
  have HQ8 := Lib.hid (HQ7.out.to hb8)
  have hz7 := hb07.size
  have q28 := hC8.cell HS.out.c28
  have f28 := hC8.frozen 28
  have hC9 := hC8.set 28 (.int .u64 t1)
  have hb89 : Below w7.heap.size w7 (w8.setCell ⟨w7.heap.size, 28, none⟩ (.int .u64 t1)) := hb8.setCell (Nat.le_refl _) _
  have HC8 := Lib.hid hC9
  clear HA8 HB8 HP8 HQ8 hb8 hb08 hC8 hC9
  go_upto_region 9 with (fail)
  obtain ⟨w9, hw9⟩ : ∃ w9, w8.setCell ⟨w7.heap.size, 28, none⟩ (.int .u64 t1) = w9 := ⟨_, rfl⟩
  have hC9 : Blk w9 w7.heap.size 63 (richC s.cs t1) := by rw [← hw9]; exact HC8.out
  rw [hw9] at hb89
  rw [hw9]
  have hb09 := hb07.trans (hb89.mono hb07.size)
  have HA9 := Lib.hid (HA7.out.to hb89)
  have HB9 := Lib.hid (HB7.out.to hb89)
  have HP9 := Lib.hid (HP7.out.to hb89)
  have HQ9 := Lib.hid (HQ7.out.to hb89)
  have HC9 := Lib.hid hC9
  clear HA7 HB7 HP7 HQ7 HC8 hw9 hC9 hb89 hb07 q28 f28 hs8
  go_wp2_with (first | refine wpList_load_blk rfl 63 (.tmp 2) rfl w.heap.size rfl 63 s.cs _ HB9.out Try.underlying63 rfl HI.out ?_ | refine wpList_store_new rfl 63 (.tmp 10) (.tmp 38) rfl s.cs rfl rfl HI.out (by rw [HS.out.size]; rfl) H1.out ?_)
  intro w10 hD10 hb10 hs10
  have hz9 := hb09.size
  have q27 := hD10.cell HS.out.c27
  have f27 := hD10.frozen 27
  have hD11 := hD10.set 27 (.int .u64 b1)
  have hb911 : Below w9.heap.size w9 (w10.setCell ⟨w9.heap.size, 27, none⟩ (.int .u64 b1)) := hb10.setCell (Nat.le_refl _) _
  have HD10 := Lib.hid hD11
  clear hb10 hD10 hD11
  go_upto_region 11 with (fail)
  obtain ⟨w11, hw11⟩ : ∃ w11, w10.setCell ⟨w9.heap.size, 27, none⟩ (.int .u64 b1) = w11 := ⟨_, rfl⟩
  have hD11 : Blk w11 w9.heap.size 63 (lostC s.cs b1) := by rw [← hw11]; exact HD10.out
  rw [hw11] at hb911
  rw [hw11]
  have hb011 := hb09.trans (hb911.mono hb09.size)
  have HA11 := Lib.hid (HA9.out.to hb911)
  have HP11 := Lib.hid (HP9.out.to hb911)
  have HQ11 := Lib.hid (HQ9.out.to hb911)
  have HC11 := Lib.hid (HC9.out.to hb911)
  have HD11 := Lib.hid hD11
  clear HA9 HB9 HP9 HQ9 HC9 HD10 hw11 hD11 hb911 hb09 q27 f27 hs10
  by_cases hea : ea = 0
  · subst hea
    by_cases heb : eb = 0
    · subst heb
      go_wp2_with (refine wpList_load_want rfl 63 (.tmp 5) rfl w4.heap.size rfl 63 ca _ HP11.out Try.underlying63 rfl (by rw [HCA.out.size]; exact info_state) ?_)
      refine (HCA.out.holds rfl w11 HA11.out).mono ?_
      rintro e w12 ⟨rfl, hb12⟩
      have hb012 := hb011.trans (hb12.mono hb011.size)
      have HA12 := Lib.hid (HA11.out.to hb12)
      have HQ12 := Lib.hid (HQ11.out.to hb12)
      have HC12 := Lib.hid (HC11.out.to hb12)
      have HD12 := Lib.hid (HD11.out.to hb12)
      clear hb12 hb011 HA11 HQ11 HC11 HD11
      go_wp2_with (refine wpList_load_want rfl 63 (.tmp 7) rfl w6.heap.size rfl 63 cb _ HQ12.out Try.underlying63 rfl (by rw [HCB.out.size]; exact info_state) ?_)
      refine (HCB.out.holds rfl w12 HA12.out).mono ?_
      rintro e w13 ⟨rfl, hb13⟩
      have hb013 := hb012.trans (hb13.mono hb012.size)
      have HA13 := Lib.hid (HA12.out.to hb13)
      have HC13 := Lib.hid (HC12.out.to hb13)
      have HD13 := Lib.hid (HD12.out.to hb13)
      clear hb13 hb012 HA12 HC12 HD12
      go_wp2_with (refine wpList_load_want rfl 63 (.tmp 9) rfl w7.heap.size rfl 63 (richC s.cs t1) _ HC13.out Try.underlying63 rfl (by rw [size_richC, HS.out.size]; exact info_state) ?_)
      refine (HC.out w13 HA13.out).mono ?_
      rintro e w14 ⟨rfl, hb14⟩
      have hb014 := hb013.trans (hb14.mono hb013.size)
      have HA14 := Lib.hid (HA13.out.to hb14)
      have HD14 := Lib.hid (HD13.out.to hb14)
      clear hb14 hb013 HA13 HD13
      go_wp2_with (refine wpList_load_want rfl 63 (.tmp 10) rfl w9.heap.size rfl 63 (lostC s.cs b1) _ HD14.out Try.underlying63 rfl (by rw [size_lostC, HS.out.size]; exact info_state) ?_)
      refine (HD.out w14 HA14.out).mono ?_
      rintro e w15 ⟨rfl, hb15⟩
      have hb015 := hb014.trans (hb15.mono hb014.size)
      have HA15 := Lib.hid (HA14.out.to hb15)
      clear hb15 hb014 HA14
      go_wp2
      go_ret
      exact ⟨rfl, hb015⟩
    · have m2 : ((eb : Int) != 0) = true := by simpa using heb
      clear heb
      go_wp2_with (refine wpList_load_want rfl 63 (.tmp 5) rfl w4.heap.size rfl 63 ca _ HP11.out Try.underlying63 rfl (by rw [HCA.out.size]; exact info_state) ?_)
      refine (HCA.out.holds rfl w11 HA11.out).mono ?_
      rintro e w12 ⟨rfl, hb12⟩
      have hb012 := hb011.trans (hb12.mono hb011.size)
      have HA12 := Lib.hid (HA11.out.to hb12)
      have HQ12 := Lib.hid (HQ11.out.to hb12)
      have HC12 := Lib.hid (HC11.out.to hb12)
      have HD12 := Lib.hid (HD11.out.to hb12)
      clear hb12 hb011 HA11 HQ11 HC11 HD11
      go_wp2_with (refine wpList_load_want rfl 63 (.tmp 9) rfl w7.heap.size rfl 63 (richC s.cs t1) _ HC12.out Try.underlying63 rfl (by rw [size_richC, HS.out.size]; exact info_state) ?_)
      refine (HC.out w12 HA12.out).mono ?_
      rintro e w13 ⟨rfl, hb13⟩
      have hb013 := hb012.trans (hb13.mono hb012.size)
      have HA13 := Lib.hid (HA12.out.to hb13)
      have HD13 := Lib.hid (HD12.out.to hb13)
      clear hb13 hb012 HA12 HD12
      go_wp2_with (refine wpList_load_want rfl 63 (.tmp 10) rfl w9.heap.size rfl 63 (lostC s.cs b1) _ HD13.out Try.underlying63 rfl (by rw [size_lostC, HS.out.size]; exact info_state) ?_)
      refine (HD.out w13 HA13.out).mono ?_
      rintro e w14 ⟨rfl, hb14⟩
      have hb014 := hb013.trans (hb14.mono hb013.size)
      have HA14 := Lib.hid (HA13.out.to hb14)
      clear hb14 hb013 HA13
      go_wp2
      go_ret
      exact ⟨rfl, hb014⟩
  · have m1 : ((ea : Int) != 0) = true := by simpa using hea
    clear hea
    by_cases heb : eb = 0
    · subst heb
      go_wp2_with (refine wpList_load_want rfl 63 (.tmp 7) rfl w6.heap.size rfl 63 cb _ HQ11.out Try.underlying63 rfl (by rw [HCB.out.size]; exact info_state) ?_)
      refine (HCB.out.holds rfl w11 HA11.out).mono ?_
      rintro e w12 ⟨rfl, hb12⟩
      have hb012 := hb011.trans (hb12.mono hb011.size)
      have HA12 := Lib.hid (HA11.out.to hb12)
      have HC12 := Lib.hid (HC11.out.to hb12)
      have HD12 := Lib.hid (HD11.out.to hb12)
      clear hb12 hb011 HA11 HC11 HD11
      go_wp2_with (refine wpList_load_want rfl 63 (.tmp 9) rfl w7.heap.size rfl 63 (richC s.cs t1) _ HC12.out Try.underlying63 rfl (by rw [size_richC, HS.out.size]; exact info_state) ?_)
      refine (HC.out w12 HA12.out).mono ?_
      rintro e w13 ⟨rfl, hb13⟩
      have hb013 := hb012.trans (hb13.mono hb012.size)
      have HA13 := Lib.hid (HA12.out.to hb13)
      have HD13 := Lib.hid (HD12.out.to hb13)
      clear hb13 hb012 HA12 HD12
      go_wp2_with (refine wpList_load_want rfl 63 (.tmp 10) rfl w9.heap.size rfl 63 (lostC s.cs b1) _ HD13.out Try.underlying63 rfl (by rw [size_lostC, HS.out.size]; exact info_state) ?_)
      refine (HD.out w13 HA13.out).mono ?_
      rintro e w14 ⟨rfl, hb14⟩
      have hb014 := hb013.trans (hb14.mono hb013.size)
      have HA14 := Lib.hid (HA13.out.to hb14)
      clear hb14 hb013 HA13
      go_wp2
      go_ret
      exact ⟨rfl, hb014⟩
    · have m2 : ((eb : Int) != 0) = true := by simpa using heb
      clear heb
      go_wp2_with (refine wpList_load_want rfl 63 (.tmp 9) rfl w7.heap.size rfl 63 (richC s.cs t1) _ HC11.out Try.underlying63 rfl (by rw [size_richC, HS.out.size]; exact info_state) ?_)
      refine (HC.out w11 HA11.out).mono ?_
      rintro e w12 ⟨rfl, hb12⟩
      have hb012 := hb011.trans (hb12.mono hb011.size)
      have HA12 := Lib.hid (HA11.out.to hb12)
      have HD12 := Lib.hid (HD11.out.to hb12)
      clear hb12 hb011 HA11 HD11
      go_wp2_with (refine wpList_load_want rfl 63 (.tmp 10) rfl w9.heap.size rfl 63 (lostC s.cs b1) _ HD12.out Try.underlying63 rfl (by rw [size_lostC, HS.out.size]; exact info_state) ?_)
      refine (HD.out w12 HA12.out).mono ?_
      rintro e w13 ⟨rfl, hb13⟩
      have hb013 := hb012.trans (hb13.mono hb012.size)
      have HA13 := Lib.hid (HA12.out.to hb13)
      clear hb13 hb012 HA12
      go_wp2
      go_ret
      exact ⟨rfl, hb013⟩
set_option maxHeartbeats 2000000 in
set_option maxRecDepth 100000 in
theorem holds_many (s : St) (hs : s.Ok) (n : Nat) (w : World) (hA : s.At w w.heap.size) (hp : ¬ s.Plays) :
    Calls Try.prog 10 #[.agg s.cs, .int .u64 n] w fun e w' => e = .returned (.bool true) ∧ Below w.heap.size w w' := by
  have hbW : Below w.heap.size w (w.alloc (.cells s.cs 63)) := (Below.refl _ _).alloc (Nat.le_refl _) _
  have hB0 : Blk (w.alloc (.cells s.cs 63)) w.heap.size 63 s.cs := Blk.new w _ _ _ rfl
  obtain ⟨W0, hW0⟩ : ∃ W0, w.alloc (.cells s.cs 63) = W0 := ⟨_, rfl⟩
  rw [hW0] at hbW hB0
  have i41 : (Try.prog.info? 63).map (·.size) = some s.cs.size := by rw [hs.size]; exact info_state
  have HI := Lib.hid i41
  have HS := Lib.hid hs
  have HA0 := Lib.hid (hA.to hbW)
  have HB0 := Lib.hid hB0
  have HW0 := Lib.hid hW0
  have HP := Lib.hid hp
  clear i41 hs hp hA hB0 hW0
  go_enter Try.func10, Try.ntmps10
  go_wp2_with fail
  rw [HW0.out]
  refine (awake21 W0).mono ?_
  rintro e w1 ⟨rfl, hb1⟩
  have hb01 := hbW.trans (hb1.mono hbW.size)
  have HB1 := Lib.hid (HB0.out.to hb1)
  clear HA0 HB0 hb1 hbW HW0
  go_wp2_with (refine wpList_load_blk rfl 63 (.tmp 2) rfl w.heap.size rfl 63 s.cs _ HB1.out Try.underlying63 rfl HI.out ?_)
  refine (few_any s HS.out w1 false (by have := HP.out; symm; rw [decide_eq_false_iff_not]; exact this)).mono ?_
  rintro e w2 ⟨rfl, hb2⟩
  have hb02 := hb01.trans (hb2.mono hb01.size)
  clear HB1 hb2 hb01
  go_wp2
  go_ret
  exact ⟨rfl, hb02⟩
set_option maxHeartbeats 2000000 in
set_option maxRecDepth 100000 in
theorem holds_not (s : St) (hs : s.Ok) (n : Nat) (w : World) (hA : s.At w w.heap.size) (hp : s.Plays) (h : holdsB s = false) :
    Calls Try.prog 10 #[.agg s.cs, .int .u64 n] w fun e w' => e = .returned (.bool true) ∧ Below w.heap.size w w' := by
  have hbW : Below w.heap.size w (w.alloc (.cells s.cs 63)) := (Below.refl _ _).alloc (Nat.le_refl _) _
  have hB0 : Blk (w.alloc (.cells s.cs 63)) w.heap.size 63 s.cs := Blk.new w _ _ _ rfl
  obtain ⟨W0, hW0⟩ : ∃ W0, w.alloc (.cells s.cs 63) = W0 := ⟨_, rfl⟩
  rw [hW0] at hbW hB0
  have i41 : (Try.prog.info? 63).map (·.size) = some s.cs.size := by rw [hs.size]; exact info_state
  have HI := Lib.hid i41
  have HS := Lib.hid hs
  have HA0 := Lib.hid (hA.to hbW)
  have HB0 := Lib.hid hB0
  have HW0 := Lib.hid hW0
  have HP := Lib.hid hp
  have HH := Lib.hid h
  clear i41 hs hp hA hB0 hW0 h
  go_enter Try.func10, Try.ntmps10
  go_wp2_with fail
  rw [HW0.out]
  refine (awake21 W0).mono ?_
  rintro e w1 ⟨rfl, hb1⟩
  have hb01 := hbW.trans (hb1.mono hbW.size)
  have HA1 := Lib.hid (HA0.out.to hb1)
  have HB1 := Lib.hid (HB0.out.to hb1)
  clear HA0 HB0 hb1 hbW HW0
  go_wp2_with (refine wpList_load_blk rfl 63 (.tmp 2) rfl w.heap.size rfl 63 s.cs _ HB1.out Try.underlying63 rfl HI.out ?_)
  refine (few_any s HS.out w1 true (by have := HP.out; symm; rw [decide_eq_true_iff]; exact this)).mono ?_
  rintro e w2 ⟨rfl, hb2⟩
  have hb02 := hb01.trans (hb2.mono hb01.size)
  have HA2 := Lib.hid (HA1.out.to hb2)
  have HB2 := Lib.hid (HB1.out.to hb2)
  clear HA1 HB1 hb2 hb01
  go_wp2_with (refine wpList_load_want rfl 63 (.tmp 2) rfl w.heap.size rfl 63 s.cs _ HB2.out Try.underlying63 rfl HI.out ?_)
  refine (holds_any s HS.out w2 HA2.out HP.out.few false HH.out.symm).mono ?_
  rintro e w3 ⟨rfl, hb3⟩
  have hb03 := hb02.trans (hb3.mono hb02.size)
  clear HA2 HB2 hb3 hb02
  go_wp2
  go_ret
  exact ⟨rfl, hb03⟩
theorem holds_law (s : St) (hs : s.Ok) (h1 : s.cs.all (·.oneCell') = true) (n : Nat) (hn : n < 18446744073709551616) (w : World) (hA : s.At w w.heap.size) :
    Calls Try.prog 10 #[.agg s.cs, .int .u64 n] w fun e w' => e = .returned (.bool true) ∧ Below w.heap.size w w' := by
  by_cases hp : s.Plays
  · by_cases h : holdsB s = true
    · obtain ⟨ca, ea, hca⟩ := comes_mint s hs h1 hp.few h n hn
      obtain ⟨cb, eb, hcb⟩ := comes_burn s hs h1 hp.few h n hn
      exact holds_core s hs h1 hp n h w hA ca cb ea eb hca hcb
    · exact holds_not s hs n w hA hp (by simpa using h)
  · exact holds_many s hs n w hA hp
end Go.Proofs.Ytdjeedmiicagcaa.SupplyW
