/- The law SupplyParts: its walk. Conditions: lists are read rightly. Printed by gen_sup14.py. -/
import Derived.Test.YtdjeedmiicagcaaSup12
import Derived.Test.YtdjeedmiicagcaaSup13
import Derived.Laws.StructEq
namespace Go.Proofs.Ytdjeedmiicagcaa.SupplyW
open Go.RowKit
open Go.Proofs.Ytdjeedmiicagcaa.Words Go.Proofs.Ytdjeedmiicagcaa.Agg Go.Proofs.Ytdjeedmiicagcaa.NatW Go.Proofs.Ytdjeedmiicagcaa.PurseW Go.Proofs.Ytdjeedmiicagcaa.PoolW

/-- the document's money is the state's -/
structure Fit (s : St) (m : Mon) : Prop where
  most : m.most = s.most
  gen : m.gen = s.gen
  mnt : m.mnt = s.mnt
  brn : m.brn = s.brn
  trs : m.trs = s.trs
  a : sumn (s.ms.map Mem.bal) = sm m.l1 m.n1
  b : sumn s.us = sm m.l2 m.n2
  c : sumn (ams s.ds []) = sm m.l3 m.n3
  d : sumn (ams [] s.es) = sm m.l4 m.n4
theorem fit_of {s : St} {m : Mon} {w : World} {L : Nat} (hA : m.At w L) (h1 : m.most = s.most ∧ m.gen = s.gen ∧ m.mnt = s.mnt ∧ m.brn = s.brn ∧ m.trs = s.trs) (h2 : m.l1 = s.ms.map Mem.bal ∧ m.l2 = s.us ∧ m.l3 = s.ds.map Dep.am ∧ m.l4 = s.es.map Du.am) : Fit s m where
  most := h1.1
  gen := h1.2.1
  mnt := h1.2.2.1
  brn := h1.2.2.2.1
  trs := h1.2.2.2.2
  a := by rw [← h2.1, ← hA.l1.1]; rfl
  b := by rw [← h2.2.1, ← hA.l2.1]; rfl
  c := by rw [ams_left, ← h2.2.2.1, ← hA.l3.1]; rfl
  d := by rw [ams_right, ← h2.2.2.2, ← hA.l4.1]; rfl
theorem Fit.tot {s : St} {m : Mon} (h : Fit s m) : s.tot = rtot m := by
  unfold St.tot rtot
  rw [h.a, h.b, h.c, h.d, h.trs]; omega
theorem Fit.holds {s : St} {m : Mon} (h : Fit s m) : rholdsB m = holdsB s := by
  have h0 : rholdsB m = decide (m.gen + m.mnt ≤ m.most ∧ m.most ≤ 4611686018427387904 ∧ rtot m + m.brn = m.gen + m.mnt) := rfl
  rw [h0, ← h.tot, h.most, h.gen, h.mnt, h.brn]
  unfold holdsB
  rw [decide_eq_decide]
  constructor
  · rintro ⟨a, b, c⟩; exact ⟨b, a, c⟩
  · rintro ⟨a, b, c⟩; exact ⟨b, a, c⟩
theorem eq_sheet (w : World) : (binOp .eql 69 (.agg (shc 0 0 0 0 0)) (.agg #[.int .u64 0, .int .u64 0, .int .u64 0, .int .u64 0, .int .u64 0])).run Try.prog w = .ok (.bool true) w := by
  have u := Try.underlying22
  have a := Try.isAgg22
  have z := Try.sizeOf22
  have hS : Try.prog.underlying 69 = some (.struct (Try.prog.fieldsOf 69)) := by kernel_rfl
  have hp : Try.prog.stoodInHeld 69 = false := by kernel_rfl
  simp only [shc]
  rw [run_eql_struct, show (10000 : Nat) = 9999 + 1 from rfl, run_equalIn_agg w 9999 69 _ _ hS hp]
  simp only [Program.fieldsOf, Try.underlying69]
  go_simp
theorem guard_sheet : Try.prog.eqGuardType Try.prog.depth 69 = false := by kernel_rfl
def oks (m : Mon) : Prop := sm m.l1 m.n1 < 18446744073709551616 ∧ sm m.l2 m.n2 < 18446744073709551616 ∧ sm m.l3 m.n3 < 18446744073709551616 ∧ sm m.l4 m.n4 < 18446744073709551616
theorem ub_iff (N : Nat) : (ub N).2 = true ↔ N < 18446744073709551616 := by
  unfold ub
  by_cases h : N < 18446744073709551616
  · rw [if_pos h]; exact ⟨fun _ => h, fun _ => rfl⟩
  · rw [if_neg h]; exact ⟨fun h' => (by cases h'), fun h' => absurd h' h⟩
theorem fits_iff (m : Mon) : fitsB m = true ↔ oks m := by
  unfold fitsB oks
  rw [Bool.and_eq_true, Bool.and_eq_true, Bool.and_eq_true, ub_iff, ub_iff, ub_iff, ub_iff]
  constructor
  · rintro ⟨⟨⟨a, b⟩, c⟩, d⟩; exact ⟨a, b, c, d⟩
  · rintro ⟨a, b, c, d⟩; exact ⟨⟨⟨a, b⟩, c⟩, d⟩
theorem sumr_lt {us : List Nat} {r : Nat × Int} (h : sumr us r) (hl : sumn us < 18446744073709551616) : r = (sumn us, 0) := by
  rcases sumr_ok h with ⟨h1, h2, _⟩ | ⟨_, _, h3⟩
  · obtain ⟨a, b⟩ := r; simp only at h1 h2; rw [h1, h2]
  · omega
theorem sumr_all {a b c d : List Nat} {p q r t : Nat × Int} (h1 : sumr a p) (h2 : sumr b q) (h3 : sumr c r) (h4 : sumr d t) : (p.2 = 0 ∧ q.2 = 0 ∧ r.2 = 0 ∧ t.2 = 0) ↔ (sumn a < 18446744073709551616 ∧ sumn b < 18446744073709551616 ∧ sumn c < 18446744073709551616 ∧ sumn d < 18446744073709551616) := by
  have k : ∀ {u : List Nat} {x : Nat × Int}, sumr u x → (x.2 = 0 ↔ sumn u < 18446744073709551616) := fun {u} {x} h => by
    rcases sumr_ok h with ⟨h1, _, h3⟩ | ⟨h1, _, h3⟩
    · exact ⟨fun _ => h3, fun _ => h1⟩
    · exact ⟨fun h => absurd (h1.symm.trans h) (by decide), fun h => absurd h (by omega)⟩
  rw [k h1, k h2, k h3, k h4]
set_option maxHeartbeats 2000000 in
set_option maxRecDepth 100000 in
theorem parts_many (s : St) (hs : s.Ok) (w : World) (hA : s.At w w.heap.size) (hp : ¬ s.Plays) :
    Calls Try.prog 9 #[.agg s.cs] w fun e w' => e = .returned (.bool true) ∧ Below w.heap.size w w' := by
  have hbW : Below w.heap.size w (w.alloc (.cells s.cs 63)) := (Below.refl _ _).alloc (Nat.le_refl _) _
  have hB0 : Blk (w.alloc (.cells s.cs 63)) w.heap.size 63 s.cs := Blk.new w _ _ _ rfl
  obtain ⟨W0, hW0⟩ : ∃ W0, w.alloc (.cells s.cs 63) = W0 := ⟨_, rfl⟩
  rw [hW0] at hbW hB0
  have i41 : (Try.prog.info? 63).map (·.size) = some s.cs.size := by rw [hs.size]; exact info_state
  have HI := Lib.hid i41
  have HS := Lib.hid hs
  have HA0 := Lib.hid (hA.to hbW)
  have HB0 := Lib.hid hB0
  have HW0 := Lib.hid hW0
  have HP := Lib.hid hp
  clear i41 hs hp hA hB0 hW0
  go_enter Try.func9, Try.ntmps9
  go_wp2_with fail
  rw [HW0.out]
  refine (awake21 W0).mono ?_
  rintro e w1 ⟨rfl, hb1⟩
  have hb01 := hbW.trans (hb1.mono hbW.size)
  have HA1 := Lib.hid (HA0.out.to hb1)
  have HB1 := Lib.hid (HB0.out.to hb1)
  clear HA0 HB0 hb1 hbW HW0
  go_wp2_with (refine wpList_load_blk rfl 63 (.tmp 1) rfl w.heap.size rfl 63 s.cs _ HB1.out Try.underlying63 rfl HI.out ?_)
  refine (few_any s HS.out w1 false (by have := HP.out; symm; rw [decide_eq_false_iff_not]; exact this)).mono ?_
  rintro e w2 ⟨rfl, hb2⟩
  have hb02 := hb01.trans (hb2.mono hb01.size)
  clear HB1 hb2 hb01
  go_wp2
  go_ret
  exact ⟨rfl, hb02⟩
set_option maxHeartbeats 8000000 in
set_option maxRecDepth 100000 in
theorem parts_core (s : St) (hs : s.Ok) (w : World) (hA : s.At w w.heap.size) (hp : s.Plays) :
    Calls Try.prog 9 #[.agg s.cs] w fun e w' => e = .returned (.bool true) ∧ Below w.heap.size w w' := by
  have hbW : Below w.heap.size w (w.alloc (.cells s.cs 63)) := (Below.refl _ _).alloc (Nat.le_refl _) _
  have hB0 : Blk (w.alloc (.cells s.cs 63)) w.heap.size 63 s.cs := Blk.new w _ _ _ rfl
  obtain ⟨W0, hW0⟩ : ∃ W0, w.alloc (.cells s.cs 63) = W0 := ⟨_, rfl⟩
  rw [hW0] at hbW hB0
  have i41 : (Try.prog.info? 63).map (·.size) = some s.cs.size := by rw [hs.size]; exact info_state
  have HI := Lib.hid i41
  have HS := Lib.hid hs
  have HA0 := Lib.hid (hA.to hbW)
  have HB0 := Lib.hid hB0
  have HW0 := Lib.hid hW0
  have HP := Lib.hid hp
  clear i41 hs hp hA hB0 hW0
  go_enter Try.func9, Try.ntmps9
  go_wp2_with fail
  rw [HW0.out]
  refine (awake21 W0).mono ?_
  rintro e w1 ⟨rfl, hb1⟩
  have hb01 := hbW.trans (hb1.mono hbW.size)
  have HA1 := Lib.hid (HA0.out.to hb1)
  have HB1 := Lib.hid (HB0.out.to hb1)
  clear HA0 HB0 hb1 hbW HW0
  go_wp2_with (refine wpList_load_blk rfl 63 (.tmp 1) rfl w.heap.size rfl 63 s.cs _ HB1.out Try.underlying63 rfl HI.out ?_)
  refine (few_any s HS.out w1 true (by have := HP.out; symm; rw [decide_eq_true_iff]; exact this)).mono ?_
  rintro e w2 ⟨rfl, hb2⟩
  have hb02 := hb01.trans (hb2.mono hb01.size)
  have HA2 := Lib.hid (HA1.out.to hb2)
  have HB2 := Lib.hid (HB1.out.to hb2)
  clear HA1 HB1 hb2 hb01
  go_wp2_with (refine wpList_load_blk rfl 63 (.tmp 1) rfl w.heap.size rfl 63 s.cs _ HB2.out Try.underlying63 rfl HI.out ?_)
  refine (money_any s HS.out w2 HA2.out HP.out.few).mono ?_
  rintro e w3 ⟨m, rfl, hmok, hmat, hm1, hm2, hb3⟩
  have HF := Lib.hid (fit_of hmat hm1 hm2)
  have HMo := Lib.hid hmok
  have HM3 := Lib.hid hmat
  have hb03 := hb02.trans (hb3.mono hb02.size)
  have HA3 := Lib.hid (HA2.out.to hb3)
  have HB3 := Lib.hid (HB2.out.to hb3)
  clear HA2 HB2 hb3 hb02 hmat hm1 hm2 hmok
  have onem : m.cs.all (·.oneCell') = true := by simp [Mon.cs, Value.oneCell']
  have HOM := Lib.hid onem
  clear onem
  go_wp2_with (refine wpList_store_new rfl 66 (.tmp 3) (.tmp 16) rfl m.cs rfl rfl info_money rfl HOM.out ?_)
  intro w4 hG4 hb4 hs4
  obtain ⟨g3, hg3⟩ : ∃ g, w3.heap.size = g := ⟨_, rfl⟩
  have hgl : w.heap.size ≤ g3 := by rw [← hg3]; exact hb03.size
  have hb04 := hb03.trans (hb4.mono hb03.size)
  have HA4 := Lib.hid (HA3.out.to hb4)
  have HB4 := Lib.hid (HB3.out.to hb4)
  have HM4 := Lib.hid (HM3.out.to hb4)
  rw [hg3] at hG4
  have HG4 := Lib.hid hG4
  simp only [hg3]
  clear HA3 HB3 HM3 hb4 hb03 hG4 hs4 hg3
  obtain ⟨a, ha⟩ := sumr_ex (s.ms.map Mem.bal)
  obtain ⟨b, hb⟩ := sumr_ex s.us
  obtain ⟨c, hc⟩ := sumr_ex (ams s.ds [])
  obtain ⟨d, hd⟩ := sumr_ex (ams [] s.es)
  obtain ⟨fb, hfb⟩ : ∃ fb, fb = fitsB m := ⟨_, rfl⟩
  have hiff := sumr_all ha hb hc hd
  rw [HF.out.a, HF.out.b, HF.out.c, HF.out.d] at hiff
  have hgood : fb = decide (a.2 = 0 ∧ b.2 = 0 ∧ c.2 = 0 ∧ d.2 = 0) := by
    rw [hfb, Bool.eq_iff_iff, fits_iff, decide_eq_true_iff]; exact hiff.symm
  have HPa := Lib.hid (parts_any s HS.out w4 HA4.out HP.out.few a b c d ⟨ha, hb, hc, hd⟩ fb hgood)
  have HFb := Lib.hid hfb
  have Ha := Lib.hid ha
  have Hb := Lib.hid hb
  have Hc := Lib.hid hc
  have Hd := Lib.hid hd
  have HRH := Lib.hid (fun W hA' => rholds_any m HMo.out W hA' (holdsB s) HF.out.holds.symm : ∀ W : World, m.At W W.heap.size → _)
  clear hfb hiff hgood ha hb hc hd
  obtain ⟨hB, hhB⟩ : ∃ x, holdsB s = x := ⟨_, rfl⟩
  rw [hhB] at HRH
  have HHB := Lib.hid hhB
  clear hhB
  go_wp2_with (refine wpList_load_blk rfl 63 (.tmp 1) rfl w.heap.size rfl 63 s.cs _ HB4.out Try.underlying63 rfl HI.out ?_)
  refine HPa.out.mono ?_
  rintro e w5 ⟨rfl, hb5⟩
  have hb05 := hb04.trans (hb5.mono hb04.size)
  have HA5 := Lib.hid (HA4.out.to hb5)
  have HB5 := Lib.hid (HB4.out.to hb5)
  have HM5 := Lib.hid (HM4.out.to hb5)
  have HG5 := Lib.hid (HG4.out.to hb5)
  clear HA4 HB4 HM4 HG4 hb5 hb04 HPa
  have hx : ∃ xcs z, (if fb = true then shc a.1 b.1 c.1 d.1 s.trs else shc 0 0 0 0 0) = xcs ∧ (if fb = true then (0 : Int) else 10) = z ∧ xcs.size = 5 ∧ xcs.all (·.oneCell') = true := by
    cases fb
    · exact ⟨_, _, rfl, rfl, rfl, one_shc ..⟩
    · exact ⟨_, _, rfl, rfl, rfl, one_shc ..⟩
  obtain ⟨xcs, z, hx1, hx2, hx3, hx4⟩ := hx
  rw [hx1, hx2]
  have HX1 := Lib.hid hx1
  have HX2 := Lib.hid hx2
  have HX3 := Lib.hid hx3
  have HX4 := Lib.hid hx4
  clear hx1 hx2 hx3 hx4
  go_wp2_with (refine wpList_store_new rfl 69 (.tmp 4) (.tmp 20) rfl xcs rfl rfl (by rw [HX3.out]; exact info_sheet) (by rw [HX3.out]; rfl) HX4.out ?_)
  intro w6 hG6 hb6 hs6
  obtain ⟨g4, hg4⟩ : ∃ g, w5.heap.size = g := ⟨_, rfl⟩
  have hb06 := hb05.trans (hb6.mono hb05.size)
  have HA6 := Lib.hid (HA5.out.to hb6)
  have HB6 := Lib.hid (HB5.out.to hb6)
  have HM6 := Lib.hid (HM5.out.to hb6)
  have HG6 := Lib.hid (HG5.out.to hb6)
  rw [hg4] at hG6
  have HX6 := Lib.hid hG6
  simp only [hg4]
  clear HA5 HB5 HM5 HG5 hb6 hb05 hG6 hs6 hg4
  go_upto_region 7 with (fail)
  refine wp_region_held_drew (S := fun w' => Blk w' w.heap.size 63 s.cs ∧ Blk w' g3 66 m.cs ∧ Below w6.heap.size w6 w') (by kernel_rfl) ⟨HB6.out, HG6.out, (Below.refl _ _).drew⟩ (fun hHeld => ?_)
  refine wpAnyH_take (i := 0) (v := .agg s.cs.toList.toArray) rfl (by kernel_rfl) (by kernel_rfl) (by kernel_rfl) (fun _ _ _ h => h) (yieldsIf_load_mid (by rfl) 63 (.tmp 1) rfl w.heap.size 0 rfl s.cs.toList _ (fun w' hS j v hv => by rw [Nat.zero_add]; exact hS.1.cell (by simpa using hv)) Try.underlying63 rfl (by rw [Array.length_toList]; exact HI.out)) hHeld ?_
  try simp only [Act.put, List.setIfInBounds_toArray, List.set_cons_zero, List.set_cons_succ, List.getElem_toArray, List.getElem_cons_zero]
  refine wpAnyH_take (i := 2) (v := .agg m.cs.toList.toArray) rfl (by kernel_rfl) (by kernel_rfl) (by kernel_rfl) (fun _ _ _ h => h) (yieldsIf_load_mid (by rfl) 66 (.tmp 3) rfl g3 0 rfl m.cs.toList _ (fun w' hS j v hv => by rw [Nat.zero_add]; exact hS.2.1.cell (by simpa using hv)) Try.underlying66 rfl (info_mon m)) hHeld ?_
  try simp only [Act.put, List.setIfInBounds_toArray, List.set_cons_zero, List.set_cons_succ, List.getElem_toArray, List.getElem_cons_zero, List.getElem_cons_succ]
  refine wpAnyH_ready (rs := [1]) (by kernel_rfl) (by simp) ?_
  refine AllReadyH.cons rfl (fun K hK => ?_) AllReadyH.nil
  try simp only [List.getElem_toArray, List.getElem_cons_zero, List.getElem_cons_succ]
  go_simp
  refine (holds_any s HS.out _ (HA6.out.to (Below.drew (Below.refl _ _))) HP.out.few hB HHB.out.symm).mono ?_
  rintro e w7 ⟨rfl, hb_w7⟩
  have hB_w7 : Below w6.heap.size w6 w7 := nxt (Below.drew (Below.refl _ _)) hb_w7
  refine hK.out _ _ ⟨HB6.out.to hB_w7, HG6.out.to hB_w7, hB_w7⟩ (fun hHeld => ?_)
  clear hK K
  try simp only [Act.put, List.setIfInBounds_toArray, List.set_cons_zero, List.set_cons_succ, List.getElem_toArray, List.getElem_cons_zero, List.getElem_cons_succ]
  refine wpAnyH_ready (rs := [3]) (by kernel_rfl) (by simp) ?_
  refine AllReadyH.cons rfl (fun K hK => ?_) AllReadyH.nil
  try simp only [List.getElem_toArray, List.getElem_cons_zero, List.getElem_cons_succ]
  go_simp
  refine (HRH.out _ (HM6.out.to hB_w7)).mono ?_
  rintro e w8 ⟨rfl, hb_w8⟩
  have hB_w8 : Below w6.heap.size w6 w8 := nxt hB_w7 hb_w8
  refine hK.out _ _ ⟨HB6.out.to hB_w8, HG6.out.to hB_w8, hB_w8⟩ (fun hHeld => ?_)
  clear hK K
  try simp only [Act.put, List.setIfInBounds_toArray, List.set_cons_zero, List.set_cons_succ, List.getElem_toArray, List.getElem_cons_zero, List.getElem_cons_succ]
  refine wpAnyH_take (i := 4) (v := ?vr4) rfl (by kernel_rfl) (by kernel_rfl) (by kernel_rfl) (fun _ _ _ h => h) (Or.inl ⟨by rfl, ?yr4⟩) hHeld ?rr4
  case yr4 =>
    intro w' hSw
    try simp only [List.getElem_toArray, List.getElem_cons_zero, List.getElem_cons_succ]
    go_simp
    try with_reducible rfl
  try simp only [Act.put, List.setIfInBounds_toArray, List.set_cons_zero, List.set_cons_succ, List.getElem_toArray, List.getElem_cons_zero, List.getElem_cons_succ]
  refine wpAnyH_done (by kernel_rfl) ?_ _
  have hb08 := hb06.trans (hB_w8.mono hb06.size)
  have HM8 := Lib.hid (HM6.out.to hB_w8)
  have HB8 := Lib.hid (HB6.out.to hB_w8)
  have HG8 := Lib.hid (HG6.out.to hB_w8)
  have HX8 := Lib.hid (HX6.out.to hB_w8)
  clear HA6 HB6 HM6 HG6 HX6 hB_w7 hB_w8 hb_w7 hb_w8 hHeld hb06 HHB HRH
  go_wp2_with (refine wpList_load_blk rfl 66 (.tmp 3) rfl g3 rfl 66 m.cs _ HG8.out Try.underlying66 rfl info_money ?_)
  refine (fits_any m HMo.out w8 HM8.out fb HFb.out).mono ?_
  rintro e w9 ⟨rfl, hb9⟩
  have hb09 := hb08.trans (hb9.mono hb08.size)
  have HM9 := Lib.hid (HM8.out.to hb9)
  have HB9 := Lib.hid (HB8.out.to hb9)
  have HG9 := Lib.hid (HG8.out.to hb9)
  have HX9 := Lib.hid (HX8.out.to hb9)
  clear HM8 HB8 HG8 HX8 hb9 hb08
  cases fb
  · obtain rfl : z = 10 := HX2.out.symm
    obtain rfl : xcs = shc 0 0 0 0 0 := HX1.out.symm
    clear HX1 HX2
    have hq := eq_sheet
    have hgq := guard_sheet
    go_wp2_with (refine wpList_load_want rfl 69 (.tmp 4) rfl g4 rfl 69 (shc 0 0 0 0 0) _ HX9.out Try.underlying69 rfl info_sheet ?_)
    go_ret
    exact ⟨rfl, hb09⟩
  · obtain rfl : z = 0 := HX2.out.symm
    obtain rfl : xcs = shc a.1 b.1 c.1 d.1 s.trs := HX1.out.symm
    have hok := (fits_iff m).1 HFb.out.symm
    obtain rfl := sumr_lt Ha.out (by rw [HF.out.a]; exact hok.1)
    obtain rfl := sumr_lt Hb.out (by rw [HF.out.b]; exact hok.2.1)
    obtain rfl := sumr_lt Hc.out (by rw [HF.out.c]; exact hok.2.2.1)
    obtain rfl := sumr_lt Hd.out (by rw [HF.out.d]; exact hok.2.2.2)
    have HX9' : Hid (Blk w9 g4 69 (shc (sumn (s.ms.map Mem.bal)) (sumn s.us) (sumn (ams s.ds [])) (sumn (ams [] s.es)) s.trs)) := HX9
    rw [HF.out.a, HF.out.b, HF.out.c, HF.out.d] at HX9'
    have HOK := Lib.hid hok
    obtain ⟨t1, ht1⟩ : ∃ t, sm m.l1 m.n1 = t := ⟨_, rfl⟩
    obtain ⟨t2, ht2⟩ : ∃ t, sm m.l2 m.n2 = t := ⟨_, rfl⟩
    obtain ⟨t3, ht3⟩ : ∃ t, sm m.l3 m.n3 = t := ⟨_, rfl⟩
    obtain ⟨t4, ht4⟩ : ∃ t, sm m.l4 m.n4 = t := ⟨_, rfl⟩
    rw [ht1, ht2, ht3, ht4] at HX9'
    have HT1 := Lib.hid ht1
    have HT2 := Lib.hid ht2
    have HT3 := Lib.hid ht3
    have HT4 := Lib.hid ht4
    have hl1 : t1 < 18446744073709551616 := by rw [← ht1]; exact hok.1
    have hl2 : t2 < 18446744073709551616 := by rw [← ht2]; exact hok.2.1
    have hl3 : t3 < 18446744073709551616 := by rw [← ht3]; exact hok.2.2.1
    have hl4 : t4 < 18446744073709551616 := by rw [← ht4]; exact hok.2.2.2
    obtain ⟨r, hr⟩ := sumr_ex [t1, t2, t3, t4, s.trs]
    have hTot := Lib.hid (total_any t1 t2 t3 t4 s.trs (wd5 hl1 hl2 hl3 hl4 HS.out.trs) r hr)
    have hRT : rtot m = t1 + t2 + t3 + t4 + s.trs := by unfold rtot; rw [ht1, ht2, ht3, ht4, HF.out.trs]; omega
    have hr2 : r = if rtot m < 18446744073709551616 then (rtot m, 0) else (0, 10) := by
      rw [hRT]
      rcases sumr_ok hr with ⟨h1, h2, h3⟩ | ⟨h1, h2, h3⟩
      · rw [sumn5] at h2 h3
        rw [if_pos h3]
        obtain ⟨p, q⟩ := r
        simp only at h1 h2
        rw [h1, h2]
      · rw [sumn5] at h3
        rw [if_neg (by omega)]
        obtain ⟨p, q⟩ := r
        simp only at h1 h2
        rw [h1, h2]
    have HR2 := Lib.hid hr2
    have hSm : Sm (rtot m) := Sm.of (by rw [hRT]; have := HS.out.trs; omega)
    have HSm := Lib.hid hSm
    have k5 : ((s.trs : Int) != (s.trs : Int)) = false := by simp
    clear HX1 HX2 HX9 HX3 HX4 ht1 ht2 ht3 ht4 hl1 hl2 hl3 hl4 hr hRT hr2 hSm hok Ha Hb Hc Hd HFb HF
    obtain ⟨r1, r2⟩ := r
    have x4 := HX9'.out.cell (j := 4) (v := .int .u64 s.trs) rfl
    have y28 := HB9.out.cell HS.out.c28
    have x0 := HX9'.out.cell (j := 0) (v := .int .u64 t1) rfl
    have y0 := HG9.out.cell (j := 5) (v := .slice m.a1 m.n1 m.c1) rfl
    have HX9 := HX9'
    clear HX9'
    go_wp2_with fail
    refine (part_any t1 _ _ _ m.l1 w9 HM9.out.l1 HMo.out.n1 true (by rw [HT1.out]; have := HOK.out.1; rw [HT1.out] at this; simp [this])).mono ?_
    rintro e w10 ⟨rfl, hb10⟩
    have hb010 := hb09.trans (hb10.mono hb09.size)
    have HM10 := Lib.hid (HM9.out.to hb10)
    have HB10 := Lib.hid (HB9.out.to hb10)
    have HG10 := Lib.hid (HG9.out.to hb10)
    have HX10 := Lib.hid (HX9.out.to hb10)
    have x1 := HX10.out.cell (j := 1) (v := .int .u64 t2) rfl
    have y1 := HG10.out.cell (j := 6) (v := .slice m.a2 m.n2 m.c2) rfl
    clear HM9 HB9 HG9 HX9 hb10 hb09 x0 y0 x4 y28
    go_wp2_with fail
    refine (part_any t2 _ _ _ m.l2 w10 HM10.out.l2 HMo.out.n2 true (by rw [HT2.out]; have := HOK.out.2.1; rw [HT2.out] at this; simp [this])).mono ?_
    rintro e w11 ⟨rfl, hb11⟩
    have hb011 := hb010.trans (hb11.mono hb010.size)
    have HM11 := Lib.hid (HM10.out.to hb11)
    have HB11 := Lib.hid (HB10.out.to hb11)
    have HG11 := Lib.hid (HG10.out.to hb11)
    have HX11 := Lib.hid (HX10.out.to hb11)
    have x2 := HX11.out.cell (j := 2) (v := .int .u64 t3) rfl
    have y2 := HG11.out.cell (j := 7) (v := .slice m.a3 m.n3 m.c3) rfl
    clear HM10 HB10 HG10 HX10 hb11 hb010 x1 y1
    go_wp2_with fail
    refine (part_any t3 _ _ _ m.l3 w11 HM11.out.l3 HMo.out.n3 true (by rw [HT3.out]; have := HOK.out.2.2.1; rw [HT3.out] at this; simp [this])).mono ?_
    rintro e w12 ⟨rfl, hb12⟩
    have hb012 := hb011.trans (hb12.mono hb011.size)
    have HM12 := Lib.hid (HM11.out.to hb12)
    have HB12 := Lib.hid (HB11.out.to hb12)
    have HG12 := Lib.hid (HG11.out.to hb12)
    have HX12 := Lib.hid (HX11.out.to hb12)
    have x3 := HX12.out.cell (j := 3) (v := .int .u64 t4) rfl
    have y3 := HG12.out.cell (j := 8) (v := .slice m.a4 m.n4 m.c4) rfl
    clear HM11 HB11 HG11 HX11 hb12 hb011 x2 y2
    go_wp2_with fail
    refine (part_any t4 _ _ _ m.l4 w12 HM12.out.l4 HMo.out.n4 true (by rw [HT4.out]; have := HOK.out.2.2.2; rw [HT4.out] at this; simp [this])).mono ?_
    rintro e w13 ⟨rfl, hb13⟩
    have hb013 := hb012.trans (hb13.mono hb012.size)
    have HM13 := Lib.hid (HM12.out.to hb13)
    have HB13 := Lib.hid (HB12.out.to hb13)
    have HG13 := Lib.hid (HG12.out.to hb13)
    have HX13 := Lib.hid (HX12.out.to hb13)
    clear HM12 HB12 HG12 HX12 hb13 hb012 x3 y3
    clear HB13
    go_wp2_with (refine wpList_load_blk rfl 69 (.tmp 4) rfl g4 rfl 69 (shc t1 t2 t3 t4 s.trs) _ HX13.out Try.underlying69 rfl info_sheet ?_)
    refine (hTot.out w13).mono ?_
    rintro e w14 ⟨rfl, hb14⟩
    have hb014 := hb013.trans (hb14.mono hb013.size)
    have HM14 := Lib.hid (HM13.out.to hb14)
    have HG14 := Lib.hid (HG13.out.to hb14)
    clear HM13 HG13 HX13 hb14 hb013 hTot
    go_wp2_with (refine wpList_load_blk rfl 66 (.tmp 3) rfl g3 rfl 66 m.cs _ HG14.out Try.underlying66 rfl info_money ?_)
    refine (rtotal_any m HMo.out w14 HM14.out).mono ?_
    rintro e w15 ⟨v, rfl, hNv, hb15⟩
    have hb015 := hb014.trans (hb15.mono hb014.size)
    have HNv : Hid (NatAt w14.heap.size w15 v (rtot m)) := Lib.hid hNv
    clear HM14 HG14 hb15 hb014 hNv
    go_wp2_with fail
    refine (told_any v (rtot m) w15 HNv.out HSm.out (r1, r2) HR2.out).mono ?_
    rintro e w16 ⟨rfl, hb16⟩
    have hb016 := hb015.trans (hb16.mono hb015.size)
    clear hb16 hb015 HNv
    go_wp2
    go_ret
    exact ⟨by simp, hb016⟩
theorem parts_law (s : St) (hs : s.Ok) (w : World) (hA : s.At w w.heap.size) :
    Calls Try.prog 9 #[.agg s.cs] w fun e w' => e = .returned (.bool true) ∧ Below w.heap.size w w' := by
  by_cases hp : s.Plays
  · exact parts_core s hs w hA hp
  · exact parts_many s hs w hA hp
end Go.Proofs.Ytdjeedmiicagcaa.SupplyW
