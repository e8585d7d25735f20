/- The walks of the supply, sixth part: Mint, Burn. Conditions: the state's cells are those of a state. -/
import Derived.Test.YtdjeedmiicagcaaSup5
import Derived.Deep.Cut
namespace Go.Proofs.Ytdjeedmiicagcaa.SupplyW
open Go.RowKit
open Go.Proofs.Ytdjeedmiicagcaa.Words Go.Proofs.Ytdjeedmiicagcaa.Agg Go.Proofs.Ytdjeedmiicagcaa.NatW Go.Proofs.Ytdjeedmiicagcaa.PurseW Go.Proofs.Ytdjeedmiicagcaa.PoolW

/-- the state that is none -/
def zst : Array Value := #[.int .u64 0, .int .u64 0, .int .u64 0, .int .u64 0, .int .u64 0, .int .u64 0, .int .u64 0, .int .u64 0, .int .u64 0, .int .u64 0, .int .u64 0, .int .u64 0, .int .u64 0, .int .u64 0,
  .int .i64 0, .int .i64 0, .int .i64 0, .int .i64 0, .int .i64 0, .int .i64 0, .int .i64 0, .int .i64 0, .int .i64 0, .int .i64 0,
  .int .u64 0, .int .u64 0, .int .u64 0, .int .u64 0, .int .u64 0, .int .i64 0, .int .i64 0, .bool false,
  .slice none 0 0, .slice none 0 0, .slice none 0 0, .slice none 0 0, .slice none 0 0, .slice none 0 0, .slice none 0 0, .slice none 0 0, .slice none 0 0]
theorem one_zst : zst.all (·.oneCell') = true := by simp [zst, Value.oneCell']
theorem zero_state : (Try.prog.info? 63).bind (·.zero) = some (.agg zst) := by kernel_rfl
/-- a state's cells behind a mint -/
def mintC (cs : Array Value) (m t : Nat) : Array Value := (cs.setIfInBounds 26 (.int .u64 m)).setIfInBounds 28 (.int .u64 t)
def burnC (cs : Array Value) (t b : Nat) : Array Value := (cs.setIfInBounds 28 (.int .u64 t)).setIfInBounds 27 (.int .u64 b)
theorem size_mintC (cs : Array Value) (m t : Nat) : (mintC cs m t).size = cs.size := by simp [mintC]
theorem size_burnC (cs : Array Value) (m t : Nat) : (burnC cs m t).size = cs.size := by simp [burnC]
theorem one_set {cs : Array Value} (h : cs.all (·.oneCell') = true) (i : Nat) {v : Value} (hv : v.oneCell' = true) : (cs.setIfInBounds i v).all (·.oneCell') = true := by
  rw [Array.all_eq_true_iff_forall_mem] at h ⊢
  intro u hu
  rcases Array.mem_or_eq_of_mem_setIfInBounds hu with h' | h'
  · exact h u h'
  · subst h'; exact hv
theorem one_mintC {cs : Array Value} (h : cs.all (·.oneCell') = true) (m t : Nat) : (mintC cs m t).all (·.oneCell') = true := one_set (one_set h _ rfl) _ rfl
theorem one_burnC {cs : Array Value} (h : cs.all (·.oneCell') = true) (m t : Nat) : (burnC cs m t).all (·.oneCell') = true := one_set (one_set h _ rfl) _ rfl
/-- the two blocks that a mint or a burn lays first -/
structure Two (w : World) (cs : Array Value) (W0 : World) : Prop where
  below : Below w.heap.size w W0
  b1 : Blk W0 w.heap.size 63 cs
  b2 : Blk W0 (w.heap.size + 1) 63 zst
theorem two (w : World) (cs : Array Value) : Two w cs ((w.alloc (.cells cs 63)).alloc (.cells zst 63)) := by
  have hb1 : Below w.heap.size w (w.alloc (.cells cs 63)) := (Below.refl _ _).alloc (Nat.le_refl _) _
  exact ⟨hb1.alloc hb1.size _, (Blk.new w _ _ _ rfl).alloc _, Blk.new _ _ _ _ (by simp)⟩
set_option maxHeartbeats 1000000 in
set_option maxRecDepth 100000 in
theorem mint_yes (s : St) (hs : s.Ok) (h1 : s.cs.all (·.oneCell') = true) (n m t : Nat) (hm : m = s.mnt + n) (ht : t = s.trs + n) (hn : s.gen + s.mnt + n ≤ min s.most 4611686018427387904) (ht2 : t < 18446744073709551616) (w : World) :
    Calls Try.prog 44 #[.agg s.cs, .int .u64 n] w fun e w' => e = .returned (.tuple #[.agg (mintC s.cs m t), .int .i64 0]) ∧ Below w.heap.size w w' := by
  have hT := two w s.cs
  obtain ⟨W0, hW0⟩ : ∃ W0, (w.alloc (.cells s.cs 63)).alloc (.cells zst 63) = W0 := ⟨_, rfl⟩
  rw [hW0] at hT
  obtain ⟨hbW, hB1, hB2⟩ := hT
  have HW0 := Lib.hid hW0
  have l1 := hs.most
  have l2 := hs.gen
  have l3 := hs.mnt
  have i41 : (Try.prog.info? 63).map (·.size) = some s.cs.size := by rw [hs.size]; exact info_state
  have HI := Lib.hid i41
  have hs2 := hs
  have HWa := Lib.hid (fun W => within3 s.most s.gen s.mnt n W l2 l3 (by omega) l1 true (by simp; omega))
  have HWb : Hid (∀ W : World, Calls Try.prog 70 #[.int .u64 4611686018427387904, .slice (some ⟨W.heap.size, 0, none⟩) 3 3] (W.alloc (.cells #[.int .u64 s.gen, .int .u64 s.mnt, .int .u64 n] 22)) fun e w' => e = .returned (.bool true) ∧ W.alloc (.cells #[.int .u64 s.gen, .int .u64 s.mnt, .int .u64 n] 22) = w') :=
    Lib.hid (fun W => within3 4611686018427387904 s.gen s.mnt n W l2 l3 (by omega) (by omega) true (by simp; omega))
  have HAd := Lib.hid (fun W => madd_ok s.trs n t ht ht2 W)
  have hmn : s.mnt + n < 18446744073709551616 := by omega
  have hmw := (IntWalk.u64_in (n := (s.mnt : Int) + (n : Int)) (by omega)).trans (show (s.mnt : Int) + (n : Int) = (m : Int) by omega)
  have HM := Lib.hid hm
  have HS := Lib.hid hs
  clear hW0 i41 hm ht hs hs2 hn
  go_enter Try.func44, Try.ntmps44
  have HW1 : Hid ((w.alloc (.cells s.cs 63)).alloc (.cells #[.int .u64 0, .int .u64 0, .int .u64 0, .int .u64 0, .int .u64 0, .int .u64 0, .int .u64 0, .int .u64 0, .int .u64 0, .int .u64 0, .int .u64 0, .int .u64 0, .int .u64 0, .int .u64 0,
  .int .i64 0, .int .i64 0, .int .i64 0, .int .i64 0, .int .i64 0, .int .i64 0, .int .i64 0, .int .i64 0, .int .i64 0, .int .i64 0,
  .int .u64 0, .int .u64 0, .int .u64 0, .int .u64 0, .int .u64 0, .int .i64 0, .int .i64 0, .bool false,
  .slice none 0 0, .slice none 0 0, .slice none 0 0, .slice none 0 0, .slice none 0 0, .slice none 0 0, .slice none 0 0, .slice none 0 0, .slice none 0 0] 63) = W0) := HW0
  go_upto_region 1 with (fail)
  rw [HW1.out]
  have q1 := hB1.cell HS.out.c24
  have q2 := hB1.cell HS.out.c25
  have q3 := hB1.cell HS.out.c26
  have hb03 := hbW.alloc hbW.size (.cells #[.int .u64 s.gen, .int .u64 s.mnt, .int .u64 n] 22)
  have hB13 := hB1.alloc (.cells #[.int .u64 s.gen, .int .u64 s.mnt, .int .u64 n] 22)
  have hB23 := hB2.alloc (.cells #[.int .u64 s.gen, .int .u64 s.mnt, .int .u64 n] 22)
  obtain ⟨W3, hW3⟩ : ∃ W3, W0.alloc (.cells #[.int .u64 s.gen, .int .u64 s.mnt, .int .u64 n] 22) = W3 := ⟨_, rfl⟩
  rw [hW3] at hb03 hB13 hB23
  have HW3 := Lib.hid hW3
  clear hW3
  have p3 := hB13.cell HS.out.c26
  have p5 := hB13.cell HS.out.c28
  have f3 := hB13.frozen 26
  go_wp2_with fail
  all_goals
    (first | with_reducible (refine (HWa.out W0).mono ?_) | with_reducible (refine (HWb.out W0).mono ?_))
    rintro e w' ⟨rfl, rfl⟩
    rw [HW3.out]
    go_wp2_with fail
    refine (HAd.out W3).mono ?_
    rintro e w' ⟨rfl, rfl⟩
    have hB14 := hB13.set 26 (.int .u64 m)
    have hB24 := hB23.other (a := ⟨w.heap.size, 26, none⟩) (by simp) (.int .u64 m)
    have p6 := hB14.cell (j := 28) (v := .int .u64 s.trs) (by rw [Array.getElem?_setIfInBounds_ne (by decide)]; exact HS.out.c28)
    have f6 := hB14.frozen 28
    have hB15 := hB14.set 28 (.int .u64 t)
    have hB25 := hB24.other (a := ⟨w.heap.size, 28, none⟩) (by simp) (.int .u64 t)
    have hb05 := (hb03.setCell (p := ⟨w.heap.size, 26, none⟩) (by simp) (.int .u64 m)).setCell (p := ⟨w.heap.size, 28, none⟩) (by simp) (.int .u64 t)
    clear HWa HWb HAd hB14 hB24
    go_wp2_with (first
      | refine wpList_load_blk rfl 63 (.tmp 2) rfl w.heap.size rfl 63 (mintC s.cs m t) _ hB15 Try.underlying63 rfl (by rw [size_mintC]; exact HI.out) ?_
      | refine wpList_store_blk rfl 63 (.tmp 4) (.tmp 37) rfl (w.heap.size + 1) (mintC s.cs m t) rfl rfl 63 _ hB25 (by rw [size_mintC]; exact HI.out) (by rw [size_mintC, HS.out.size]; rfl) (one_mintC h1 _ _) ?_)
    intro w5 hB5 hbel _ _
    have hb06 := hbel _ _ (by omega) hb05
    go_wp2
    exact bodyPost_ret (v := .tuple #[.agg (mintC s.cs m t), .int .i64 0]) (results_ct Try.results44 _ _ _ _ _ _ _ rfl rfl hB5 Try.underlying63 rfl (by rw [size_mintC]; exact HI.out)) rfl ⟨rfl, hb06⟩
set_option maxHeartbeats 1000000 in
set_option maxRecDepth 100000 in
theorem mint_cap (s : St) (hs : s.Ok) (n : Nat) (hn64 : n < 18446744073709551616) (hn : min s.most 4611686018427387904 < s.gen + s.mnt + n) (w : World) :
    Calls Try.prog 44 #[.agg s.cs, .int .u64 n] w fun e w' => e = .returned (.tuple #[.agg zst, .int .i64 210]) ∧ Below w.heap.size w w' := by
  have hT := two w s.cs
  obtain ⟨W0, hW0⟩ : ∃ W0, (w.alloc (.cells s.cs 63)).alloc (.cells zst 63) = W0 := ⟨_, rfl⟩
  rw [hW0] at hT
  obtain ⟨hbW, hB1, hB2⟩ := hT
  have HW1 : Hid ((w.alloc (.cells s.cs 63)).alloc (.cells #[.int .u64 0, .int .u64 0, .int .u64 0, .int .u64 0, .int .u64 0, .int .u64 0, .int .u64 0, .int .u64 0, .int .u64 0, .int .u64 0, .int .u64 0, .int .u64 0, .int .u64 0, .int .u64 0,
  .int .i64 0, .int .i64 0, .int .i64 0, .int .i64 0, .int .i64 0, .int .i64 0, .int .i64 0, .int .i64 0, .int .i64 0, .int .i64 0,
  .int .u64 0, .int .u64 0, .int .u64 0, .int .u64 0, .int .u64 0, .int .i64 0, .int .i64 0, .bool false,
  .slice none 0 0, .slice none 0 0, .slice none 0 0, .slice none 0 0, .slice none 0 0, .slice none 0 0, .slice none 0 0, .slice none 0 0, .slice none 0 0] 63) = W0) := Lib.hid hW0
  have l1 := hs.most
  have l2 := hs.gen
  have l3 := hs.mnt
  have l4 := hs.brn
  have l5 := hs.trs
  have i41 : (Try.prog.info? 63).map (·.size) = some s.cs.size := by rw [hs.size]; exact info_state
  have HI := Lib.hid i41
  have HS := Lib.hid hs
  have HWa : Hid (s.most < s.gen + s.mnt + n → ∀ W : World, Calls Try.prog 70 #[.int .u64 s.most, .slice (some ⟨W.heap.size, 0, none⟩) 3 3] (W.alloc (.cells #[.int .u64 s.gen, .int .u64 s.mnt, .int .u64 n] 22)) fun e w' => e = .returned (.bool false) ∧ W.alloc (.cells #[.int .u64 s.gen, .int .u64 s.mnt, .int .u64 n] 22) = w') :=
    Lib.hid (fun h W => within3 s.most s.gen s.mnt n W l2 l3 hn64 l1 false (by simp; omega))
  have HWb : Hid (4611686018427387904 < s.gen + s.mnt + n → ∀ W : World, Calls Try.prog 70 #[.int .u64 4611686018427387904, .slice (some ⟨W.heap.size, 0, none⟩) 3 3] (W.alloc (.cells #[.int .u64 s.gen, .int .u64 s.mnt, .int .u64 n] 22)) fun e w' => e = .returned (.bool false) ∧ W.alloc (.cells #[.int .u64 s.gen, .int .u64 s.mnt, .int .u64 n] 22) = w') :=
    Lib.hid (fun h W => within3 4611686018427387904 s.gen s.mnt n W l2 l3 hn64 (by omega) false (by simp; omega))
  have HN := Lib.hid hn
  clear hW0 i41 hs hn
  go_enter Try.func44, Try.ntmps44
  go_upto_region 1 with (fail)
  rw [HW1.out]
  have q1 := hB1.cell HS.out.c24
  have q2 := hB1.cell HS.out.c25
  have q3 := hB1.cell HS.out.c26
  have hb03 := hbW.alloc hbW.size (.cells #[.int .u64 s.gen, .int .u64 s.mnt, .int .u64 n] 22)
  have hB23 := hB2.alloc (.cells #[.int .u64 s.gen, .int .u64 s.mnt, .int .u64 n] 22)
  go_wp2_with fail
  all_goals
    have hn := HN.out
    (first | with_reducible (refine (HWa.out (by omega) W0).mono ?_) | with_reducible (refine (HWb.out (by omega) W0).mono ?_))
    rintro e w' ⟨rfl, rfl⟩
    clear hn HWa HWb
    go_wp2_with (refine wpList_store_blk rfl 63 (.tmp 4) (.tmp 19) rfl (w.heap.size + 1) zst rfl rfl 63 _ hB23 info_state rfl one_zst ?_)
    intro w5 hB5 hbel _ _
    have hb06 := hbel _ _ (by omega) hb03
    go_wp2
    exact bodyPost_ret (v := .tuple #[.agg zst, .int .i64 210]) (results_ct Try.results44 _ _ _ _ _ _ _ rfl rfl hB5 Try.underlying63 rfl info_state) rfl ⟨rfl, hb06⟩
set_option maxHeartbeats 1000000 in
set_option maxRecDepth 100000 in
theorem mint_full (s : St) (hs : s.Ok) (n : Nat) (hn : s.gen + s.mnt + n ≤ min s.most 4611686018427387904) (ht2 : 18446744073709551616 ≤ s.trs + n) (w : World) :
    Calls Try.prog 44 #[.agg s.cs, .int .u64 n] w fun e w' => e = .returned (.tuple #[.agg zst, .int .i64 210]) ∧ Below w.heap.size w w' := by
  have hT := two w s.cs
  obtain ⟨W0, hW0⟩ : ∃ W0, (w.alloc (.cells s.cs 63)).alloc (.cells zst 63) = W0 := ⟨_, rfl⟩
  rw [hW0] at hT
  obtain ⟨hbW, hB1, hB2⟩ := hT
  have HW1 : Hid ((w.alloc (.cells s.cs 63)).alloc (.cells #[.int .u64 0, .int .u64 0, .int .u64 0, .int .u64 0, .int .u64 0, .int .u64 0, .int .u64 0, .int .u64 0, .int .u64 0, .int .u64 0, .int .u64 0, .int .u64 0, .int .u64 0, .int .u64 0,
  .int .i64 0, .int .i64 0, .int .i64 0, .int .i64 0, .int .i64 0, .int .i64 0, .int .i64 0, .int .i64 0, .int .i64 0, .int .i64 0,
  .int .u64 0, .int .u64 0, .int .u64 0, .int .u64 0, .int .u64 0, .int .i64 0, .int .i64 0, .bool false,
  .slice none 0 0, .slice none 0 0, .slice none 0 0, .slice none 0 0, .slice none 0 0, .slice none 0 0, .slice none 0 0, .slice none 0 0, .slice none 0 0] 63) = W0) := Lib.hid hW0
  have l1 := hs.most
  have l2 := hs.gen
  have l3 := hs.mnt
  have l4 := hs.brn
  have l5 := hs.trs
  have i41 : (Try.prog.info? 63).map (·.size) = some s.cs.size := by rw [hs.size]; exact info_state
  have HI := Lib.hid i41
  have HS := Lib.hid hs
  have HWa := Lib.hid (fun W => within3 s.most s.gen s.mnt n W l2 l3 (by omega) l1 true (by simp; omega))
  have HWb : Hid (∀ W : World, Calls Try.prog 70 #[.int .u64 4611686018427387904, .slice (some ⟨W.heap.size, 0, none⟩) 3 3] (W.alloc (.cells #[.int .u64 s.gen, .int .u64 s.mnt, .int .u64 n] 22)) fun e w' => e = .returned (.bool true) ∧ W.alloc (.cells #[.int .u64 s.gen, .int .u64 s.mnt, .int .u64 n] 22) = w') :=
    Lib.hid (fun W => within3 4611686018427387904 s.gen s.mnt n W l2 l3 (by omega) (by omega) true (by simp; omega))
  have HAd := Lib.hid (fun W => madd_bad s.trs n l5 (by omega) ht2 W)
  clear hW0 i41 hs hn ht2
  go_enter Try.func44, Try.ntmps44
  go_upto_region 1 with (fail)
  rw [HW1.out]
  have q1 := hB1.cell HS.out.c24
  have q2 := hB1.cell HS.out.c25
  have q3 := hB1.cell HS.out.c26
  have hb03 := hbW.alloc hbW.size (.cells #[.int .u64 s.gen, .int .u64 s.mnt, .int .u64 n] 22)
  have hB13 := hB1.alloc (.cells #[.int .u64 s.gen, .int .u64 s.mnt, .int .u64 n] 22)
  have hB23 := hB2.alloc (.cells #[.int .u64 s.gen, .int .u64 s.mnt, .int .u64 n] 22)
  obtain ⟨W3, hW3⟩ : ∃ W3, W0.alloc (.cells #[.int .u64 s.gen, .int .u64 s.mnt, .int .u64 n] 22) = W3 := ⟨_, rfl⟩
  rw [hW3] at hb03 hB13 hB23
  have HW3 := Lib.hid hW3
  clear hW3
  have p5 := hB13.cell HS.out.c28
  go_wp2_with fail
  all_goals
    (first | with_reducible (refine (HWa.out W0).mono ?_) | with_reducible (refine (HWb.out W0).mono ?_))
    rintro e w' ⟨rfl, rfl⟩
    rw [HW3.out]
    go_wp2_with fail
    refine (HAd.out W3).mono ?_
    rintro e w' ⟨rfl, rfl⟩
    clear HWa HWb HAd
    go_wp2_with (refine wpList_store_blk rfl 63 (.tmp 4) (.tmp 29) rfl (w.heap.size + 1) zst rfl rfl 63 _ hB23 info_state rfl one_zst ?_)
    intro w5 hB5 hbel _ _
    have hb06 := hbel _ _ (by omega) hb03
    go_wp2
    exact bodyPost_ret (v := .tuple #[.agg zst, .int .i64 210]) (results_ct Try.results44 _ _ _ _ _ _ _ rfl rfl hB5 Try.underlying63 rfl info_state) rfl ⟨rfl, hb06⟩
set_option maxHeartbeats 1000000 in
set_option maxRecDepth 100000 in
theorem burn_yes (s : St) (hs : s.Ok) (h1 : s.cs.all (·.oneCell') = true) (n b t : Nat) (hb : b = s.brn + n) (ht : s.trs = t + n) (hb2 : b < 18446744073709551616) (w : World) :
    Calls Try.prog 45 #[.agg s.cs, .int .u64 n] w fun e w' => e = .returned (.tuple #[.agg (burnC s.cs t b), .int .i64 0]) ∧ Below w.heap.size w w' := by
  have hT := two w s.cs
  obtain ⟨W0, hW0⟩ : ∃ W0, (w.alloc (.cells s.cs 63)).alloc (.cells zst 63) = W0 := ⟨_, rfl⟩
  rw [hW0] at hT
  obtain ⟨hbW, hB1, hB2⟩ := hT
  have HW1 : Hid ((w.alloc (.cells s.cs 63)).alloc (.cells #[.int .u64 0, .int .u64 0, .int .u64 0, .int .u64 0, .int .u64 0, .int .u64 0, .int .u64 0, .int .u64 0, .int .u64 0, .int .u64 0, .int .u64 0, .int .u64 0, .int .u64 0, .int .u64 0,
  .int .i64 0, .int .i64 0, .int .i64 0, .int .i64 0, .int .i64 0, .int .i64 0, .int .i64 0, .int .i64 0, .int .i64 0, .int .i64 0,
  .int .u64 0, .int .u64 0, .int .u64 0, .int .u64 0, .int .u64 0, .int .i64 0, .int .i64 0, .bool false,
  .slice none 0 0, .slice none 0 0, .slice none 0 0, .slice none 0 0, .slice none 0 0, .slice none 0 0, .slice none 0 0, .slice none 0 0, .slice none 0 0] 63) = W0) := Lib.hid hW0
  have l1 := hs.most
  have l2 := hs.gen
  have l3 := hs.mnt
  have l4 := hs.brn
  have l5 := hs.trs
  have i41 : (Try.prog.info? 63).map (·.size) = some s.cs.size := by rw [hs.size]; exact info_state
  have HI := Lib.hid i41
  have HS := Lib.hid hs
  have HSu := Lib.hid (fun W => msub_ok s.trs n t (by omega) l5 W)
  have HAd := Lib.hid (fun W => madd_ok s.brn n b hb hb2 W)
  clear hW0 i41 hs hb ht
  go_enter Try.func45, Try.ntmps45
  go_upto_region 1 with (fail)
  rw [HW1.out]
  have q1 := hB1.cell HS.out.c28
  have q2 := hB1.cell HS.out.c27
  have q3 := hB1.cell HS.out.c28
  have f28 := hB1.frozen 28
  go_wp2_with fail
  refine (HSu.out W0).mono ?_
  rintro e w' ⟨rfl, rfl⟩
  go_wp2_with fail
  refine (HAd.out W0).mono ?_
  rintro e w' ⟨rfl, rfl⟩
  have hB14 := hB1.set 28 (.int .u64 t)
  have hB24 := hB2.other (a := ⟨w.heap.size, 28, none⟩) (by simp) (.int .u64 t)
  have p6 := hB14.cell (j := 27) (v := .int .u64 s.brn) (by rw [Array.getElem?_setIfInBounds_ne (by decide)]; exact HS.out.c27)
  have f6 := hB14.frozen 27
  have hB15 := hB14.set 27 (.int .u64 b)
  have hB25 := hB24.other (a := ⟨w.heap.size, 27, none⟩) (by simp) (.int .u64 b)
  have hb05 := (hbW.setCell (p := ⟨w.heap.size, 28, none⟩) (by simp) (.int .u64 t)).setCell (p := ⟨w.heap.size, 27, none⟩) (by simp) (.int .u64 b)
  clear HSu HAd hB14 hB24
  go_wp2_with (first
    | refine wpList_load_blk rfl 63 (.tmp 2) rfl w.heap.size rfl 63 (burnC s.cs t b) _ hB15 Try.underlying63 rfl (by rw [size_burnC]; exact HI.out) ?_
    | refine wpList_store_blk rfl 63 (.tmp 4) (.tmp 34) rfl (w.heap.size + 1) (burnC s.cs t b) rfl rfl 63 _ hB25 (by rw [size_burnC]; exact HI.out) (by rw [size_burnC, HS.out.size]; rfl) (one_burnC h1 _ _) ?_)
  intro w5 hB5 hbel _ _
  have hb06 := hbel _ _ (by omega) hb05
  go_wp2
  exact bodyPost_ret (v := .tuple #[.agg (burnC s.cs t b), .int .i64 0]) (results_ct Try.results45 _ _ _ _ _ _ _ rfl rfl hB5 Try.underlying63 rfl (by rw [size_burnC]; exact HI.out)) rfl ⟨rfl, hb06⟩
set_option maxHeartbeats 1000000 in
set_option maxRecDepth 100000 in
theorem burn_funds (s : St) (hs : s.Ok) (n : Nat) (hn64 : n < 18446744073709551616) (ht : s.trs < n) (w : World) :
    Calls Try.prog 45 #[.agg s.cs, .int .u64 n] w fun e w' => e = .returned (.tuple #[.agg zst, .int .i64 171]) ∧ Below w.heap.size w w' := by
  have hT := two w s.cs
  obtain ⟨W0, hW0⟩ : ∃ W0, (w.alloc (.cells s.cs 63)).alloc (.cells zst 63) = W0 := ⟨_, rfl⟩
  rw [hW0] at hT
  obtain ⟨hbW, hB1, hB2⟩ := hT
  have HW1 : Hid ((w.alloc (.cells s.cs 63)).alloc (.cells #[.int .u64 0, .int .u64 0, .int .u64 0, .int .u64 0, .int .u64 0, .int .u64 0, .int .u64 0, .int .u64 0, .int .u64 0, .int .u64 0, .int .u64 0, .int .u64 0, .int .u64 0, .int .u64 0,
  .int .i64 0, .int .i64 0, .int .i64 0, .int .i64 0, .int .i64 0, .int .i64 0, .int .i64 0, .int .i64 0, .int .i64 0, .int .i64 0,
  .int .u64 0, .int .u64 0, .int .u64 0, .int .u64 0, .int .u64 0, .int .i64 0, .int .i64 0, .bool false,
  .slice none 0 0, .slice none 0 0, .slice none 0 0, .slice none 0 0, .slice none 0 0, .slice none 0 0, .slice none 0 0, .slice none 0 0, .slice none 0 0] 63) = W0) := Lib.hid hW0
  have l1 := hs.most
  have l2 := hs.gen
  have l3 := hs.mnt
  have l4 := hs.brn
  have l5 := hs.trs
  have i41 : (Try.prog.info? 63).map (·.size) = some s.cs.size := by rw [hs.size]; exact info_state
  have HI := Lib.hid i41
  have HS := Lib.hid hs
  have HSu := Lib.hid (fun W => msub_bad s.trs n ht hn64 W)
  clear hW0 i41 hs ht
  go_enter Try.func45, Try.ntmps45
  go_upto_region 1 with (fail)
  rw [HW1.out]
  have q1 := hB1.cell HS.out.c28
  go_wp2_with fail
  refine (HSu.out W0).mono ?_
  rintro e w' ⟨rfl, rfl⟩
  · go_wp2_with (refine wpList_store_blk rfl 63 (.tmp 4) (.tmp 18) rfl (w.heap.size + 1) zst rfl rfl 63 _ hB2 info_state rfl one_zst ?_)
    intro w5 hB5 hbel _ _
    have hb06 := hbel _ _ (by omega) hbW
    go_wp2
    exact bodyPost_ret (v := .tuple #[.agg zst, .int .i64 171]) (results_ct Try.results45 _ _ _ _ _ _ _ rfl rfl hB5 Try.underlying63 rfl info_state) rfl ⟨rfl, hb06⟩
set_option maxHeartbeats 1000000 in
set_option maxRecDepth 100000 in
theorem burn_over (s : St) (hs : s.Ok) (n t : Nat) (ht : s.trs = t + n) (hb2 : 18446744073709551616 ≤ s.brn + n) (w : World) :
    Calls Try.prog 45 #[.agg s.cs, .int .u64 n] w fun e w' => e = .returned (.tuple #[.agg zst, .int .i64 10]) ∧ Below w.heap.size w w' := by
  have hT := two w s.cs
  obtain ⟨W0, hW0⟩ : ∃ W0, (w.alloc (.cells s.cs 63)).alloc (.cells zst 63) = W0 := ⟨_, rfl⟩
  rw [hW0] at hT
  obtain ⟨hbW, hB1, hB2⟩ := hT
  have HW1 : Hid ((w.alloc (.cells s.cs 63)).alloc (.cells #[.int .u64 0, .int .u64 0, .int .u64 0, .int .u64 0, .int .u64 0, .int .u64 0, .int .u64 0, .int .u64 0, .int .u64 0, .int .u64 0, .int .u64 0, .int .u64 0, .int .u64 0, .int .u64 0,
  .int .i64 0, .int .i64 0, .int .i64 0, .int .i64 0, .int .i64 0, .int .i64 0, .int .i64 0, .int .i64 0, .int .i64 0, .int .i64 0,
  .int .u64 0, .int .u64 0, .int .u64 0, .int .u64 0, .int .u64 0, .int .i64 0, .int .i64 0, .bool false,
  .slice none 0 0, .slice none 0 0, .slice none 0 0, .slice none 0 0, .slice none 0 0, .slice none 0 0, .slice none 0 0, .slice none 0 0, .slice none 0 0] 63) = W0) := Lib.hid hW0
  have l1 := hs.most
  have l2 := hs.gen
  have l3 := hs.mnt
  have l4 := hs.brn
  have l5 := hs.trs
  have i41 : (Try.prog.info? 63).map (·.size) = some s.cs.size := by rw [hs.size]; exact info_state
  have HI := Lib.hid i41
  have HS := Lib.hid hs
  have HSu := Lib.hid (fun W => msub_ok s.trs n t (by omega) l5 W)
  have HAd := Lib.hid (fun W => madd_bad s.brn n l4 (by omega) hb2 W)
  clear hW0 i41 hs ht hb2
  go_enter Try.func45, Try.ntmps45
  go_upto_region 1 with (fail)
  rw [HW1.out]
  have q1 := hB1.cell HS.out.c28
  have q2 := hB1.cell HS.out.c27
  go_wp2_with fail
  refine (HSu.out W0).mono ?_
  rintro e w' ⟨rfl, rfl⟩
  go_wp2_with fail
  refine (HAd.out W0).mono ?_
  rintro e w' ⟨rfl, rfl⟩
  · go_wp2_with (refine wpList_store_blk rfl 63 (.tmp 4) (.tmp 28) rfl (w.heap.size + 1) zst rfl rfl 63 _ hB2 info_state rfl one_zst ?_)
    intro w5 hB5 hbel _ _
    have hb06 := hbel _ _ (by omega) hbW
    go_wp2
    exact bodyPost_ret (v := .tuple #[.agg zst, .int .i64 10]) (results_ct Try.results45 _ _ _ _ _ _ _ rfl rfl hB5 Try.underlying63 rfl info_state) rfl ⟨rfl, hb06⟩
end Go.Proofs.Ytdjeedmiicagcaa.SupplyW
