/- The walks of package bits and of bullionref06, sixth part: Unpack, Count; the document's Unpack and its comparison of bools. Conditions: rows are read rightly and are not too long. -/
import Derived.Test.YtblpekeikmblmaaBits3
import Derived.Test.YtblpekeikmblmaaShelfB
namespace Go.Proofs.Ytblpekeikmblmaa.BitsW
open Go.RowKit
open Go.Proofs.Ytblpekeikmblmaa.Words Go.Proofs.Ytblpekeikmblmaa.Bit

def unp (bs : List Nat) (m : Nat) : List Bool := (List.range m).map (bit bs)
theorem unp_len (bs : List Nat) (m : Nat) : (unp bs m).length = m := by simp [unp]
theorem unp_succ (bs : List Nat) (m : Nat) : unp bs (m + 1) = unp bs m ++ [bit bs m] := by simp [unp, List.range_succ]
theorem bo_unp {bs : List Nat} {m i : Nat} (h : i < m) : bo (unp bs m) i = bit bs i := by
  rw [bo_lt (by rw [unp_len]; exact h)]; simp [unp]
/-- an append of one, kept below -/
theorem app1_below {w wr w1 : World} {e : TypeId} {v : Value} {n : Nat} {xs : List Value} {o : Obj} (hb : Below w.heap.size w wr) (hown : wr.ownsRow w.heap.size e 1 v n xs)
    (hg : (wr.alloc o).grownBy w1 v.ownBlock) : Below w.heap.size w w1 := app_below hb hown hg

set_option maxHeartbeats 1000000 in
theorem unpack_ok (A : Option Addr) (n c m : Nat) (bs : List Nat) (w : World) (h : BRow w w.heap.size A n bs) (hR : Right bs m) (hn : n ≤ 1000000) :
    Calls Try.prog 23 #[.slice A n c, .int .i64 m] w fun e w' => ∃ v, e = .returned (.tuple #[v, .int .i64 0]) ∧ w'.ownsRow w.heap.size 4 1 v m ((unp bs m).map boc) ∧ Below w.heap.size w w' := by
  obtain ⟨i0, hi0, hz0, hz1, hz2⟩ := info_parts info_bool
  have hC := Lib.hid (check_ok A n c m _ bs w h hR hn)
  have hm : m ≤ 256 := by have := hR.2.1; omega
  clear hR
  go_enter Try.func23, Try.ntmps23
  go_wp2_with fail
  refine hC.out.mono ?_
  rintro e w' ⟨rfl, rfl⟩
  go_wp2
  go_loopw [7, 16] (fun v kv wr => ∃ k : Nat, kv = .int .i64 k ∧ k ≤ m ∧ wr.ownsRow w.heap.size 4 1 v k ((unp bs k).map boc) ∧ Below w.heap.size w wr) (fun _ kv _ => m - (intOf kv).toNat)
  case atStart => exact ⟨0, rfl, Nat.zero_le _, World.ownsRow_nil _ _ _ _, Below.refl _ _⟩
  case round =>
    obtain ⟨k, rfl, hk, hown, hbw⟩ := hrel
    by_cases hlt : k < m
    · have d1 : decide (k < m) = true := by simpa using hlt
      have hG := get_any A n c _ k bs wr (h.to hbw) hn (by omega)
      rw [bitI_nat] at hG
      have HG := Lib.hid hG
      clear hG
      go_wp2_with fail
      refine HG.out.mono ?_
      rintro e w' ⟨rfl, q, rfl⟩
      have hownq := own_drewN hown q
      have hbq := below_drewN hbw q
      clear hown hbw
      generalize wr.drewN q = wq at hownq hbq ⊢
      have HU := Lib.hid (unp_succ bs k)
      generalize bit bs k = bk at *
      go_wp2_with (at_builtin; refine wpList_append_own _ rfl _ _ 22 rfl w.heap.size 4 i0 (.bool false) 1 1 Try.underlying22 hi0 hz0 hz1 hz2 rfl (by decide) _ _ _ rfl (hownq.alloc _) ⟨wq.heap.size, 0, none⟩ 1 1 [.bool bk] rfl rfl (cell_one_new _ _ _) ?_ ?_ ?_ ?_ ?_)
      · intro u hu; simp at hu; subst hu; rfl
      · unfold maxLen; omega
      · omega
      · have := hbq.size; simp; omega
      intro v' w1 hown' hgrow _
      have hb1 := app1_below hbq hownq hgrow
      clear hgrow hownq hbq
      go_wp2
      exact ⟨⟨k + 1, by go_num, by omega, by rw [HU.out, List.map_append]; exact hown', hb1⟩, by simp [intOf]; omega⟩
    · have d1 : decide (k < m) = false := by simpa using hlt
      obtain rfl : k = m := by omega
      go_wp2
      go_ret2
      exact ⟨_, rfl, hown, hbw⟩
theorem unpack_bad (A : Option Addr) (n c : Nat) (i : Int) (bs : List Nat) (w : World) (h : BRow w w.heap.size A n bs) (hR : ¬ Right bs i) (hn : n ≤ 1000000) :
    Calls Try.prog 23 #[.slice A n c, .int .i64 i] w fun e w' => e = .returned (.tuple #[.slice none 0 0, .int .i64 60]) ∧ w = w' := by
  have hC := Lib.hid (check_bad A n c _ i bs w h hR hn)
  clear hR h
  go_enter Try.func23, Try.ntmps23
  go_wp2_with fail
  refine hC.out.mono ?_
  rintro e w' ⟨rfl, rfl⟩
  go_wp2
  go_ret2
  exact ⟨rfl, rfl⟩

set_option maxHeartbeats 1000000 in
theorem runpack_any (A : Option Addr) (n c m : Nat) (bs : List Nat) (w : World) (h : BRow w w.heap.size A n bs) (hm : m ≤ 256) (hn : n ≤ 1000000) :
    Calls Try.prog 28 #[.slice A n c, .int .i64 m] w fun e w' => ∃ v, e = .returned v ∧ w'.ownsRow w.heap.size 4 1 v m ((unp bs m).map boc) ∧ Below w.heap.size w w' := by
  obtain ⟨i0, hi0, hz0, hz1, hz2⟩ := info_parts info_bool
  go_enter Try.func28, Try.ntmps28
  go_wp2
  go_loopw [5, 6] (fun v kv wr => ∃ k : Nat, kv = .int .i64 k ∧ k ≤ m ∧ wr.ownsRow w.heap.size 4 1 v k ((unp bs k).map boc) ∧ Below w.heap.size w wr) (fun _ kv _ => m - (intOf kv).toNat)
  case atStart => exact ⟨0, rfl, Nat.zero_le _, World.ownsRow_nil _ _ _ _, Below.refl _ _⟩
  case round =>
    obtain ⟨k, rfl, hk, hown, hbw⟩ := hrel
    by_cases hlt : k < m
    · have d1 : decide (k < m) = true := by simpa using hlt
      have hG := rget_any A n c _ k bs wr (h.to hbw) hn (by omega)
      rw [bitI_nat] at hG
      have HG := Lib.hid hG
      clear hG
      go_wp2_with fail
      refine HG.out.mono ?_
      rintro e w' ⟨rfl, rfl⟩
      have HU := Lib.hid (unp_succ bs k)
      generalize bit bs k = bk at *
      go_wp2_with (at_builtin; refine wpList_append_own _ rfl _ _ 22 rfl w.heap.size 4 i0 (.bool false) 1 1 Try.underlying22 hi0 hz0 hz1 hz2 rfl (by decide) _ _ _ rfl (hown.alloc _) ⟨wr.heap.size, 0, none⟩ 1 1 [.bool bk] rfl rfl (cell_one_new _ _ _) ?_ ?_ ?_ ?_ ?_)
      · intro u hu; simp at hu; subst hu; rfl
      · unfold maxLen; omega
      · omega
      · have := hbw.size; simp; omega
      intro v' w1 hown' hgrow _
      have hb1 := app1_below hbw hown hgrow
      clear hgrow hown hbw
      go_wp2
      exact ⟨⟨k + 1, by go_num, by omega, by rw [HU.out, List.map_append]; exact hown', hb1⟩, by simp [intOf]; omega⟩
    · have d1 : decide (k < m) = false := by simpa using hlt
      obtain rfl : k = m := by omega
      go_wp2
      go_ret
      exact ⟨_, rfl, hown, hbw⟩

set_option maxHeartbeats 1000000 in
theorem sameb_yes (A B : Option Addr) (n c d L : Nat) (l : List Bool) (w : World) (h : LRow w L A n l) (h' : LRow w L B n l) (hn : n ≤ 1000000) :
    Calls Try.prog 27 #[.slice A n c, .slice B n d] w fun e w' => e = .returned (.bool true) ∧ ∃ q, w' = w.drewN q := by
  have hA := h.2
  have hB := h'.2
  clear h h'
  go_enter Try.func27, Try.ntmps27
  go_wp2
  go_loopw [5] (fun v wr => ∃ (k q : Nat), v = .int .i64 k ∧ k ≤ n ∧ wr = w.drewN q) (fun v _ => n - (intOf v).toNat)
  case atStart => exact ⟨0, 0, rfl, Nat.zero_le _, rfl⟩
  case round =>
    obtain ⟨k, q, rfl, hk, rfl⟩ := hrel
    by_cases hlt : k < n
    · have d1 : decide (k < n) = true := by simpa using hlt
      obtain ⟨a, rfl, _, ha⟩ := hA k hlt
      obtain ⟨b, rfl, _, hb⟩ := hB k hlt
      have ha' : w.cell? (a.add k) = some (.bool (bo l k)) := ha
      have hb' : w.cell? (b.add k) = some (.bool (bo l k)) := hb
      clear hA hB ha hb
      cases hbo : bo l k
      all_goals
        rw [hbo] at ha' hb'
        clear hbo
        go_wp2
        go_quiet (fail)
        go_wp2
        exact ⟨⟨k + 1, _, by go_num, by omega, rfl⟩, by simp [intOf]; omega⟩
    · have d1 : decide (k < n) = false := by simpa using hlt
      go_wp2
      go_ret
      exact ⟨rfl, q, rfl⟩

/-- how many of the first k hold -/
def cb (f : Nat → Bool) : Nat → Nat
  | 0 => 0
  | k + 1 => cb f k + if f k then 1 else 0
theorem cb_le (f : Nat → Bool) (k : Nat) : cb f k ≤ k := by
  induction k with
  | zero => exact Nat.le_refl _
  | succ k ih => simp only [cb]; split <;> omega
theorem cb_congr {f g : Nat → Bool} {k : Nat} (h : ∀ i, i < k → f i = g i) : cb f k = cb g k := by
  induction k with
  | zero => rfl
  | succ k ih => simp only [cb]; rw [ih (fun i hi => h i (by omega)), h k (by omega)]
theorem cb_more {f : Nat → Bool} {k m : Nat} (hkm : k ≤ m) (h : ∀ i, k ≤ i → f i = false) : cb f m = cb f k := by
  induction m with
  | zero => obtain rfl : k = 0 := by omega
            rfl
  | succ m ih =>
    by_cases e : k = m + 1
    · rw [e]
    · simp only [cb]; rw [ih (by omega), h m (by omega)]; simp
theorem ones8 : ∀ x : Fin 256, Lib.onesCount x.val = (if x.val.testBit 0 then 1 else 0) + (if x.val.testBit 1 then 1 else 0) + (if x.val.testBit 2 then 1 else 0) + (if x.val.testBit 3 then 1 else 0) +
    (if x.val.testBit 4 then 1 else 0) + (if x.val.testBit 5 then 1 else 0) + (if x.val.testBit 6 then 1 else 0) + (if x.val.testBit 7 then 1 else 0) := by decide +kernel
theorem cb_byte {bs : List Nat} (hb : Byt bs) (k : Nat) : cb (bit bs) (8 * (k + 1)) = cb (bit bs) (8 * k) + Lib.onesCount (by_ bs k) := by
  have h := ones8 ⟨by_ bs k, hb.by_ k⟩
  simp only at h
  rw [h, show 8 * (k + 1) = 8 * k + 1 + 1 + 1 + 1 + 1 + 1 + 1 + 1 by omega]
  simp only [cb]
  have e0 := bit_at (bs := bs) (k := k) (t := 0) (by omega)
  have e1 := bit_at (bs := bs) (k := k) (t := 1) (by omega)
  have e2 := bit_at (bs := bs) (k := k) (t := 2) (by omega)
  have e3 := bit_at (bs := bs) (k := k) (t := 3) (by omega)
  have e4 := bit_at (bs := bs) (k := k) (t := 4) (by omega)
  have e5 := bit_at (bs := bs) (k := k) (t := 5) (by omega)
  have e6 := bit_at (bs := bs) (k := k) (t := 6) (by omega)
  have e7 := bit_at (bs := bs) (k := k) (t := 7) (by omega)
  rw [← e0, ← e1, ← e2, ← e3, ← e4, ← e5, ← e6, ← e7]
  simp only [Nat.add_assoc]
  rfl

set_option maxHeartbeats 1000000 in
theorem count_any (A : Option Addr) (n c L : Nat) (bs : List Nat) (w : World) (h : BRow w L A n bs) (hn : n ≤ 1000000) :
    Calls Try.prog 26 #[.slice A n c] w fun e w' => e = .returned (.int .i64 (cb (bit bs) (8 * n) : Nat)) ∧ w = w' := by
  obtain ⟨hl, hb, hr⟩ := h
  clear hl
  go_enter Try.func26, Try.ntmps26
  go_wp2
  go_loop [3, 8] (fun s kv => ∃ k : Nat, kv = .int .i64 k ∧ k ≤ n ∧ s = .int .i64 (cb (bit bs) (8 * k) : Nat)) (fun _ kv => n - (intOf kv).toNat)
  case atStart => exact ⟨0, rfl, Nat.zero_le _, rfl⟩
  case round =>
    obtain ⟨k, rfl, hk, rfl⟩ := hrel
    have hle := cb_le (bit bs) (8 * k)
    by_cases hlt : k < n
    · have d1 : decide (k < n) = true := by simpa using hlt
      obtain ⟨ad, rfl, _, hc⟩ := hr k hlt
      have hc' : w.cell? (ad.add k) = some (.int .u8 (by_ bs k)) := hc
      have hx := hb.by_ k
      have h8 := Lib.onesCount_le8 ⟨by_ bs k, hx⟩
      have HS := Lib.hid (cb_byte hb k)
      have hO := Try.bits_OnesCount8 (by_ bs k) w (by omega) (by omega)
      rw [Int.toNat_natCast] at hO
      have HO := Lib.hid hO
      simp only at h8
      clear hc hr hO
      generalize by_ bs k = x at *
      generalize Lib.onesCount x = y at *
      generalize cb (bit bs) (8 * k) = z at *
      go_wp2_with (go_at_call 58; refine HO.out.mono ?_; rintro e w' ⟨rfl, rfl⟩)
      exact ⟨⟨k + 1, by go_num, by omega, by rw [HS.out]; go_num⟩, by simp [intOf]; omega⟩
    · have d1 : decide (k < n) = false := by simpa using hlt
      obtain rfl : k = n := by omega
      go_wp2
      go_ret
      exact ⟨rfl, rfl⟩
end Go.Proofs.Ytblpekeikmblmaa.BitsW
