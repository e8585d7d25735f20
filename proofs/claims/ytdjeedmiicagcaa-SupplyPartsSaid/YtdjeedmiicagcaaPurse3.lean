/- The walks of the purse, third part: Move, the awakening, PurseMoves. Conditions: rows are read rightly and are not too long. Printed by gen_purse3.py. -/
import Derived.Test.YtdjeedmiicagcaaPurse2
namespace Go.Proofs.Ytdjeedmiicagcaa.PurseW
open Go.RowKit
open Go.Proofs.Ytdjeedmiicagcaa.Words

theorem below_drew_of {w w' : World} {q : Nat} (h : w' = w.drewN q) : Below w.heap.size w w' := by subst h; exact below_drewN (Below.refl _ _) q
theorem URow.alloc {w : World} {A : Option Addr} {n : Nat} {us : List Nat} (h : URow w w.heap.size A n us) (o : Obj) : URow (w.alloc o) (w.alloc o).heap.size A n us := h.to ((Below.refl _ _).alloc (Nat.le_refl _) _)
/-- three cells of a struct's own variable -/
structure XC (w : World) (b : Nat) (i j : Int) (x : Nat) : Prop where
  lt : b < w.heap.size
  c0 : w.cell? ⟨b, 0, none⟩ = some (.int .i64 i)
  c1 : w.cell? ⟨b, 1, none⟩ = some (.int .i64 j)
  c2 : w.cell? ⟨b, 2, none⟩ = some (.int .u64 x)
theorem XC.to {w w' : World} {b : Nat} {i j : Int} {x : Nat} (h : XC w b i j x) (hb : Below w.heap.size w w') : XC w' b i j x :=
  ⟨Nat.lt_of_lt_of_le h.lt hb.size, (hb.cell h.lt).trans h.c0, (hb.cell h.lt).trans h.c1, (hb.cell h.lt).trans h.c2⟩
theorem XC.new (w : World) (i j : Int) (x : Nat) (t : TypeId) : XC (w.alloc (.cells #[.int .i64 i, .int .i64 j, .int .u64 x] t)) w.heap.size i j x :=
  ⟨by simp, by rw [World.cell?_alloc_at _ _ _ _ rfl]; rfl, by rw [World.cell?_alloc_at _ _ _ _ rfl]; rfl, by rw [World.cell?_alloc_at _ _ _ _ rfl]; rfl⟩


set_option maxRecDepth 100000 in
theorem move_any (A : Option Addr) (n c : Nat) (i j : Int) (x : Nat) (us : List Nat) (w : World) (h : URow w w.heap.size A n us) (hn : n ≤ 1000000) (hx : x < 18446744073709551616) (hi : -9223372036854775808 ≤ i ∧ i ≤ 9223372036854775807) (hj : -9223372036854775808 ≤ j ∧ j ≤ 9223372036854775807) :
    Gives 25 #[.slice A n c, .int .i64 i, .int .i64 j, .int .u64 x] w (moveF us i j x) := by
  unfold Gives moveF
  by_cases hri : i < 0 ∨ (us.length : Int) ≤ i
  · rw [if_pos (Or.inl hri)]
    rw [h.1] at hri
    have H := Lib.hid (there_no A n c i hri w)
    clear hri h hi hj
    go_enter Try.func25, Try.ntmps25
    go_wp2_with fail
    refine H.out.mono ?_
    rintro e w' ⟨rfl, rfl⟩
    go_wp2
    go_ret2
    exact Gave.nil rfl (Below.refl _ _)
  obtain ⟨k, rfl⟩ : ∃ k : Nat, i = k := ⟨i.toNat, by omega⟩
  have H := Lib.hid (there_yes A n c k (by have := h.1; omega) w)
  by_cases hrj : j < 0 ∨ (us.length : Int) ≤ j
  · rw [if_pos (Or.inr hrj)]
    rw [h.1] at hrj
    have H2 := Lib.hid (there_no A n c j hrj w)
    clear hri hrj h hi hj
    go_enter Try.func25, Try.ntmps25
    go_wp2_with fail
    refine H.out.mono ?_
    rintro e w' ⟨rfl, rfl⟩
    go_wp2_with fail
    refine H2.out.mono ?_
    rintro e w' ⟨rfl, rfl⟩
    go_wp2
    go_ret2
    exact Gave.nil rfl (Below.refl _ _)
  rw [if_neg (fun h => h.elim hri hrj)]
  obtain ⟨l, rfl⟩ : ∃ l : Nat, j = l := ⟨j.toNat, by omega⟩
  have H2 := Lib.hid (there_yes A n c l (by have := h.1; omega) w)
  have H3 := Lib.hid (draw_any A n c k x us w h hn hx hi)
  have hlen : (drawF us k x).1.length ≤ 1000000 := Nat.le_trans draw_len (by have := h.1; omega)
  clear hri hrj h
  generalize drawF us k x = r at H3 hlen ⊢
  obtain ⟨L, E⟩ := r
  simp only at hlen ⊢
  by_cases hE : E = 0
  · rw [if_pos hE]
    subst hE
    have H4 := Lib.hid (fun B d w' (h' : URow w' w'.heap.size B L.length L) => pay_any B L.length d l x L w' h' hlen hx hj)
    clear hi hj
    go_enter Try.func25, Try.ntmps25
    go_wp2_with fail
    refine H.out.mono ?_
    rintro e w' ⟨rfl, rfl⟩
    go_wp2_with fail
    refine H2.out.mono ?_
    rintro e w' ⟨rfl, rfl⟩
    go_wp2_with fail
    refine Calls.mono H3.out ?_
    rintro e w1 ⟨B, d, rfl, hrow, hb⟩
    go_wp2_with fail
    refine Calls.mono (H4.out B d w1 hrow) ?_
    rintro e w2 ⟨B2, d2, rfl, hrow2, hb2⟩
    go_wp2
    go_ret2
    exact Gave.mk rfl hrow2 (hb.trans (hb2.mono hb.size))
  · rw [if_neg hE]
    have d0 : (E != 0) = true := by simp [hE]
    clear hi hj hE
    go_enter Try.func25, Try.ntmps25
    go_wp2_with fail
    refine H.out.mono ?_
    rintro e w' ⟨rfl, rfl⟩
    go_wp2_with fail
    refine H2.out.mono ?_
    rintro e w' ⟨rfl, rfl⟩
    go_wp2_with fail
    refine Calls.mono H3.out ?_
    rintro e w1 ⟨B, d, rfl, hrow, hb⟩
    go_wp2
    go_ret2
    exact Gave.nil rfl hb

set_option maxRecDepth 100000 in
theorem rmove_any (A : Option Addr) (n c : Nat) (i j : Int) (x : Nat) (us : List Nat) (w : World) (h : URow w w.heap.size A n us) (hn : n ≤ 1000000) (hx : x < 18446744073709551616) (hi : -9223372036854775808 ≤ i ∧ i ≤ 9223372036854775807) (hj : -9223372036854775808 ≤ j ∧ j ≤ 9223372036854775807) :
    Gives 29 #[.slice A n c, .int .i64 i, .int .i64 j, .int .u64 x] w (moveF us i j x) := by
  unfold Gives moveF
  by_cases hi0 : i < 0
  · rw [if_pos (Or.inl (Or.inl hi0))]
    have d1 : decide (i < 0) = true := by simpa using hi0
    clear h hi hj
    go_enter Try.func29, Try.ntmps29
    go_wp2
    go_ret2
    exact Gave.nil rfl (Below.refl _ _)
  obtain ⟨k, rfl⟩ : ∃ k : Nat, i = k := ⟨i.toNat, by omega⟩
  by_cases hi1 : (us.length : Int) ≤ k
  · rw [if_pos (Or.inl (Or.inr hi1))]
    rw [h.1] at hi1
    have d1 : decide (n ≤ k) = true := by simp; omega
    clear h hi hj
    go_enter Try.func29, Try.ntmps29
    go_wp2
    go_ret2
    exact Gave.nil rfl (Below.refl _ _)
  have d1 : decide (n ≤ k) = false := by have := h.1; simp; omega
  by_cases hj0 : j < 0
  · rw [if_pos (Or.inr (Or.inl hj0))]
    have d2 : decide (j < 0) = true := by simpa using hj0
    clear h hi hj hi1
    go_enter Try.func29, Try.ntmps29
    go_wp2
    go_ret2
    exact Gave.nil rfl (Below.refl _ _)
  obtain ⟨l, rfl⟩ : ∃ l : Nat, j = l := ⟨j.toNat, by omega⟩
  by_cases hj1 : (us.length : Int) ≤ l
  · rw [if_pos (Or.inr (Or.inr hj1))]
    rw [h.1] at hj1
    have d2 : decide (n ≤ l) = true := by simp; omega
    clear h hi hj hi1
    go_enter Try.func29, Try.ntmps29
    go_wp2
    go_ret2
    exact Gave.nil rfl (Below.refl _ _)
  have d2 : decide (n ≤ l) = false := by have := h.1; simp; omega
  rw [if_neg (by omega)]
  have H3 := Lib.hid (rdraw_any A n c k x us w h hn hx hi)
  have hlen : (drawF us k x).1.length ≤ 1000000 := Nat.le_trans draw_len (by have := h.1; omega)
  clear hi1 hj1 h hi0 hj0
  generalize drawF us k x = r at H3 hlen ⊢
  obtain ⟨L, E⟩ := r
  simp only at hlen ⊢
  by_cases hE : E = 0
  · rw [if_pos hE]
    subst hE
    have H4 := Lib.hid (fun B d w' (h' : URow w' w'.heap.size B L.length L) => rpay_any B L.length d l x L w' h' hlen hx hj)
    clear hi hj
    go_enter Try.func29, Try.ntmps29
    go_wp2_with fail
    refine Calls.mono H3.out ?_
    rintro e w1 ⟨B, d, rfl, hrow, hb⟩
    go_wp2_with fail
    refine Calls.mono (H4.out B d w1 hrow) ?_
    rintro e w2 ⟨B2, d2, rfl, hrow2, hb2⟩
    go_wp2
    go_ret2
    exact Gave.mk rfl hrow2 (hb.trans (hb2.mono hb.size))
  · rw [if_neg hE]
    have d0 : (E != 0) = true := by simp [hE]
    clear hi hj hE
    go_enter Try.func29, Try.ntmps29
    go_wp2_with fail
    refine Calls.mono H3.out ?_
    rintro e w1 ⟨B, d, rfl, hrow, hb⟩
    go_wp2
    go_ret2
    exact Gave.nil rfl hb

set_option maxRecDepth 100000 in
theorem own_any (A : Option Addr) (n c : Nat) (us : List Nat) (w : World) (h : URow w w.heap.size A n us) (hn : n ≤ 1000000) :
    Calls Try.prog 22 #[.slice A n c] w fun e w' => ∃ B d, e = .returned (.slice B n d) ∧ URow w' w'.heap.size B n us ∧ Below w.heap.size w w' := by
  obtain ⟨i0, hi0, hz0, hz1, hz2⟩ := info_parts info_u64
  obtain ⟨hl, hb, hr⟩ := h
  have hx : (List.range n).map (fun j => Value.int .u64 (un us j)) = us.map uw := by
    apply List.ext_getElem (by simp [hl])
    intro j h1 h2
    simp at h1 h2
    simp [uw, un_lt h2]
  have HX := Lib.hid hx
  have HL := Lib.hid hl
  have hb0 : Below w.heap.size w (w.alloc (.cells #[] 22)) := (Below.refl _ _).alloc (Nat.le_refl _) _
  have hr0 := hr.to hb0
  have hown0 : (w.alloc (.cells #[] 22)).ownsRow w.heap.size 22 1 (.slice (some ⟨w.heap.size, 0, none⟩) 0 0) 0 [] := World.ownsRow_lit w #[] 0 (Nat.le_refl _) (by unfold maxLen; omega) rfl
  clear hx hr hl
  go_enter Try.func22, Try.ntmps22
  go_wp2_with (at_builtin; refine wpList_append_whole _ rfl _ _ 31 rfl w.heap.size 22 i0 (.int .u64 0) 8 Try.underlying31 hi0 hz0 hz1 hz2 rfl _ _ _ rfl hown0 A n c _ rfl hr0 (fun _ => rfl) ?_ ?_ hb0.size ?_)
  · unfold maxLen; omega
  · omega
  intro v' w1 hown hg
  have hown' := hown
  rw [HX.out] at hown'
  have hb1 : Below w.heap.size w w1 := hb0.grown hg hb0.size (fun j hj => (hown0.lt j hj).1)
  clear hg hown hown0 hb0 hr0
  go_wp2
  go_ret
  obtain ⟨B, d, rfl, _, _, _, hrow⟩ := urow_of_own HL.out hb hown'
  exact ⟨B, d, rfl, hrow, hb1⟩

theorem addr0 (g j : Nat) : (⟨g, 0, none⟩ : Addr).add j = ⟨g, j, none⟩ := by
  unfold Addr.add
  split
  · rename_i h; rw [h]
  · simp
theorem lit2 (w : World) (a b : Nat) (ha : a < 18446744073709551616) (hb : b < 18446744073709551616) : URow (w.alloc (.cells #[.int .u64 a, .int .u64 b] 22)) (w.alloc (.cells #[.int .u64 a, .int .u64 b] 22)).heap.size (some ⟨w.heap.size, 0, none⟩) 2 [a, b] :=
  ⟨rfl, fun z hz => by simp at hz; omega, fun j hj => ⟨_, rfl, by simp, by
    rw [addr0, World.cell?_alloc_at _ _ _ _ rfl]
    rcases (show j = 0 ∨ j = 1 by omega) with rfl | rfl <;> rfl⟩⟩
theorem lit_below (w : World) (o : Obj) : Below w.heap.size w (w.alloc o) := (Below.refl _ _).alloc (Nat.le_refl _) _
theorem move_1 (w : World) : Calls Try.prog 25 #[.slice (some ⟨w.heap.size, 0, none⟩) 2 2, .int .i64 0, .int .i64 1, .int .u64 4] (w.alloc (.cells #[.int .u64 5, .int .u64 3] 22)) fun e w' =>
    ∃ B d, e = .returned (.tuple #[.slice B 2 d, .int .i64 0]) ∧ URow w' w'.heap.size B 2 [1, 7] ∧ Below w.heap.size w w' := by
  have h := move_any (some ⟨w.heap.size, 0, none⟩) 2 2 0 1 4 [5, 3] _ (lit2 w 5 3 (by omega) (by omega)) (by omega) (by omega) (by omega) (by omega)
  rw [show moveF [5, 3] 0 1 4 = ([1, 7], 0) by decide] at h
  refine Calls.mono h ?_
  rintro e w' ⟨B, d, rfl, hrow, hb⟩
  exact ⟨B, d, rfl, hrow, (lit_below w _).trans (hb.mono (lit_below w _).size)⟩
theorem move_2 (w : World) : Calls Try.prog 25 #[.slice (some ⟨w.heap.size, 0, none⟩) 2 2, .int .i64 0, .int .i64 1, .int .u64 6] (w.alloc (.cells #[.int .u64 5, .int .u64 3] 22)) fun e w' =>
    ∃ B d, e = .returned (.tuple #[.slice B 0 d, .int .i64 171]) ∧ Below w.heap.size w w' := by
  have h := move_any (some ⟨w.heap.size, 0, none⟩) 2 2 0 1 6 [5, 3] _ (lit2 w 5 3 (by omega) (by omega)) (by omega) (by omega) (by omega) (by omega)
  rw [show moveF [5, 3] 0 1 6 = ([], 171) by decide] at h
  refine Calls.mono h ?_
  rintro e w' ⟨B, d, rfl, hrow, hb⟩
  exact ⟨B, d, rfl, (lit_below w _).trans (hb.mono (lit_below w _).size)⟩

theorem awake_any (w : World) : Calls Try.prog 21 #[] w fun e w' => e = .returned (.bool true) ∧ Below w.heap.size w w' := by
  go_enter Try.func21, Try.ntmps21
  go_wp2_with fail
  refine (move_1 w).mono ?_
  rintro e w1 ⟨B, d, rfl, hrow, hb1⟩
  go_wp2_with fail
  refine (move_2 w1).mono ?_
  rintro e w2 ⟨B2, d2, rfl, hb2⟩
  have hrow2 := hrow.to hb2
  have hbb := hb1.trans (hb2.mono hb1.size)
  clear hrow hb1 hb2
  go_wp2_with fail
  refine (same_yes B _ 2 d 2 _ [1, 7] _ (hrow2.to (lit_below w2 _)) (lit2 w2 1 7 (by omega) (by omega)) (by omega)).mono ?_
  rintro e w3 ⟨rfl, q, rfl⟩
  go_wp2
  go_ret
  exact ⟨by simp, below_drewN (hbb.alloc hbb.size _) q⟩

theorem pay_len {us : List Nat} {i : Int} {x : Nat} : (payF us i x).1.length ≤ us.length := by
  unfold payF; split
  · simp
  · split <;> simp
theorem move_len {us : List Nat} {i j : Int} {x : Nat} : (moveF us i j x).1.length ≤ us.length := by
  unfold moveF; split
  · simp
  · split
    · exact Nat.le_trans pay_len draw_len
    · simp

set_option maxHeartbeats 4000000 in
set_option maxRecDepth 100000 in
theorem moves_in (A : Option Addr) (n c x : Nat) (k : Nat) (hk : k < n) (j : Int) (us : List Nat) (w : World) (h : URow w w.heap.size A n us) (hn : n ≤ 200) (hx : x < 18446744073709551616) (hi : -9223372036854775808 ≤ (k : Int) ∧ (k : Int) ≤ 9223372036854775807) (hj : -9223372036854775808 ≤ j ∧ j ≤ 9223372036854775807) :
    Calls Try.prog 6 #[.slice A n c, .agg #[.int .i64 k, .int .i64 j, .int .u64 x]] w fun e w' => e = .returned (.bool true) ∧ Below w.heap.size w w' := by
  have dn : decide ((200 : Int) < n) = false := by simp; omega
  have HD := Lib.hid (fun B d w' (h' : URow w' w'.heap.size B n us) => draw_any B n d k x us w' h' (by omega) hx hi)
  have HP := Lib.hid (fun B d w' (h' : URow w' w'.heap.size B n us) => pay_any B n d j x us w' h' (by omega) hx hj)
  have HM := Lib.hid (fun B d w' (h' : URow w' w'.heap.size B n us) => move_any B n d k j x us w' h' (by omega) hx hi hj)
  have RD := Lib.hid (fun B d w' (h' : URow w' w'.heap.size B n us) => rdraw_any B n d k x us w' h' (by omega) hx hi)
  have RP := Lib.hid (fun B d w' (h' : URow w' w'.heap.size B n us) => rpay_any B n d j x us w' h' (by omega) hx hj)
  have RM := Lib.hid (fun B d w' (h' : URow w' w'.heap.size B n us) => rmove_any B n d k j x us w' h' (by omega) hx hi hj)
  have hl1 : (drawF us k x).1.length ≤ 1000000 := Nat.le_trans draw_len (by have := h.1; omega)
  have hl2 : (payF us j x).1.length ≤ 1000000 := Nat.le_trans pay_len (by have := h.1; omega)
  have hl3 : (moveF us k j x).1.length ≤ 1000000 := Nat.le_trans move_len (by have := h.1; omega)
  generalize drawF us k x = r1 at *
  generalize payF us j x = r2 at *
  generalize moveF us k j x = r3 at *
  obtain ⟨L1, E1⟩ := r1
  obtain ⟨L2, E2⟩ := r2
  obtain ⟨L3, E3⟩ := r3
  simp only at hl1 hl2 hl3
  have d1 : decide (n ≤ k) = false := by simp; omega
  have d2 : decide (k < n) = true := by simp; omega
  have HH := Lib.hid (fun B d w' (h' : URow w' w'.heap.size B n us) => has_yes B n d k _ us hk w' h')
  clear hi hj hx
  go_enter Try.func6, Try.ntmps6
  have hb0 := lit_below w (.cells #[.int .i64 k, .int .i64 j, .int .u64 x] 33)
  have XX := XC.new w k j x 33
  have e0 := XX.c0
  have e1 := XX.c1
  have e2 := XX.c2
  have pu := h.to hb0
  have bb := hb0
  clear h hb0
  go_wp2_with fail
  refine Calls.mono (awake_any _) ?_
  rintro e w1 ⟨rfl, hb⟩
  have put := pu.to hb
  clear pu
  have pu := put
  clear put
  have XCt := XX.to hb
  clear XX e0 e1 e2
  have XX := XCt
  have e0 := XX.c0
  have e1 := XX.c1
  have e2 := XX.c2
  clear XCt
  have hbt := bb.trans (hb.mono bb.size)
  clear bb hb
  have bb := hbt
  clear hbt
  go_wp2_with fail
  refine Calls.mono (own_any A n _ us _ pu (by omega)) ?_
  rintro e w2 ⟨G, dg, rfl, gi, hb⟩
  have put := pu.to hb
  clear pu
  have pu := put
  clear put
  have XCt := XX.to hb
  clear XX e0 e1 e2
  have XX := XCt
  have e0 := XX.c0
  have e1 := XX.c1
  have e2 := XX.c2
  clear XCt
  have hbt := bb.trans (hb.mono bb.size)
  clear bb hb
  have bb := hbt
  clear hbt
  go_wp2_with fail
  refine Calls.mono (HD.out G _ _ gi) ?_
  rintro e w3 ⟨B1, d1', rfl, ra, hb⟩
  have put := pu.to hb
  clear pu
  have pu := put
  clear put
  have git := gi.to hb
  clear gi
  have gi := git
  clear git
  have XCt := XX.to hb
  clear XX e0 e1 e2
  have XX := XCt
  have e0 := XX.c0
  have e1 := XX.c1
  have e2 := XX.c2
  clear XCt
  have hbt := bb.trans (hb.mono bb.size)
  clear bb hb
  have bb := hbt
  clear hbt
  go_wp2_with fail
  refine Calls.mono (HP.out G _ _ gi) ?_
  rintro e w4 ⟨B2, d2', rfl, rb, hb⟩
  have put := pu.to hb
  clear pu
  have pu := put
  clear put
  have git := gi.to hb
  clear gi
  have gi := git
  clear git
  have rat := ra.to hb
  clear ra
  have ra := rat
  clear rat
  have XCt := XX.to hb
  clear XX e0 e1 e2
  have XX := XCt
  have e0 := XX.c0
  have e1 := XX.c1
  have e2 := XX.c2
  clear XCt
  have hbt := bb.trans (hb.mono bb.size)
  clear bb hb
  have bb := hbt
  clear hbt
  go_wp2_with fail
  refine Calls.mono (HM.out G _ _ gi) ?_
  rintro e w5 ⟨B3, d3', rfl, rc, hb⟩
  have put := pu.to hb
  clear pu
  have pu := put
  clear put
  have git := gi.to hb
  clear gi
  have gi := git
  clear git
  have rat := ra.to hb
  clear ra
  have ra := rat
  clear rat
  have rbt := rb.to hb
  clear rb
  have rb := rbt
  clear rbt
  have XCt := XX.to hb
  clear XX e0 e1 e2
  have XX := XCt
  have e0 := XX.c0
  have e1 := XX.c1
  have e2 := XX.c2
  clear XCt
  have hbt := bb.trans (hb.mono bb.size)
  clear bb hb
  have bb := hbt
  clear hbt
  go_wp2_with fail
  refine Calls.mono (HH.out G _ _ gi) ?_
  rintro e w' ⟨rfl, rfl⟩
  go_wp2_with fail
  refine Calls.mono (RD.out A _ _ pu) ?_
  rintro e w6 ⟨B4, d4', rfl, ru, hb⟩
  have put := pu.to hb
  clear pu
  have pu := put
  clear put
  have git := gi.to hb
  clear gi
  have gi := git
  clear git
  have rat := ra.to hb
  clear ra
  have ra := rat
  clear rat
  have rbt := rb.to hb
  clear rb
  have rb := rbt
  clear rbt
  have rct := rc.to hb
  clear rc
  have rc := rct
  clear rct
  have XCt := XX.to hb
  clear XX e0 e1 e2
  have XX := XCt
  have e0 := XX.c0
  have e1 := XX.c1
  have e2 := XX.c2
  clear XCt
  have hbt := bb.trans (hb.mono bb.size)
  clear bb hb
  have bb := hbt
  clear hbt
  go_wp2_with fail
  refine Calls.mono (RP.out A _ _ pu) ?_
  rintro e w7 ⟨B5, d5', rfl, rv, hb⟩
  have put := pu.to hb
  clear pu
  have pu := put
  clear put
  have git := gi.to hb
  clear gi
  have gi := git
  clear git
  have rat := ra.to hb
  clear ra
  have ra := rat
  clear rat
  have rbt := rb.to hb
  clear rb
  have rb := rbt
  clear rbt
  have rct := rc.to hb
  clear rc
  have rc := rct
  clear rct
  have rut := ru.to hb
  clear ru
  have ru := rut
  clear rut
  have XCt := XX.to hb
  clear XX e0 e1 e2
  have XX := XCt
  have e0 := XX.c0
  have e1 := XX.c1
  have e2 := XX.c2
  clear XCt
  have hbt := bb.trans (hb.mono bb.size)
  clear bb hb
  have bb := hbt
  clear hbt
  go_wp2_with fail
  refine Calls.mono (RM.out A _ _ pu) ?_
  rintro e w8 ⟨B6, d6', rfl, rw', hb⟩
  have put := pu.to hb
  clear pu
  have pu := put
  clear put
  have git := gi.to hb
  clear gi
  have gi := git
  clear git
  have rat := ra.to hb
  clear ra
  have ra := rat
  clear rat
  have rbt := rb.to hb
  clear rb
  have rb := rbt
  clear rbt
  have rct := rc.to hb
  clear rc
  have rc := rct
  clear rct
  have rut := ru.to hb
  clear ru
  have ru := rut
  clear rut
  have rvt := rv.to hb
  clear rv
  have rv := rvt
  clear rvt
  have XCt := XX.to hb
  clear XX e0 e1 e2
  have XX := XCt
  have e0 := XX.c0
  have e1 := XX.c1
  have e2 := XX.c2
  clear XCt
  have hbt := bb.trans (hb.mono bb.size)
  clear bb hb
  have bb := hbt
  clear hbt
  obtain ⟨ad, rfl, _, hc⟩ := pu.2.2 k hk
  have hc' := hc
  clear hc
  simp only at hc'
  generalize un us k = y at *
  go_wp2_with fail
  refine Calls.mono (same_yes B1 B4 _ _ _ _ L1 _ ra ru hl1) ?_
  rintro e w9 ⟨rfl, q, hq⟩
  have hb := below_drew_of hq
  clear hq
  have put := pu.to hb
  clear pu
  have pu := put
  clear put
  have git := gi.to hb
  clear gi
  have gi := git
  clear git
  have rat := ra.to hb
  clear ra
  have ra := rat
  clear rat
  have rbt := rb.to hb
  clear rb
  have rb := rbt
  clear rbt
  have rct := rc.to hb
  clear rc
  have rc := rct
  clear rct
  have rut := ru.to hb
  clear ru
  have ru := rut
  clear rut
  have rvt := rv.to hb
  clear rv
  have rv := rvt
  clear rvt
  have rw't := rw'.to hb
  clear rw'
  have rw' := rw't
  clear rw't
  have XCt := XX.to hb
  clear XX e0 e1 e2
  have XX := XCt
  have e0 := XX.c0
  have e1 := XX.c1
  have e2 := XX.c2
  clear XCt
  have hbt := bb.trans (hb.mono bb.size)
  clear bb hb
  have bb := hbt
  clear hbt
  go_wp2_with fail
  refine Calls.mono (same_yes B2 B5 _ _ _ _ L2 _ rb rv hl2) ?_
  rintro e w10 ⟨rfl, q, hq⟩
  have hb := below_drew_of hq
  clear hq
  have put := pu.to hb
  clear pu
  have pu := put
  clear put
  have git := gi.to hb
  clear gi
  have gi := git
  clear git
  have rat := ra.to hb
  clear ra
  have ra := rat
  clear rat
  have rbt := rb.to hb
  clear rb
  have rb := rbt
  clear rbt
  have rct := rc.to hb
  clear rc
  have rc := rct
  clear rct
  have rut := ru.to hb
  clear ru
  have ru := rut
  clear rut
  have rvt := rv.to hb
  clear rv
  have rv := rvt
  clear rvt
  have rw't := rw'.to hb
  clear rw'
  have rw' := rw't
  clear rw't
  have XCt := XX.to hb
  clear XX e0 e1 e2
  have XX := XCt
  have e0 := XX.c0
  have e1 := XX.c1
  have e2 := XX.c2
  clear XCt
  have hbt := bb.trans (hb.mono bb.size)
  clear bb hb
  have bb := hbt
  clear hbt
  go_wp2_with fail
  refine Calls.mono (same_yes B3 B6 _ _ _ _ L3 _ rc rw' hl3) ?_
  rintro e w11 ⟨rfl, q, hq⟩
  have hb := below_drew_of hq
  clear hq
  have put := pu.to hb
  clear pu
  have pu := put
  clear put
  have git := gi.to hb
  clear gi
  have gi := git
  clear git
  have rat := ra.to hb
  clear ra
  have ra := rat
  clear rat
  have rbt := rb.to hb
  clear rb
  have rb := rbt
  clear rbt
  have rct := rc.to hb
  clear rc
  have rc := rct
  clear rct
  have rut := ru.to hb
  clear ru
  have ru := rut
  clear rut
  have rvt := rv.to hb
  clear rv
  have rv := rvt
  clear rvt
  have rw't := rw'.to hb
  clear rw'
  have rw' := rw't
  clear rw't
  have XCt := XX.to hb
  clear XX e0 e1 e2
  have XX := XCt
  have e0 := XX.c0
  have e1 := XX.c1
  have e2 := XX.c2
  clear XCt
  have hbt := bb.trans (hb.mono bb.size)
  clear bb hb
  have bb := hbt
  clear hbt
  go_wp2_with fail
  refine Calls.mono (same_yes G _ _ _ _ _ us _ gi pu (by omega)) ?_
  rintro e w12 ⟨rfl, q, hq⟩
  have hb := below_drew_of hq
  clear hq
  have put := pu.to hb
  clear pu
  have pu := put
  clear put
  have git := gi.to hb
  clear gi
  have gi := git
  clear git
  have rat := ra.to hb
  clear ra
  have ra := rat
  clear rat
  have rbt := rb.to hb
  clear rb
  have rb := rbt
  clear rbt
  have rct := rc.to hb
  clear rc
  have rc := rct
  clear rct
  have rut := ru.to hb
  clear ru
  have ru := rut
  clear rut
  have rvt := rv.to hb
  clear rv
  have rv := rvt
  clear rvt
  have rw't := rw'.to hb
  clear rw'
  have rw' := rw't
  clear rw't
  have XCt := XX.to hb
  clear XX e0 e1 e2
  have XX := XCt
  have e0 := XX.c0
  have e1 := XX.c1
  have e2 := XX.c2
  clear XCt
  have hbt := bb.trans (hb.mono bb.size)
  clear bb hb
  have bb := hbt
  clear hbt
  go_wp2
  go_ret
  exact ⟨by simp, bb⟩

set_option maxHeartbeats 4000000 in
set_option maxRecDepth 100000 in
theorem moves_out (A : Option Addr) (n c x : Nat) (i : Int) (hr : i < 0 ∨ (n : Int) ≤ i) (j : Int) (us : List Nat) (w : World) (h : URow w w.heap.size A n us) (hn : n ≤ 200) (hx : x < 18446744073709551616) (hi : -9223372036854775808 ≤ (i : Int) ∧ (i : Int) ≤ 9223372036854775807) (hj : -9223372036854775808 ≤ j ∧ j ≤ 9223372036854775807) :
    Calls Try.prog 6 #[.slice A n c, .agg #[.int .i64 i, .int .i64 j, .int .u64 x]] w fun e w' => e = .returned (.bool true) ∧ Below w.heap.size w w' := by
  have dn : decide ((200 : Int) < n) = false := by simp; omega
  have HD := Lib.hid (fun B d w' (h' : URow w' w'.heap.size B n us) => draw_any B n d i x us w' h' (by omega) hx hi)
  have HP := Lib.hid (fun B d w' (h' : URow w' w'.heap.size B n us) => pay_any B n d j x us w' h' (by omega) hx hj)
  have HM := Lib.hid (fun B d w' (h' : URow w' w'.heap.size B n us) => move_any B n d i j x us w' h' (by omega) hx hi hj)
  have RD := Lib.hid (fun B d w' (h' : URow w' w'.heap.size B n us) => rdraw_any B n d i x us w' h' (by omega) hx hi)
  have RP := Lib.hid (fun B d w' (h' : URow w' w'.heap.size B n us) => rpay_any B n d j x us w' h' (by omega) hx hj)
  have RM := Lib.hid (fun B d w' (h' : URow w' w'.heap.size B n us) => rmove_any B n d i j x us w' h' (by omega) hx hi hj)
  have hl1 : (drawF us i x).1.length ≤ 1000000 := Nat.le_trans draw_len (by have := h.1; omega)
  have hl2 : (payF us j x).1.length ≤ 1000000 := Nat.le_trans pay_len (by have := h.1; omega)
  have hl3 : (moveF us i j x).1.length ≤ 1000000 := Nat.le_trans move_len (by have := h.1; omega)
  generalize drawF us i x = r1 at *
  generalize payF us j x = r2 at *
  generalize moveF us i j x = r3 at *
  obtain ⟨L1, E1⟩ := r1
  obtain ⟨L2, E2⟩ := r2
  obtain ⟨L3, E3⟩ := r3
  simp only at hl1 hl2 hl3
  have HH := Lib.hid (fun B d w' => has_no B n d i hr w')
  clear hi hj hx
  go_enter Try.func6, Try.ntmps6
  have hb0 := lit_below w (.cells #[.int .i64 i, .int .i64 j, .int .u64 x] 33)
  have XX := XC.new w i j x 33
  have e0 := XX.c0
  have e1 := XX.c1
  have e2 := XX.c2
  have pu := h.to hb0
  have bb := hb0
  clear h hb0
  go_wp2_with fail
  refine Calls.mono (awake_any _) ?_
  rintro e w1 ⟨rfl, hb⟩
  have put := pu.to hb
  clear pu
  have pu := put
  clear put
  have XCt := XX.to hb
  clear XX e0 e1 e2
  have XX := XCt
  have e0 := XX.c0
  have e1 := XX.c1
  have e2 := XX.c2
  clear XCt
  have hbt := bb.trans (hb.mono bb.size)
  clear bb hb
  have bb := hbt
  clear hbt
  go_wp2_with fail
  refine Calls.mono (own_any A n _ us _ pu (by omega)) ?_
  rintro e w2 ⟨G, dg, rfl, gi, hb⟩
  have put := pu.to hb
  clear pu
  have pu := put
  clear put
  have XCt := XX.to hb
  clear XX e0 e1 e2
  have XX := XCt
  have e0 := XX.c0
  have e1 := XX.c1
  have e2 := XX.c2
  clear XCt
  have hbt := bb.trans (hb.mono bb.size)
  clear bb hb
  have bb := hbt
  clear hbt
  go_wp2_with fail
  refine Calls.mono (HD.out G _ _ gi) ?_
  rintro e w3 ⟨B1, d1', rfl, ra, hb⟩
  have put := pu.to hb
  clear pu
  have pu := put
  clear put
  have git := gi.to hb
  clear gi
  have gi := git
  clear git
  have XCt := XX.to hb
  clear XX e0 e1 e2
  have XX := XCt
  have e0 := XX.c0
  have e1 := XX.c1
  have e2 := XX.c2
  clear XCt
  have hbt := bb.trans (hb.mono bb.size)
  clear bb hb
  have bb := hbt
  clear hbt
  go_wp2_with fail
  refine Calls.mono (HP.out G _ _ gi) ?_
  rintro e w4 ⟨B2, d2', rfl, rb, hb⟩
  have put := pu.to hb
  clear pu
  have pu := put
  clear put
  have git := gi.to hb
  clear gi
  have gi := git
  clear git
  have rat := ra.to hb
  clear ra
  have ra := rat
  clear rat
  have XCt := XX.to hb
  clear XX e0 e1 e2
  have XX := XCt
  have e0 := XX.c0
  have e1 := XX.c1
  have e2 := XX.c2
  clear XCt
  have hbt := bb.trans (hb.mono bb.size)
  clear bb hb
  have bb := hbt
  clear hbt
  go_wp2_with fail
  refine Calls.mono (HM.out G _ _ gi) ?_
  rintro e w5 ⟨B3, d3', rfl, rc, hb⟩
  have put := pu.to hb
  clear pu
  have pu := put
  clear put
  have git := gi.to hb
  clear gi
  have gi := git
  clear git
  have rat := ra.to hb
  clear ra
  have ra := rat
  clear rat
  have rbt := rb.to hb
  clear rb
  have rb := rbt
  clear rbt
  have XCt := XX.to hb
  clear XX e0 e1 e2
  have XX := XCt
  have e0 := XX.c0
  have e1 := XX.c1
  have e2 := XX.c2
  clear XCt
  have hbt := bb.trans (hb.mono bb.size)
  clear bb hb
  have bb := hbt
  clear hbt
  go_wp2_with fail
  refine Calls.mono (HH.out G _ _) ?_
  rintro e w' ⟨rfl, rfl⟩
  go_wp2_with fail
  refine Calls.mono (RD.out A _ _ pu) ?_
  rintro e w6 ⟨B4, d4', rfl, ru, hb⟩
  have put := pu.to hb
  clear pu
  have pu := put
  clear put
  have git := gi.to hb
  clear gi
  have gi := git
  clear git
  have rat := ra.to hb
  clear ra
  have ra := rat
  clear rat
  have rbt := rb.to hb
  clear rb
  have rb := rbt
  clear rbt
  have rct := rc.to hb
  clear rc
  have rc := rct
  clear rct
  have XCt := XX.to hb
  clear XX e0 e1 e2
  have XX := XCt
  have e0 := XX.c0
  have e1 := XX.c1
  have e2 := XX.c2
  clear XCt
  have hbt := bb.trans (hb.mono bb.size)
  clear bb hb
  have bb := hbt
  clear hbt
  go_wp2_with fail
  refine Calls.mono (RP.out A _ _ pu) ?_
  rintro e w7 ⟨B5, d5', rfl, rv, hb⟩
  have put := pu.to hb
  clear pu
  have pu := put
  clear put
  have git := gi.to hb
  clear gi
  have gi := git
  clear git
  have rat := ra.to hb
  clear ra
  have ra := rat
  clear rat
  have rbt := rb.to hb
  clear rb
  have rb := rbt
  clear rbt
  have rct := rc.to hb
  clear rc
  have rc := rct
  clear rct
  have rut := ru.to hb
  clear ru
  have ru := rut
  clear rut
  have XCt := XX.to hb
  clear XX e0 e1 e2
  have XX := XCt
  have e0 := XX.c0
  have e1 := XX.c1
  have e2 := XX.c2
  clear XCt
  have hbt := bb.trans (hb.mono bb.size)
  clear bb hb
  have bb := hbt
  clear hbt
  go_wp2_with fail
  refine Calls.mono (RM.out A _ _ pu) ?_
  rintro e w8 ⟨B6, d6', rfl, rw', hb⟩
  have put := pu.to hb
  clear pu
  have pu := put
  clear put
  have git := gi.to hb
  clear gi
  have gi := git
  clear git
  have rat := ra.to hb
  clear ra
  have ra := rat
  clear rat
  have rbt := rb.to hb
  clear rb
  have rb := rbt
  clear rbt
  have rct := rc.to hb
  clear rc
  have rc := rct
  clear rct
  have rut := ru.to hb
  clear ru
  have ru := rut
  clear rut
  have rvt := rv.to hb
  clear rv
  have rv := rvt
  clear rvt
  have XCt := XX.to hb
  clear XX e0 e1 e2
  have XX := XCt
  have e0 := XX.c0
  have e1 := XX.c1
  have e2 := XX.c2
  clear XCt
  have hbt := bb.trans (hb.mono bb.size)
  clear bb hb
  have bb := hbt
  clear hbt
  by_cases h0 : i < 0
  · have d1 : decide (i < 0) = true := by simpa using h0
    clear hr h0
    go_wp2_with fail
    refine Calls.mono (same_yes B1 B4 _ _ _ _ L1 _ ra ru hl1) ?_
    rintro e w9 ⟨rfl, q, hq⟩
    have hb := below_drew_of hq
    clear hq
    have put := pu.to hb
    clear pu
    have pu := put
    clear put
    have git := gi.to hb
    clear gi
    have gi := git
    clear git
    have rat := ra.to hb
    clear ra
    have ra := rat
    clear rat
    have rbt := rb.to hb
    clear rb
    have rb := rbt
    clear rbt
    have rct := rc.to hb
    clear rc
    have rc := rct
    clear rct
    have rut := ru.to hb
    clear ru
    have ru := rut
    clear rut
    have rvt := rv.to hb
    clear rv
    have rv := rvt
    clear rvt
    have rw't := rw'.to hb
    clear rw'
    have rw' := rw't
    clear rw't
    have XCt := XX.to hb
    clear XX e0 e1 e2
    have XX := XCt
    have e0 := XX.c0
    have e1 := XX.c1
    have e2 := XX.c2
    clear XCt
    have hbt := bb.trans (hb.mono bb.size)
    clear bb hb
    have bb := hbt
    clear hbt
    go_wp2_with fail
    refine Calls.mono (same_yes B2 B5 _ _ _ _ L2 _ rb rv hl2) ?_
    rintro e w10 ⟨rfl, q, hq⟩
    have hb := below_drew_of hq
    clear hq
    have put := pu.to hb
    clear pu
    have pu := put
    clear put
    have git := gi.to hb
    clear gi
    have gi := git
    clear git
    have rat := ra.to hb
    clear ra
    have ra := rat
    clear rat
    have rbt := rb.to hb
    clear rb
    have rb := rbt
    clear rbt
    have rct := rc.to hb
    clear rc
    have rc := rct
    clear rct
    have rut := ru.to hb
    clear ru
    have ru := rut
    clear rut
    have rvt := rv.to hb
    clear rv
    have rv := rvt
    clear rvt
    have rw't := rw'.to hb
    clear rw'
    have rw' := rw't
    clear rw't
    have XCt := XX.to hb
    clear XX e0 e1 e2
    have XX := XCt
    have e0 := XX.c0
    have e1 := XX.c1
    have e2 := XX.c2
    clear XCt
    have hbt := bb.trans (hb.mono bb.size)
    clear bb hb
    have bb := hbt
    clear hbt
    go_wp2_with fail
    refine Calls.mono (same_yes B3 B6 _ _ _ _ L3 _ rc rw' hl3) ?_
    rintro e w11 ⟨rfl, q, hq⟩
    have hb := below_drew_of hq
    clear hq
    have put := pu.to hb
    clear pu
    have pu := put
    clear put
    have git := gi.to hb
    clear gi
    have gi := git
    clear git
    have rat := ra.to hb
    clear ra
    have ra := rat
    clear rat
    have rbt := rb.to hb
    clear rb
    have rb := rbt
    clear rbt
    have rct := rc.to hb
    clear rc
    have rc := rct
    clear rct
    have rut := ru.to hb
    clear ru
    have ru := rut
    clear rut
    have rvt := rv.to hb
    clear rv
    have rv := rvt
    clear rvt
    have rw't := rw'.to hb
    clear rw'
    have rw' := rw't
    clear rw't
    have XCt := XX.to hb
    clear XX e0 e1 e2
    have XX := XCt
    have e0 := XX.c0
    have e1 := XX.c1
    have e2 := XX.c2
    clear XCt
    have hbt := bb.trans (hb.mono bb.size)
    clear bb hb
    have bb := hbt
    clear hbt
    go_wp2_with fail
    refine Calls.mono (same_yes G _ _ _ _ _ us _ gi pu (by omega)) ?_
    rintro e w12 ⟨rfl, q, hq⟩
    have hb := below_drew_of hq
    clear hq
    have put := pu.to hb
    clear pu
    have pu := put
    clear put
    have git := gi.to hb
    clear gi
    have gi := git
    clear git
    have rat := ra.to hb
    clear ra
    have ra := rat
    clear rat
    have rbt := rb.to hb
    clear rb
    have rb := rbt
    clear rbt
    have rct := rc.to hb
    clear rc
    have rc := rct
    clear rct
    have rut := ru.to hb
    clear ru
    have ru := rut
    clear rut
    have rvt := rv.to hb
    clear rv
    have rv := rvt
    clear rvt
    have rw't := rw'.to hb
    clear rw'
    have rw' := rw't
    clear rw't
    have XCt := XX.to hb
    clear XX e0 e1 e2
    have XX := XCt
    have e0 := XX.c0
    have e1 := XX.c1
    have e2 := XX.c2
    clear XCt
    have hbt := bb.trans (hb.mono bb.size)
    clear bb hb
    have bb := hbt
    clear hbt
    go_wp2
    go_ret
    exact ⟨by simp, bb⟩
  · obtain ⟨k, rfl⟩ : ∃ k : Nat, i = k := ⟨i.toNat, by omega⟩
    have d1 : decide (n ≤ k) = true := by simp; omega
    clear hr h0
    go_wp2_with fail
    refine Calls.mono (same_yes B1 B4 _ _ _ _ L1 _ ra ru hl1) ?_
    rintro e w13 ⟨rfl, q, hq⟩
    have hb := below_drew_of hq
    clear hq
    have put := pu.to hb
    clear pu
    have pu := put
    clear put
    have git := gi.to hb
    clear gi
    have gi := git
    clear git
    have rat := ra.to hb
    clear ra
    have ra := rat
    clear rat
    have rbt := rb.to hb
    clear rb
    have rb := rbt
    clear rbt
    have rct := rc.to hb
    clear rc
    have rc := rct
    clear rct
    have rut := ru.to hb
    clear ru
    have ru := rut
    clear rut
    have rvt := rv.to hb
    clear rv
    have rv := rvt
    clear rvt
    have rw't := rw'.to hb
    clear rw'
    have rw' := rw't
    clear rw't
    have XCt := XX.to hb
    clear XX e0 e1 e2
    have XX := XCt
    have e0 := XX.c0
    have e1 := XX.c1
    have e2 := XX.c2
    clear XCt
    have hbt := bb.trans (hb.mono bb.size)
    clear bb hb
    have bb := hbt
    clear hbt
    go_wp2_with fail
    refine Calls.mono (same_yes B2 B5 _ _ _ _ L2 _ rb rv hl2) ?_
    rintro e w14 ⟨rfl, q, hq⟩
    have hb := below_drew_of hq
    clear hq
    have put := pu.to hb
    clear pu
    have pu := put
    clear put
    have git := gi.to hb
    clear gi
    have gi := git
    clear git
    have rat := ra.to hb
    clear ra
    have ra := rat
    clear rat
    have rbt := rb.to hb
    clear rb
    have rb := rbt
    clear rbt
    have rct := rc.to hb
    clear rc
    have rc := rct
    clear rct
    have rut := ru.to hb
    clear ru
    have ru := rut
    clear rut
    have rvt := rv.to hb
    clear rv
    have rv := rvt
    clear rvt
    have rw't := rw'.to hb
    clear rw'
    have rw' := rw't
    clear rw't
    have XCt := XX.to hb
    clear XX e0 e1 e2
    have XX := XCt
    have e0 := XX.c0
    have e1 := XX.c1
    have e2 := XX.c2
    clear XCt
    have hbt := bb.trans (hb.mono bb.size)
    clear bb hb
    have bb := hbt
    clear hbt
    go_wp2_with fail
    refine Calls.mono (same_yes B3 B6 _ _ _ _ L3 _ rc rw' hl3) ?_
    rintro e w15 ⟨rfl, q, hq⟩
    have hb := below_drew_of hq
    clear hq
    have put := pu.to hb
    clear pu
    have pu := put
    clear put
    have git := gi.to hb
    clear gi
    have gi := git
    clear git
    have rat := ra.to hb
    clear ra
    have ra := rat
    clear rat
    have rbt := rb.to hb
    clear rb
    have rb := rbt
    clear rbt
    have rct := rc.to hb
    clear rc
    have rc := rct
    clear rct
    have rut := ru.to hb
    clear ru
    have ru := rut
    clear rut
    have rvt := rv.to hb
    clear rv
    have rv := rvt
    clear rvt
    have rw't := rw'.to hb
    clear rw'
    have rw' := rw't
    clear rw't
    have XCt := XX.to hb
    clear XX e0 e1 e2
    have XX := XCt
    have e0 := XX.c0
    have e1 := XX.c1
    have e2 := XX.c2
    clear XCt
    have hbt := bb.trans (hb.mono bb.size)
    clear bb hb
    have bb := hbt
    clear hbt
    go_wp2_with fail
    refine Calls.mono (same_yes G _ _ _ _ _ us _ gi pu (by omega)) ?_
    rintro e w16 ⟨rfl, q, hq⟩
    have hb := below_drew_of hq
    clear hq
    have put := pu.to hb
    clear pu
    have pu := put
    clear put
    have git := gi.to hb
    clear gi
    have gi := git
    clear git
    have rat := ra.to hb
    clear ra
    have ra := rat
    clear rat
    have rbt := rb.to hb
    clear rb
    have rb := rbt
    clear rbt
    have rct := rc.to hb
    clear rc
    have rc := rct
    clear rct
    have rut := ru.to hb
    clear ru
    have ru := rut
    clear rut
    have rvt := rv.to hb
    clear rv
    have rv := rvt
    clear rvt
    have rw't := rw'.to hb
    clear rw'
    have rw' := rw't
    clear rw't
    have XCt := XX.to hb
    clear XX e0 e1 e2
    have XX := XCt
    have e0 := XX.c0
    have e1 := XX.c1
    have e2 := XX.c2
    clear XCt
    have hbt := bb.trans (hb.mono bb.size)
    clear bb hb
    have bb := hbt
    clear hbt
    go_wp2
    go_ret
    exact ⟨by simp, bb⟩

theorem moves_law (A : Option Addr) (n c x : Nat) (i j : Int) (us : List Nat) (w : World) (h : URow w w.heap.size A n us) (hn : n ≤ 9223372036854775807) (hx : x < 18446744073709551616) (hi : -9223372036854775808 ≤ i ∧ i ≤ 9223372036854775807) (hj : -9223372036854775808 ≤ j ∧ j ≤ 9223372036854775807) :
    Calls Try.prog 6 #[.slice A n c, .agg #[.int .i64 i, .int .i64 j, .int .u64 x]] w fun e w' => e = .returned (.bool true) ∧ Below w.heap.size w w' := by
  by_cases h1 : 200 < n
  · have d1 : decide ((200 : Int) < n) = true := by simp; omega
    have hb0 := lit_below w (.cells #[.int .i64 i, .int .i64 j, .int .u64 x] 33)
    clear h hi hj
    go_enter Try.func6, Try.ntmps6
    go_wp2_with fail
    refine (awake_any _).mono ?_
    rintro e w1 ⟨rfl, hb⟩
    go_wp2
    go_ret
    exact ⟨rfl, hb0.trans (hb.mono hb0.size)⟩
  by_cases hr : i < 0 ∨ (n : Int) ≤ i
  · exact moves_out A n c x i hr j us w h (by omega) hx hi hj
  · obtain ⟨k, rfl⟩ : ∃ k : Nat, i = k := ⟨i.toNat, by omega⟩
    exact moves_in A n c x k (by omega) j us w h (by omega) hx hi hj
end Go.Proofs.Ytdjeedmiicagcaa.PurseW
