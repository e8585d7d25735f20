/- The walks of the purse, second part: Draw, Pay, Move of the program and of the document. Conditions: rows are read rightly and are not too long. Printed by gen_purse2.py. -/
import Derived.Test.YtdjeedmiicagcaaPurse1
namespace Go.Proofs.Ytdjeedmiicagcaa.PurseW
open Go.RowKit
open Go.Proofs.Ytdjeedmiicagcaa.Words

/-- what Draw, Pay and Move answer: a list, an error's number -/
def drawF (us : List Nat) (i : Int) (x : Nat) : List Nat × Int :=
  if i < 0 ∨ (us.length : Int) ≤ i then ([], 170) else if un us i.toNat < x then ([], 171) else (us.set i.toNat (un us i.toNat - x), 0)
def payF (us : List Nat) (i : Int) (x : Nat) : List Nat × Int :=
  if i < 0 ∨ (us.length : Int) ≤ i then ([], 170) else if un us i.toNat + x ≤ 4611686018427387904 then (us.set i.toNat (un us i.toNat + x), 0) else ([], 10)
def moveF (us : List Nat) (i j : Int) (x : Nat) : List Nat × Int :=
  if (i < 0 ∨ (us.length : Int) ≤ i) ∨ (j < 0 ∨ (us.length : Int) ≤ j) then ([], 170) else if (drawF us i x).2 = 0 then payF (drawF us i x).1 j x else ([], (drawF us i x).2)
theorem draw_len {us : List Nat} {i : Int} {x : Nat} : (drawF us i x).1.length ≤ us.length := by
  unfold drawF; split
  · simp
  · split <;> simp
theorem draw_wd {us : List Nat} {i : Int} {x : Nat} (h : Wd us) : Wd (drawF us i x).1 := by
  unfold drawF; split
  · intro b hb; cases hb
  · split
    · intro b hb; cases hb
    · exact h.set (by have := h.un i.toNat; omega)
/-- a call that gives a list and an error's number -/
def Gave (w : World) (r : List Nat × Int) (e : Ending) (w' : World) : Prop := ∃ B d, e = .returned (.tuple #[.slice B r.1.length d, .int .i64 r.2]) ∧ URow w' w'.heap.size B r.1.length r.1 ∧ Below w.heap.size w w'
theorem Gave.nil {w w' : World} {E : Int} {e : Ending} (h : e = .returned (.tuple #[.slice none 0 0, .int .i64 E])) (hb : Below w.heap.size w w') : Gave w ([], E) e w' := ⟨none, 0, h, urow_nil _ _, hb⟩
theorem Gave.row {w w' : World} {E : Int} {L : List Nat} {B : Option Addr} {n d : Nat} {e : Ending} (hn : L.length = n) (h : e = .returned (.tuple #[.slice B n d, .int .i64 E])) (hr : URow w' w'.heap.size B n L) (hb : Below w.heap.size w w') : Gave w (L, E) e w' := by
  subst hn; exact ⟨B, d, h, hr, hb⟩
theorem Gave.mk {w w' : World} {r : List Nat × Int} {B : Option Addr} {d : Nat} {e : Ending} (h : e = .returned (.tuple #[.slice B r.1.length d, .int .i64 r.2])) (hr : URow w' w'.heap.size B r.1.length r.1) (hb : Below w.heap.size w w') : Gave w r e w' := ⟨B, d, h, hr, hb⟩
def Gives (f : FuncId) (args : Array Value) (w : World) (r : List Nat × Int) : Prop := Calls Try.prog f args w fun e w' => Gave w r e w'

theorem app1_below {w wr w1 : World} {e : TypeId} {v : Value} {n : Nat} {xs : List Value} {o : Obj} (hb : Below w.heap.size w wr) (hown : wr.ownsRow w.heap.size e 1 v n xs)
    (hg : (wr.alloc o).grownBy w1 v.ownBlock) : Below w.heap.size w w1 := app_below hb hown hg
def tk (us : List Nat) (k s j : Nat) : List Value := ((us.set k s).take j).map uw
theorem take_set_succ {us : List Nat} {k s j : Nat} (hj : j < us.length) (hk : k < us.length) : tk us k s (j + 1) = tk us k s j ++ [.int .u64 ((if j = k then s else un us j : Nat) : Int)] := by
  unfold tk
  have h1 : j < (us.set k s).length := by simpa using hj
  rw [List.take_add_one, List.getElem?_eq_getElem h1, List.map_append, ← un_lt h1, un_set hk]
  rfl

set_option maxRecDepth 100000 in
theorem change_any (A : Option Addr) (n c k s : Nat) (us : List Nat) (w : World) (h : URow w w.heap.size A n us) (hk : k < n) (hn : n ≤ 1000000) (hs : s < 18446744073709551616) :
    Calls Try.prog 65 #[.slice A n c, .int .i64 k, .int .u64 s] w fun e w' => ∃ B d, e = .returned (.slice B n d) ∧ URow w' w'.heap.size B n (us.set k s) ∧ Below w.heap.size w w' := by
  obtain ⟨i0, hi0, hz0, hz1, hz2⟩ := info_parts info_u64
  obtain ⟨hl, hw, hr⟩ := h
  have HL := Lib.hid hl
  have HW := Lib.hid (hw.set (k := k) hs)
  clear hw
  go_enter Try.func65, Try.ntmps65
  go_wp2
  go_loopw [7, 8] (fun v kv wr => ∃ j : Nat, kv = .int .i64 j ∧ j ≤ n ∧ wr.ownsRow w.heap.size 22 1 v j (tk us k s j) ∧ Below w.heap.size w wr) (fun _ kv _ => n - (intOf kv).toNat)
  case atStart => exact ⟨0, rfl, Nat.zero_le _, World.ownsRow_nil _ _ _ _, Below.refl _ _⟩
  case round =>
    obtain ⟨j, rfl, hj, hown, hbw⟩ := hrel
    by_cases hlt : j < n
    · have d1 : decide (j < n) = true := by simpa using hlt
      have HT := Lib.hid (take_set_succ (us := us) (k := k) (s := s) (j := j) (by omega) (by omega))
      by_cases hjk : j = k
      · have HT2 := HT.out
        rw [if_pos hjk] at HT2
        have HT3 := Lib.hid HT2
        have d2 : ((j : Int) == (k : Int)) = true := by simp; omega
        clear HT HT2 hl hjk
        go_wp2_with (at_builtin; refine wpList_append_own _ rfl _ _ 31 rfl w.heap.size 22 i0 (.int .u64 0) 1 8 Try.underlying31 hi0 hz0 hz1 hz2 rfl (by decide) _ _ _ rfl (hown.alloc _) ⟨wr.heap.size, 0, none⟩ 1 1 [.int .u64 s] rfl rfl (cell_one_new _ _ _) ?_ ?_ ?_ ?_ ?_)
        · intro u hu; simp at hu; subst hu; rfl
        · unfold maxLen; omega
        · omega
        · have := hbw.size; simp; omega
        intro v' w1 hown' hgrow _
        have hb1 := app1_below hbw hown hgrow
        clear hgrow hown hbw
        go_wp2
        exact ⟨⟨j + 1, by go_num, by omega, by rw [HT3.out]; exact hown', hb1⟩, by simp [intOf]; omega⟩
      · have HT2 := HT.out
        rw [if_neg hjk] at HT2
        have HT3 := Lib.hid HT2
        have d2 : ((j : Int) == (k : Int)) = false := by simp; omega
        obtain ⟨ad, rfl, _, hc⟩ := (hr.below hbw) j hlt
        have hc' : wr.cell? (ad.add j) = some (.int .u64 (un us j)) := hc
        clear HT HT2 hl hjk hc hr
        generalize un us j = x at hc' HT3
        go_wp2_with (at_builtin; refine wpList_append_own _ rfl _ _ 31 rfl w.heap.size 22 i0 (.int .u64 0) 1 8 Try.underlying31 hi0 hz0 hz1 hz2 rfl (by decide) _ _ _ rfl (hown.alloc _) ⟨wr.heap.size, 0, none⟩ 1 1 [.int .u64 x] rfl rfl (cell_one_new _ _ _) ?_ ?_ ?_ ?_ ?_)
        · intro u hu; simp at hu; subst hu; rfl
        · unfold maxLen; omega
        · omega
        · have := hbw.size; simp; omega
        intro v' w1 hown' hgrow _
        have hb1 := app1_below hbw hown hgrow
        clear hgrow hown hbw
        go_wp2
        exact ⟨⟨j + 1, by go_num, by omega, by rw [HT3.out]; exact hown', hb1⟩, by simp [intOf]; omega⟩
    · have d1 : decide (j < n) = false := by simpa using hlt
      obtain rfl : j = n := by omega
      clear hr
      go_wp2
      go_ret
      rw [show tk us k s j = (us.set k s).map uw by unfold tk; rw [List.take_of_length_le (by rw [List.length_set, HL.out]; exact Nat.le_refl _)]] at hown
      obtain ⟨B, d, rfl, _, _, _, hrow⟩ := urow_of_own (by rw [List.length_set, HL.out]) HW.out hown
      exact ⟨B, d, rfl, hrow, hbw⟩

set_option maxRecDepth 100000 in
theorem draw_any (A : Option Addr) (n c : Nat) (i : Int) (x : Nat) (us : List Nat) (w : World) (h : URow w w.heap.size A n us) (hn : n ≤ 1000000) (hx : x < 18446744073709551616) (hi : -9223372036854775808 ≤ i ∧ i ≤ 9223372036854775807) :
    Gives 23 #[.slice A n c, .int .i64 i, .int .u64 x] w (drawF us i x) := by
  unfold Gives drawF
  by_cases hr : i < 0 ∨ (us.length : Int) ≤ i
  · rw [if_pos hr]
    rw [h.1] at hr
    have H := Lib.hid (has_no A n c i hr w)
    clear hr h
    go_enter Try.func23, Try.ntmps23
    go_wp2_with fail
    refine H.out.mono ?_
    rintro e w' ⟨rfl, rfl⟩
    go_wp2
    go_ret2
    exact Gave.nil rfl (Below.refl _ _)
  rw [if_neg hr]
  obtain ⟨k, rfl⟩ : ∃ k : Nat, i = k := ⟨i.toNat, by omega⟩
  rw [Int.toNat_natCast]
  have hk : k < n := by have := h.1; omega
  have H1 := Lib.hid (has_yes A n c k _ us hk w h)
  by_cases hd : un us k < x
  · rw [if_pos hd]
    have H2 := Lib.hid (msub_bad (un us k) x hd hx w)
    clear h hr hd
    generalize un us k = y at H1 H2
    go_enter Try.func23, Try.ntmps23
    go_wp2_with fail
    refine H1.out.mono ?_
    rintro e w' ⟨rfl, rfl⟩
    go_wp2_with fail
    refine H2.out.mono ?_
    rintro e w' ⟨rfl, rfl⟩
    go_wp2
    go_ret2
    exact Gave.nil rfl (Below.refl _ _)
  · rw [if_neg hd]
    obtain ⟨d, hdd⟩ : ∃ d, d = un us k - x := ⟨_, rfl⟩
    rw [← hdd]
    have H2 := Lib.hid (msub_ok (un us k) x d (by omega) (h.2.1.un k) w)
    have H3 := Lib.hid (with_any A n c k d us w h hk hn (by have := h.2.1.un k; omega))
    have hlen := Lib.hid (show (us.set k d).length = n by rw [List.length_set]; exact h.1)
    clear h hr hd hdd
    generalize un us k = y at H1 H2
    go_enter Try.func23, Try.ntmps23
    go_wp2_with fail
    refine H1.out.mono ?_
    rintro e w' ⟨rfl, rfl⟩
    go_wp2_with fail
    refine H2.out.mono ?_
    rintro e w' ⟨rfl, rfl⟩
    go_wp2_with fail
    refine H3.out.mono ?_
    rintro e w' ⟨B, d', rfl, hrow, hb⟩
    go_wp2
    go_ret2
    exact Gave.row hlen.out rfl hrow hb

set_option maxRecDepth 100000 in
theorem pay_any (A : Option Addr) (n c : Nat) (i : Int) (x : Nat) (us : List Nat) (w : World) (h : URow w w.heap.size A n us) (hn : n ≤ 1000000) (hx : x < 18446744073709551616) (hi : -9223372036854775808 ≤ i ∧ i ≤ 9223372036854775807) :
    Gives 24 #[.slice A n c, .int .i64 i, .int .u64 x] w (payF us i x) := by
  unfold Gives payF
  by_cases hr : i < 0 ∨ (us.length : Int) ≤ i
  · rw [if_pos hr]
    rw [h.1] at hr
    have H := Lib.hid (has_no A n c i hr w)
    clear hr h
    go_enter Try.func24, Try.ntmps24
    go_wp2_with fail
    refine H.out.mono ?_
    rintro e w' ⟨rfl, rfl⟩
    go_wp2
    go_ret2
    exact Gave.nil rfl (Below.refl _ _)
  rw [if_neg hr]
  obtain ⟨k, rfl⟩ : ∃ k : Nat, i = k := ⟨i.toNat, by omega⟩
  rw [Int.toNat_natCast]
  have hk : k < n := by have := h.1; omega
  have H1 := Lib.hid (has_yes A n c k _ us hk w h)
  obtain ⟨s, hss⟩ : ∃ s, s = un us k + x := ⟨_, rfl⟩
  rw [← hss]
  by_cases hd : s ≤ 4611686018427387904
  · rw [if_pos hd]
    have H2 := Lib.hid (madd_ok (un us k) x s hss (by omega) w)
    have H3 := Lib.hid (with_any A n c k s us w h hk hn (by omega))
    have hlen := Lib.hid (show (us.set k s).length = n by rw [List.length_set]; exact h.1)
    have d2 : decide ((4611686018427387904 : Int) < s) = false := by simp; omega
    clear h hr hd hss
    generalize un us k = y at H1 H2
    go_enter Try.func24, Try.ntmps24
    go_wp2_with fail
    refine H1.out.mono ?_
    rintro e w' ⟨rfl, rfl⟩
    go_wp2_with fail
    refine H2.out.mono ?_
    rintro e w' ⟨rfl, rfl⟩
    go_wp2_with fail
    refine H3.out.mono ?_
    rintro e w' ⟨B, d', rfl, hrow, hb⟩
    go_wp2
    go_ret2
    exact Gave.row hlen.out rfl hrow hb
  rw [if_neg hd]
  by_cases he : s < 18446744073709551616
  · have H2 := Lib.hid (madd_ok (un us k) x s hss he w)
    have d2 : decide ((4611686018427387904 : Int) < s) = true := by simp; omega
    clear h hr hd hss he
    generalize un us k = y at H1 H2
    go_enter Try.func24, Try.ntmps24
    go_wp2_with fail
    refine H1.out.mono ?_
    rintro e w' ⟨rfl, rfl⟩
    go_wp2_with fail
    refine H2.out.mono ?_
    rintro e w' ⟨rfl, rfl⟩
    go_wp2
    go_ret2
    exact Gave.nil rfl (Below.refl _ _)
  · have H2 := Lib.hid (madd_bad (un us k) x (h.2.1.un k) hx (by omega) w)
    clear h hr hd hss he
    generalize un us k = y at H1 H2
    go_enter Try.func24, Try.ntmps24
    go_wp2_with fail
    refine H1.out.mono ?_
    rintro e w' ⟨rfl, rfl⟩
    go_wp2_with fail
    refine H2.out.mono ?_
    rintro e w' ⟨rfl, rfl⟩
    go_wp2
    go_ret2
    exact Gave.nil rfl (Below.refl _ _)

set_option maxRecDepth 100000 in
theorem rdraw_any (A : Option Addr) (n c : Nat) (i : Int) (x : Nat) (us : List Nat) (w : World) (h : URow w w.heap.size A n us) (hn : n ≤ 1000000) (hx : x < 18446744073709551616) (hi : -9223372036854775808 ≤ i ∧ i ≤ 9223372036854775807) :
    Gives 27 #[.slice A n c, .int .i64 i, .int .u64 x] w (drawF us i x) := by
  unfold Gives drawF
  by_cases hr : i < 0 ∨ (us.length : Int) ≤ i
  · rw [if_pos hr]
    rw [h.1] at hr
    clear h
    by_cases h0 : i < 0
    · have d1 : decide (i < 0) = true := by simpa using h0
      clear hr
      go_enter Try.func27, Try.ntmps27
      go_wp2
      go_ret2
      exact Gave.nil rfl (Below.refl _ _)
    · obtain ⟨k, rfl⟩ : ∃ k : Nat, i = k := ⟨i.toNat, by omega⟩
      have d1 : decide (n ≤ k) = true := by simp; omega
      clear hr h0
      go_enter Try.func27, Try.ntmps27
      go_wp2
      go_ret2
      exact Gave.nil rfl (Below.refl _ _)
  rw [if_neg hr]
  obtain ⟨k, rfl⟩ : ∃ k : Nat, i = k := ⟨i.toNat, by omega⟩
  rw [Int.toNat_natCast]
  have hk : k < n := by have := h.1; omega
  obtain ⟨ad, rfl, _, hc⟩ := h.2.2 k hk
  have hc' : w.cell? (ad.add k) = some (.int .u64 (un us k)) := hc
  have d1 : decide (n ≤ k) = false := by simp; omega
  have d3 : decide (k < n) = true := by simp; omega
  clear hc
  by_cases hd : un us k < x
  · rw [if_pos hd]
    have d2 : decide (un us k < x) = true := by simpa using hd
    clear h hr hd
    generalize un us k = y at hc' d2
    go_enter Try.func27, Try.ntmps27
    go_wp2
    go_ret2
    exact Gave.nil rfl (Below.refl _ _)
  · rw [if_neg hd]
    have d2 : decide (un us k < x) = false := by simpa using hd
    obtain ⟨d, hdd⟩ : ∃ d, d = un us k - x := ⟨_, rfl⟩
    rw [← hdd]
    have hlt := h.2.1.un k
    have H3 := Lib.hid (change_any (some ad) n c k d us w h hk hn (by omega))
    have hlen := Lib.hid (show (us.set k d).length = n by rw [List.length_set]; exact h.1)
    have hsub : IntKind.u64.wrap ((un us k : Int) - (x : Int)) = d := (IntWalk.u64_in _ (by omega)).trans (by omega)
    clear h hr hd hdd hlt
    generalize un us k = y at hc' d2 hsub
    go_enter Try.func27, Try.ntmps27
    go_wp2_with fail
    refine H3.out.mono ?_
    rintro e w' ⟨B, d', rfl, hrow, hb⟩
    go_wp2
    go_ret2
    exact Gave.row hlen.out rfl hrow hb

set_option maxRecDepth 100000 in
theorem rpay_any (A : Option Addr) (n c : Nat) (i : Int) (x : Nat) (us : List Nat) (w : World) (h : URow w w.heap.size A n us) (hn : n ≤ 1000000) (hx : x < 18446744073709551616) (hi : -9223372036854775808 ≤ i ∧ i ≤ 9223372036854775807) :
    Gives 28 #[.slice A n c, .int .i64 i, .int .u64 x] w (payF us i x) := by
  unfold Gives payF
  by_cases hr : i < 0 ∨ (us.length : Int) ≤ i
  · rw [if_pos hr]
    rw [h.1] at hr
    clear h
    by_cases h0 : i < 0
    · have d1 : decide (i < 0) = true := by simpa using h0
      clear hr
      go_enter Try.func28, Try.ntmps28
      go_wp2
      go_ret2
      exact Gave.nil rfl (Below.refl _ _)
    · obtain ⟨k, rfl⟩ : ∃ k : Nat, i = k := ⟨i.toNat, by omega⟩
      have d1 : decide (n ≤ k) = true := by simp; omega
      clear hr h0
      go_enter Try.func28, Try.ntmps28
      go_wp2
      go_ret2
      exact Gave.nil rfl (Below.refl _ _)
  rw [if_neg hr]
  obtain ⟨k, rfl⟩ : ∃ k : Nat, i = k := ⟨i.toNat, by omega⟩
  rw [Int.toNat_natCast]
  have hk : k < n := by have := h.1; omega
  obtain ⟨ad, rfl, _, hc⟩ := h.2.2 k hk
  have hc' : w.cell? (ad.add k) = some (.int .u64 (un us k)) := hc
  have d1 : decide (n ≤ k) = false := by simp; omega
  have d3 : decide (k < n) = true := by simp; omega
  clear hc
  obtain ⟨s, hss⟩ : ∃ s, s = un us k + x := ⟨_, rfl⟩
  rw [← hss]
  by_cases hd : s ≤ 4611686018427387904
  · rw [if_pos hd]
    have d4 : decide ((4611686018427387904 : Int) < x) = false := by simp; omega
    have d5 : decide ((4611686018427387904 : Int) < un us k) = false := by simp; omega
    have d6 : decide ((4611686018427387904 : Int) < s) = false := by simp; omega
    have hadd : IntKind.u64.wrap ((un us k : Int) + (x : Int)) = s := (IntWalk.u64_in _ (by omega)).trans (by omega)
    have H3 := Lib.hid (change_any (some ad) n c k s us w h hk hn (by omega))
    have hlen := Lib.hid (show (us.set k s).length = n by rw [List.length_set]; exact h.1)
    clear h hr hd hss
    generalize un us k = y at hc' d5 hadd
    go_enter Try.func28, Try.ntmps28
    go_wp2_with fail
    refine H3.out.mono ?_
    rintro e w' ⟨B, d', rfl, hrow, hb⟩
    go_wp2
    go_ret2
    exact Gave.row hlen.out rfl hrow hb
  rw [if_neg hd]
  by_cases h4 : 4611686018427387904 < x
  · have d4 : decide ((4611686018427387904 : Int) < x) = true := by simp; omega
    clear h hr hd hss h4
    generalize un us k = y at hc'
    go_enter Try.func28, Try.ntmps28
    go_wp2
    go_ret2
    exact Gave.nil rfl (Below.refl _ _)
  have d4 : decide ((4611686018427387904 : Int) < x) = false := by simp; omega
  by_cases h5 : 4611686018427387904 < un us k
  · have d5 : decide ((4611686018427387904 : Int) < un us k) = true := by simp; omega
    clear h hr hd hss h4 h5
    generalize un us k = y at hc' d5
    go_enter Try.func28, Try.ntmps28
    go_wp2
    go_ret2
    exact Gave.nil rfl (Below.refl _ _)
  · have d5 : decide ((4611686018427387904 : Int) < un us k) = false := by simp; omega
    have d6 : decide ((4611686018427387904 : Int) < s) = true := by simp; omega
    have hadd : IntKind.u64.wrap ((un us k : Int) + (x : Int)) = s := (IntWalk.u64_in _ (by omega)).trans (by omega)
    clear h hr hd hss h4 h5
    generalize un us k = y at hc' d5 hadd
    go_enter Try.func28, Try.ntmps28
    go_wp2
    go_ret2
    exact Gave.nil rfl (Below.refl _ _)
end Go.Proofs.Ytdjeedmiicagcaa.PurseW
