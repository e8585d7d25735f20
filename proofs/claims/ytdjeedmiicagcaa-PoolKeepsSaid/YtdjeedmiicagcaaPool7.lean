/- The walks of the pool, seventh part: the awakening, PoolSums. Conditions: rows are read rightly. -/
import Derived.Test.YtdjeedmiicagcaaPool6
namespace Go.Proofs.Ytdjeedmiicagcaa.PoolW
open Go.RowKit
open Go.Proofs.Ytdjeedmiicagcaa.Words Go.Proofs.Ytdjeedmiicagcaa.NatW Go.Proofs.Ytdjeedmiicagcaa.PurseW

theorem owe_first (w : World) : Calls Try.prog 54 #[.slice none 0 0, .agg #[.int .i64 1, .int .i64 5, .int .u64 3]] w (OweOk w [⟨1, 5, 3⟩]) :=
  owe_new none 0 0 [] ⟨1, 5, 3⟩ 0 w (SRow.nil _ _ _ _) (by omega) (fun _ => ⟨rfl, rfl⟩) ⟨by show (0 : Int) ≤ 1; omega, by show (1 : Int) ≤ 63; omega, by show (0 : Int) ≤ 5; omega⟩ ⟨by show 0 < 3; omega, by show 3 ≤ 4611686018427387904; omega⟩
    (fun j y h => by simp at h) ⟨Nat.le_refl _, fun j y _ h => by simp at h, .inl rfl⟩ (insert_end ⟨1, 5, 3⟩ [] (by simp))
theorem owe_second (A : Option Addr) (c : Nat) (w : World) (hR : SRow w w.heap.size A 1 3 (flat Du.enc [⟨1, 5, 3⟩])) (hA : A = none → 1 = 0 ∧ c = 0) : Calls Try.prog 54 #[.slice A 1 c, .agg #[.int .i64 1, .int .i64 5, .int .u64 4]] w (OweOk w [⟨1, 5, 7⟩]) :=
  owe_hit_ok A 1 c [⟨1, 5, 3⟩] ⟨1, 5, 4⟩ 0 ⟨1, 5, 3⟩ w hR (by omega) hA ⟨by show (0 : Int) ≤ 1; omega, by show (1 : Int) ≤ 63; omega, by show (0 : Int) ≤ 5; omega⟩ ⟨by show 0 < 4; omega, by show 4 ≤ 4611686018427387904; omega⟩
    rfl (by decide) (fun j y h => by omega) 7 rfl (by omega)
set_option maxRecDepth 100000 in
theorem awake18 (w : World) : Calls Try.prog 46 #[] w fun e w' => e = .returned (.bool true) ∧ Below w.heap.size w w' := by
  go_enter Try.func46, Try.ntmps46
  go_wp2_with fail
  refine (owe_first w).mono ?_
  rintro e w1 ⟨v1, rfl, ho1, hb1⟩
  obtain ⟨A1, c1, rfl, _, _, _, hr1⟩ := SRow.own ho1
  have hA1 : A1 = none → 1 = 0 ∧ c1 = 0 := fun h => by
    obtain ⟨ad, e, _⟩ := hr1.2 0 (by simp)
    rw [h] at e; cases e
  have HS := Lib.hid (owe_second A1 c1 w1 hr1 hA1)
  clear ho1 hr1 hA1
  go_wp2_with fail
  refine HS.out.mono ?_
  rintro e w2 ⟨v2, rfl, ho2, hb2⟩
  obtain ⟨A2, c2, rfl, _, _, _, hr2⟩ := SRow.own ho2
  have hbb := hb1.trans (hb2.mono hb1.size)
  obtain ⟨ad, rfl, _, hcs⟩ := hr2.cell Du.len (i := 0) (by simp) rfl (by omega)
  have hc0 : w2.cell? ad = some (.int .i64 1) := by have := hcs 0 _ rfl; rw [Nat.zero_mul, Words.add_zero, Words.add_zero] at this; exact this
  have hc1 : w2.cell? ⟨ad.block, ad.off + 1, none⟩ = some (.int .i64 5) := by have := hcs 1 _ rfl; rw [Nat.zero_mul, Words.add_zero] at this; exact this
  have hc2 : w2.cell? ⟨ad.block, ad.off + 2, none⟩ = some (.int .u64 7) := by have := hcs 2 _ rfl; rw [Nat.zero_mul, Words.add_zero] at this; exact this
  clear hcs hr2 ho2 HS hb1 hb2
  go_wp2
  go_ret
  exact ⟨rfl, hbb⟩
theorem sums_big (A B : Option Addr) (n c m d : Nat) (w : World) (h : 200 < n ∨ 200 < m) :
    Calls Try.prog 12 #[.slice A n c, .slice B m d] w fun e w' => e = .returned (.bool true) ∧ Below w.heap.size w w' := by
  by_cases hn : 200 < n
  · have d1 : decide ((200 : Int) < n) = true := by simp; omega
    go_enter Try.func12, Try.ntmps12
    go_wp2_with fail
    refine (awake18 w).mono ?_
    rintro e w1 ⟨rfl, hb1⟩
    go_wp2
    go_ret
    exact ⟨rfl, hb1⟩
  · have d1 : decide ((200 : Int) < n) = false := by simp; omega
    have d2 : decide ((200 : Int) < m) = true := by simp; omega
    go_enter Try.func12, Try.ntmps12
    go_wp2_with fail
    refine (awake18 w).mono ?_
    rintro e w1 ⟨rfl, hb1⟩
    go_wp2
    go_ret
    exact ⟨rfl, hb1⟩
theorem sums_law (A B : Option Addr) (n c m d : Nat) (ds : List Dep) (es : List Du) (w : World) (h : SRow w w.heap.size A n 4 (flat Dep.enc ds)) (h' : SRow w w.heap.size B m 3 (flat Du.enc es)) (hw : Wd (ams ds es)) :
    Calls Try.prog 12 #[.slice A n c, .slice B m d] w fun e w' => e = .returned (.bool true) ∧ Below w.heap.size w w' := by
  by_cases hb : 200 < n ∨ 200 < m
  · exact sums_big A B n c m d w hb
  have hn : n ≤ 200 := by omega
  have hm : m ≤ 200 := by omega
  have d1 : decide ((200 : Int) < n) = false := by simp; omega
  have d2 : decide ((200 : Int) < m) = false := by simp; omega
  obtain ⟨r, hr⟩ : ∃ r : Nat × Int, sumr (ams ds es) r := ⟨_, rfl⟩
  have HR := Lib.hid hr
  have HW := Lib.hid hw
  have hln : (ams ds es).length = n + m := by rw [ams, List.length_append, List.length_map, List.length_map, h.len Dep.len (by omega), h'.len Du.len (by omega)]
  have HSm := Lib.hid (Sm.of (N := sm (ams ds es) (ams ds es).length) (by have := sm_le hw (ams ds es).length; omega))
  clear hb hr hw hln
  go_enter Try.func12, Try.ntmps12
  go_wp2_with fail
  refine (awake18 w).mono ?_
  rintro e w1 ⟨rfl, hb1⟩
  have h1 := h.to hb1
  have h1' := h'.to hb1
  clear h h'
  have HS := Lib.hid (psum_any A B n c m d ds es w1 h1 h1' (by omega) (by omega) HW.out r HR.out)
  go_wp2_with fail
  refine HS.out.mono ?_
  rintro e w2 ⟨rfl, hb2⟩
  have h2 := h1.to hb2
  have h2' := h1'.to hb2
  have bb2 := hb1.trans (hb2.mono hb1.size)
  clear h1 h1' HS hb1 hb2
  go_wp2_with fail
  refine (deps_any A n c ds w2 h2 (by omega)).mono ?_
  rintro e w3 ⟨A3, c3, rfl, hr3, _, hb3⟩
  have h3' := h2'.to hb3
  have bb3 := bb2.trans (hb3.mono bb2.size)
  clear h2 h2' bb2 hb3
  go_wp2_with fail
  refine (dues_any B m d es w3 h3' (by omega)).mono ?_
  rintro e w4 ⟨A4, c4, rfl, hr4, _, hb4⟩
  have hr3' := hr3.to hb4
  have bb4 := bb3.trans (hb4.mono bb3.size)
  clear h3' hr3 bb3 hb4
  have HX := Lib.hid (rsum18 A3 A4 n c3 m c4 ds es w4 hr3' hr4 (by omega) (by omega) HW.out)
  clear hr3' hr4
  go_wp2_with fail
  refine HX.out.mono ?_
  rintro e w5 ⟨v, rfl, hN, hb5⟩
  have bb5 := bb4.trans (hb5.mono bb4.size)
  clear HX hb5 bb4
  go_wp2_with fail
  refine (told_any v _ w5 hN HSm.out r HR.out).mono ?_
  rintro e w6 ⟨rfl, hb6⟩
  have bb6 := bb5.trans (hb6.mono bb5.size)
  go_wp2
  go_ret
  exact ⟨by simp, bb6⟩
end Go.Proofs.Ytdjeedmiicagcaa.PoolW
