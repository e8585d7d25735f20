/- The walks of the pool, tenth part: two lists compared, PoolAdds. Conditions: rows are read rightly. Printed by gen_pool10.py. -/
import Derived.Test.YtdjeedmiicagcaaPool9
namespace Go.Proofs.Ytdjeedmiicagcaa.PoolW
open Go.RowKit
open Go.Proofs.Ytdjeedmiicagcaa.Words Go.Proofs.Ytdjeedmiicagcaa.NatW Go.Proofs.Ytdjeedmiicagcaa.PurseW

set_option maxHeartbeats 1000000 in
theorem same_dep (A B : Option Addr) (n c e L : Nat) (ds : List Dep) (w : World) (h : SRow w L A n 4 (flat Dep.enc ds)) (h' : SRow w L B n 4 (flat Dep.enc ds)) (hn : n ≤ 1000) :
    Calls Try.prog 50 #[.slice A n c, .slice B n e] w fun e w' => e = .returned (.bool true) ∧ ∃ q, w' = w.drewN q := by
  have HL := Lib.hid (h.len Dep.len (by omega))
  have H1 := Lib.hid h
  have H2 := Lib.hid h'
  clear h h'
  go_enter Try.func50, Try.ntmps50
  go_wp2
  go_loopw [5] (fun v wr => ∃ k : Nat, v = .int .i64 k ∧ k ≤ n ∧ ∃ q, wr = w.drewN q) (fun v _ => n - (intOf v).toNat)
  case atStart => exact ⟨0, rfl, Nat.zero_le _, 0, rfl⟩
  case round =>
    obtain ⟨k, rfl, hk, hQ⟩ := hrel
    have hr1 : SRow wr L A n 4 (flat Dep.enc ds) := by obtain ⟨q, rfl⟩ := hQ; exact H1.out
    have hr2 : SRow wr L B n 4 (flat Dep.enc ds) := by obtain ⟨q, rfl⟩ := hQ; exact H2.out
    have HQ := Lib.hid hQ
    clear hQ
    by_cases hlt : k < n
    · have e1 : decide (k < n) = true := by simpa using hlt
      obtain ⟨d, hd⟩ : ∃ d, ds[k]? = some d := ⟨_, List.getElem?_eq_getElem (by rw [HL.out]; exact hlt)⟩
      obtain ⟨ad, rfl, _, hcs⟩ := hr1.cell Dep.len hlt hd (by omega)
      obtain ⟨bd, rfl, _, hcs'⟩ := hr2.cell Dep.len hlt hd (by omega)
      have a0 : wr.cell? (ad.add (k * 4)) = some (.int .i64 d.ac) := by have := hcs 0 _ rfl; rwa [Words.add_zero] at this
      have a1 : wr.cell? ⟨(ad.add (k * 4)).block, (ad.add (k * 4)).off + 1, none⟩ = some (.int .i64 d.me) := hcs 1 _ rfl
      have a2 : wr.cell? ⟨(ad.add (k * 4)).block, (ad.add (k * 4)).off + 2, none⟩ = some (.int .u64 d.am) := hcs 2 _ rfl
      have a3 : wr.cell? ⟨(ad.add (k * 4)).block, (ad.add (k * 4)).off + 3, none⟩ = some (.bool d.nw) := hcs 3 _ rfl
      have b0 : wr.cell? (bd.add (k * 4)) = some (.int .i64 d.ac) := by have := hcs' 0 _ rfl; rwa [Words.add_zero] at this
      have b1 : wr.cell? ⟨(bd.add (k * 4)).block, (bd.add (k * 4)).off + 1, none⟩ = some (.int .i64 d.me) := hcs' 1 _ rfl
      have b2 : wr.cell? ⟨(bd.add (k * 4)).block, (bd.add (k * 4)).off + 2, none⟩ = some (.int .u64 d.am) := hcs' 2 _ rfl
      have b3 : wr.cell? ⟨(bd.add (k * 4)).block, (bd.add (k * 4)).off + 3, none⟩ = some (.bool d.nw) := hcs' 3 _ rfl
      clear hcs hcs' hd hr1 hr2
      go_wp2
      go_quiet (fail)
      go_wp2
      exact ⟨⟨k + 1, by go_num, by omega, by obtain ⟨q, hq⟩ := HQ.out; exact ⟨_, by rw [hq, World.drewN_drewN]⟩⟩, by simp [intOf]; omega⟩
    · have e1 : decide (k < n) = false := by simpa using hlt
      clear hr1 hr2
      go_wp2
      go_ret
      exact ⟨rfl, HQ.out⟩
theorem own_hA {w : World} {b s n c : Nat} {e : TypeId} {A : Option Addr} {xs : List Value} (h : w.ownsRow b e s (.slice A n c) n xs) : A = none → n = 0 ∧ c = 0 := by
  intro hA
  rcases h.2 with ⟨hv, _⟩ | ⟨g, cap, cur, hv, _⟩
  · injection hv with _ h1 h2
    exact ⟨h1, h2⟩
  · injection hv with h1
    rw [hA] at h1; cases h1
/-- one of the two: what it hands back -/
def AddsPost (W : World) (m : Nat) (es : List Dep) (z : Int) (e : Ending) (w' : World) : Prop := ∃ A c, e = .returned (.tuple #[.slice A m c, .int .i64 z]) ∧ SRow w' w'.heap.size A m 4 (flat Dep.enc es) ∧ Below W.heap.size W w'
theorem AddsPost.err {W : World} {z : Int} {e : Ending} {w' : World} (h : e = .returned (.tuple #[.slice none 0 0, .int .i64 z]) ∧ Below W.heap.size W w') : AddsPost W 0 [] z e w' := ⟨none, 0, h.1, SRow.nil _ _ _ _, h.2⟩
theorem AddsPost.ok {W : World} {t : TypeId} {es : List Dep} {e : Ending} {w' : World} (h : AddOk W t es e w') : AddsPost W es.length es 0 e w' := by
  obtain ⟨v, h1, h2, h3⟩ := h
  obtain ⟨A, c, rfl, _, _, _, hr⟩ := SRow.own h2
  exact ⟨A, c, h1, hr, h3⟩
set_option maxHeartbeats 4000000 in
set_option maxRecDepth 100000 in
theorem adds_core (A : Option Addr) (n c m : Nat) (z : Int) (ds es : List Dep) (d : Dep) (w : World) (hR : SRow w w.heap.size A n 4 (flat Dep.enc ds)) (hn : n ≤ 400) (hm : m ≤ 1000)
    (hadd : ∀ (W : World) (A' : Option Addr) (c' : Nat), SRow W W.heap.size A' n 4 (flat Dep.enc ds) → (A' = none → n = 0 ∧ c' = 0) → Calls Try.prog 47 #[.slice A' n c', .agg #[.int .i64 d.ac, .int .i64 d.me, .int .u64 d.am, .bool d.nw]] W (AddsPost W m es z))
    (hradd : ∀ (W : World) (A' : Option Addr) (c' : Nat), SRow W W.heap.size A' n 4 (flat Dep.enc ds) → Calls Try.prog 48 #[.slice A' n c', .agg #[.int .i64 d.ac, .int .i64 d.me, .int .u64 d.am, .bool d.nw]] W (AddsPost W m es z)) :
    Calls Try.prog 11 #[.slice A n c, .agg #[.int .i64 d.ac, .int .i64 d.me, .int .u64 d.am, .bool d.nw]] w fun e w' => e = .returned (.bool true) ∧ Below w.heap.size w w' := by
  obtain ⟨i0, hi0, hz0, hz1, hz2⟩ := info_parts info_dep
  have d1 : decide ((400 : Int) < n) = false := by simp; omega
  have HA := Lib.hid hadd
  have HRA := Lib.hid hradd
  clear hadd hradd
  obtain ⟨W0, hW0⟩ : ∃ W0, w.alloc (.cells #[.int .i64 d.ac, .int .i64 d.me, .int .u64 d.am, .bool d.nw] 80) = W0 := ⟨_, rfl⟩
  have hbW : Below w.heap.size w W0 := by rw [← hW0]; exact (Below.refl _ _).alloc (Nat.le_refl _) _
  have hsz : w.heap.size < W0.heap.size := by rw [← hW0]; simp
  have q0 : W0.cell? ⟨w.heap.size, 0, none⟩ = some (.int .i64 d.ac) := by rw [← hW0, World.cell?_alloc_at _ _ _ _ rfl]; rfl
  have q1 : W0.cell? ⟨w.heap.size, 1, none⟩ = some (.int .i64 d.me) := by rw [← hW0, World.cell?_alloc_at _ _ _ _ rfl]; rfl
  have q2 : W0.cell? ⟨w.heap.size, 2, none⟩ = some (.int .u64 d.am) := by rw [← hW0, World.cell?_alloc_at _ _ _ _ rfl]; rfl
  have q3 : W0.cell? ⟨w.heap.size, 3, none⟩ = some (.bool d.nw) := by rw [← hW0, World.cell?_alloc_at _ _ _ _ rfl]; rfl
  have hR0 := hR.to hbW
  have HW0 := Lib.hid hW0
  clear hR hW0
  go_enter Try.func11, Try.ntmps11
  go_wp2_with fail
  rw [HW0.out]
  refine (awake18 W0).mono ?_
  rintro e w1 ⟨rfl, hb1⟩
  have hR1 := hR0.to hb1
  have hR1e := hR1.to (show Below w1.heap.size w1 (w1.alloc (.cells #[] 80)) from (Below.refl _ _).alloc (Nat.le_refl _) _)
  have hs1 := hb1.size
  clear hR0
  go_wp2_with (at_builtin; refine wpList_append_rows _ rfl _ _ 57 rfl w1.heap.size 80 i0 (.agg #[.int .i64 0, .int .i64 0, .int .u64 0, .bool false]) 4 32 Try.underlying57 hi0 hz0 hz1 hz2 rfl (by decide) _ _ _ rfl (own_empty w1 80 w1.heap.size 4 (Nat.le_refl _)) A n c _ rfl hR1e (Dep.one ds) ?_ ?_ (by simp) ?_)
  · unfold maxLen; omega
  · omega
  intro v2 w2 hown2 hg2
  have ho2 : w2.ownsRow w1.heap.size 80 4 v2 n (flat Dep.enc ds) := by simpa using hown2
  have hb2 : Below w1.heap.size w1 w2 := ((Below.refl _ _).alloc (Nat.le_refl _) (.cells #[] 80)).grown hg2 (by simp) (fun k hk => by cases hk; exact Nat.le_refl _)
  obtain ⟨A2, c2, rfl, _, _, _, hG2⟩ := SRow.own ho2
  have hA2 := own_hA ho2
  have bb2 := hb1.trans (hb2.mono hs1)
  have hR2 := hR1.to hb2
  have k0 := bcell bb2 hsz q0
  have k1 := bcell bb2 hsz q1
  have k2 := bcell bb2 hsz q2
  have k3 := bcell bb2 hsz q3
  clear hown2 hg2 hR1 hR1e ho2 hb1 hb2 hs1
  go_wp2_with fail
  refine (HA.out w2 A2 c2 hG2 hA2).mono ?_
  rintro e w3 ⟨A3, c3, rfl, hL3, hb3⟩
  have bb3 := bb2.trans (hb3.mono bb2.size)
  have hG3 := hG2.to hb3
  have hR3 := hR2.to hb3
  have hs3 : w.heap.size < w3.heap.size := Nat.lt_of_lt_of_le hsz bb3.size
  have j0 := bcell bb3 hsz q0
  have j1 := bcell bb3 hsz q1
  have j2 := bcell bb3 hsz q2
  have j3 := bcell bb3 hsz q3
  have HR3 := Lib.hid hR3
  have HG3 := Lib.hid hG3
  have HL3 := Lib.hid hL3
  have HB3 := Lib.hid (hbW.trans (bb3.mono hbW.size))
  clear k0 k1 k2 k3 hG2 hR2 hA2 bb2 hb3 bb3 q0 q1 q2 q3 hR3 hG3 hL3
  go_wp2
  go_region_with (first
    | (go_at_call 49; refine (deps_any A n c ds w3.drew HR3.out (by omega)).mono ?_; rintro e w4 ⟨A4, c4, rfl, hD4, _, hb4⟩; have hb4' : Below w3.heap.size w3 w4 := ⟨hb4.1, hb4.2, hb4.3, hb4.4, hb4.5⟩; have l0 := bcell hb4' hs3 j0; have l1 := bcell hb4' hs3 j1; have l2 := bcell hb4' hs3 j2; have l3 := bcell hb4' hs3 j3; clear hb4)
    | (go_at_call 48; refine (HRA.out w4 A4 c4 hD4).mono ?_; rintro e w5 ⟨A5, c5, rfl, hW5, hb5⟩))
  all_goals
    have hb35 : Below w3.heap.size w3 w5 := hb4'.trans (hb5.mono hb4'.size)
    have HB5 := Lib.hid (HB3.out.trans (hb35.mono HB3.out.size))
    have HL5 := Lib.hid (HL3.out.to hb35)
    have HG5 := Lib.hid (HG3.out.to hb35)
    have HR5 := Lib.hid (HR3.out.to hb35)
    have HW5 := Lib.hid hW5
    clear l0 l1 l2 l3 hD4 hb4' hb5 hW5 hb35 j0 j1 j2 j3
    go_wp2_with fail
    refine (deps_any A3 m c3 es w5 HL5.out (by omega)).mono ?_
    rintro e w6 ⟨A6, c6, rfl, hD6, _, hb6⟩
    have HG6 := Lib.hid (HG5.out.to hb6)
    have HR6 := Lib.hid (HR5.out.to hb6)
    have HB6 := Lib.hid (HB5.out.trans (hb6.mono HB5.out.size))
    have HS6 := Lib.hid (same_dep A6 A5 m c6 c5 _ es w6 hD6 (HW5.out.to hb6) (by omega))
    clear hb6 hD6
    go_wp2_with fail
    refine HS6.out.mono ?_
    rintro e w7 ⟨rfl, q7, rfl⟩
    have HG7 := Lib.hid (show SRow (w6.drewN q7) (w6.drewN q7).heap.size A2 n 4 (flat Dep.enc ds) from HG6.out)
    have HR7 := Lib.hid (show SRow (w6.drewN q7) (w6.drewN q7).heap.size A n 4 (flat Dep.enc ds) from HR6.out)
    have HB7 := Lib.hid (below_drewN HB6.out q7)
    clear HS6
    generalize w6.drewN q7 = w7 at HG7 HR7 HB7 ⊢
    go_wp2_with fail
    refine (deps_any A2 n c2 ds w7 HG7.out (by omega)).mono ?_
    rintro e w8 ⟨A8, c8, rfl, hD8, _, hb8⟩
    have HR8 := Lib.hid (HR7.out.to hb8)
    have HB8 := Lib.hid (HB7.out.trans (hb8.mono HB7.out.size))
    go_wp2_with fail
    refine (deps_any A n c ds w8 HR8.out (by omega)).mono ?_
    rintro e w9 ⟨A9, c9, rfl, hD9, _, hb9⟩
    have HS9 := Lib.hid (same_dep A8 A9 n c8 c9 _ ds w9 (hD8.to hb9) hD9 (by omega))
    have HB9 := Lib.hid (HB8.out.trans (hb9.mono HB8.out.size))
    clear hb8 hb9 hD8 hD9
    go_wp2_with fail
    refine HS9.out.mono ?_
    rintro e w10 ⟨rfl, q10, rfl⟩
    have hbf := below_drewN HB9.out q10
    go_wp2
    go_ret
    exact ⟨by simp, hbf⟩
theorem adds_big (A : Option Addr) (n c : Nat) (d : Dep) (w : World) (hn : 400 < n) :
    Calls Try.prog 11 #[.slice A n c, .agg #[.int .i64 d.ac, .int .i64 d.me, .int .u64 d.am, .bool d.nw]] w fun e w' => e = .returned (.bool true) ∧ Below w.heap.size w w' := by
  have d1 : decide ((400 : Int) < n) = true := by simp; omega
  go_enter Try.func11, Try.ntmps11
  go_wp2_with fail
  refine (awake18 _).mono ?_
  rintro e w1 ⟨rfl, hb1⟩
  have hb : Below w.heap.size w (w.alloc (.cells #[.int .i64 d.ac, .int .i64 d.me, .int .u64 d.am, .bool d.nw] 80)) := (Below.refl _ _).alloc (Nat.le_refl _) _
  have hbb := hb.trans (hb1.mono hb.size)
  go_wp2
  go_ret
  exact ⟨rfl, hbb⟩
theorem adds_law (A : Option Addr) (n c : Nat) (ds : List Dep) (d : Dep) (w : World) (hR : SRow w w.heap.size A n 4 (flat Dep.enc ds)) :
    Calls Try.prog 11 #[.slice A n c, .agg #[.int .i64 d.ac, .int .i64 d.me, .int .u64 d.am, .bool d.nw]] w fun e w' => e = .returned (.bool true) ∧ Below w.heap.size w w' := by
  by_cases hn : 400 < n
  · exact adds_big A n c d w hn
  by_cases h1 : DepArg d
  · by_cases h2 : DepAm d
    · by_cases h3 : 256 ≤ n
      · exact adds_core A n c 0 161 ds [] d w hR (by omega) (by omega) (fun W A' c' _ _ => (add_full A' n c' d W h1 h2 h3).mono fun _ _ h => AddsPost.err h) (fun W A' c' _ => (radd_full A' n c' d W h1 h2 h3).mono fun _ _ h => AddsPost.err h)
      · exact adds_core A n c (ds ++ [d]).length 0 ds (ds ++ [d]) d w hR (by omega) (by rw [List.length_append, hR.len Dep.len (by omega)]; simp; omega)
          (fun W A' c' hr hA => (add_ok A' n c' ds d W hr hA h1 h2 (by omega)).mono fun _ _ h => AddsPost.ok h) (fun W A' c' hr => (radd_ok A' n c' ds d W hr h1 h2 (by omega)).mono fun _ _ h => AddsPost.ok h)
    · exact adds_core A n c 0 2 ds [] d w hR (by omega) (by omega) (fun W A' c' _ _ => (add_am A' n c' d W h1 h2).mono fun _ _ h => AddsPost.err h) (fun W A' c' _ => (radd_arg A' n c' d W (fun h => h2 h.2)).mono fun _ _ h => AddsPost.err h)
  · exact adds_core A n c 0 2 ds [] d w hR (by omega) (by omega) (fun W A' c' _ _ => (add_arg A' n c' d W h1).mono fun _ _ h => AddsPost.err h) (fun W A' c' _ => (radd_arg A' n c' d W (fun h => h1 h.1)).mono fun _ _ h => AddsPost.err h)
end Go.Proofs.Ytdjeedmiicagcaa.PoolW
