/- The walks of the line, fourteenth part: the document's Push, Drop, Wrong. Conditions: rows are read rightly and are not too long. -/
import Derived.Test.YtblpekeikmblmaaLine13
namespace Go.Proofs.Ytblpekeikmblmaa.LineW
open Go.RowKit
open Go.Proofs.Ytblpekeikmblmaa.Words

/-- a row made at or behind block b reads as zs -/
def Row (w : World) (b : Nat) (A : Option Addr) (zs : List Int) : Prop :=
  Rd w w.heap.size A zs.length (fun j => .int .i64 (zs.getD j 0)) ∧ ∀ ad, A = some ad → b ≤ ad.block
theorem Row.of {w : World} {b n : Nat} {v : Value} {zs : List Int} (h : w.ownsRow b 3 1 v n (zs.map iw)) (hl : zs.length = n) : ∃ A c, v = .slice A n c ∧ Row w b A zs := by
  subst hl
  obtain ⟨A, c, hv, _, _, hlo, hr⟩ := Rd.own h (fun j hj => zs_at hj)
  exact ⟨A, c, hv, hr, hlo⟩
theorem Row.to {w w' : World} {b : Nat} {A : Option Addr} {zs : List Int} (h : Row w b A zs) (hb : Below w.heap.size w w') : Row w' b A zs := ⟨h.1.to hb, h.2⟩

theorem rpush_neg (A : Option Addr) (n c : Nat) (x : Int) (hx : x < 0) (w : World) :
    Calls Try.prog 44 #[.slice A n c, .int .i64 x] w fun e w' => e = .returned (.tuple #[.slice A n c, .int .i64 2]) ∧ w = w' := by
  have d1 : decide (x < 0) = true := by simp; omega
  go_enter Try.func44, Try.ntmps44
  go_wp2
  go_ret2
  exact ⟨rfl, rfl⟩
theorem rpush_there (A : Option Addr) (n c L : Nat) (x : Int) (zs : List Int) (w : World) (hl : zs.length = n) (hr : Rd w L A n (fun j => .int .i64 (zs.getD j 0))) (hn : n ≤ 1000000) (hx : 0 ≤ x) (hi : 0 ≤ Lib.idxOf zs x) :
    Calls Try.prog 44 #[.slice A n c, .int .i64 x] w fun e w' => e = .returned (.tuple #[.slice A n c, .int .i64 231]) ∧ w = w' := by
  have d1 : decide (x < 0) = false := by simp; omega
  have d2 : decide (0 ≤ Lib.idxOf zs x) = true := by simp; omega
  have HF := Lib.hid (rfind_any A n c L x zs w hl hr hn)
  clear hr hl hi hn
  generalize Lib.idxOf zs x = i at HF d2
  go_enter Try.func44, Try.ntmps44
  go_wp2_with fail
  refine HF.out.mono ?_
  rintro e w' ⟨rfl, rfl⟩
  go_wp2
  go_ret2
  exact ⟨rfl, rfl⟩
theorem rpush_full (A : Option Addr) (n c L : Nat) (x : Int) (zs : List Int) (w : World) (hl : zs.length = n) (hr : Rd w L A n (fun j => .int .i64 (zs.getD j 0))) (hn : n ≤ 1000000) (hx : 0 ≤ x) (hi : Lib.idxOf zs x < 0) (hf : 256 ≤ n) :
    Calls Try.prog 44 #[.slice A n c, .int .i64 x] w fun e w' => e = .returned (.tuple #[.slice A n c, .int .i64 161]) ∧ w = w' := by
  have d1 : decide (x < 0) = false := by simp; omega
  have d2 : decide (0 ≤ Lib.idxOf zs x) = false := by simp; omega
  have d3 : decide ((256 : Int) ≤ n) = true := by simp; omega
  have HF := Lib.hid (rfind_any A n c L x zs w hl hr hn)
  clear hr hl hi hn
  generalize Lib.idxOf zs x = i at HF d2
  go_enter Try.func44, Try.ntmps44
  go_wp2_with fail
  refine HF.out.mono ?_
  rintro e w' ⟨rfl, rfl⟩
  go_wp2
  go_ret2
  exact ⟨rfl, rfl⟩
theorem rpush_ok (A : Option Addr) (n c : Nat) (x : Int) (zs : List Int) (w : World) (hl : zs.length = n) (hr : Rd w w.heap.size A n (fun j => .int .i64 (zs.getD j 0))) (hx : 0 ≤ x) (hi : Lib.idxOf zs x < 0) (hf : n < 256) :
    Calls Try.prog 44 #[.slice A n c, .int .i64 x] w fun e w' => ∃ B d, e = .returned (.tuple #[.slice B (n + 1) d, .int .i64 0]) ∧ Row w' w.heap.size B (zs ++ [x]) ∧ Below w.heap.size w w' := by
  obtain ⟨i0, hi0, hz0, hz1, hz2⟩ := info_parts info_int
  have d1 : decide (x < 0) = false := by simp; omega
  have d2 : decide (0 ≤ Lib.idxOf zs x) = false := by simp; omega
  have d3 : decide ((256 : Int) ≤ n) = false := by simp; omega
  have HF := Lib.hid (rfind_any A n c _ x zs w hl hr (by omega))
  have hx : (List.range n).map (fun j => Value.int .i64 (zs[j]?.getD 0)) = zs.map iw := by
    apply List.ext_getElem (by simp; omega)
    intro j h1 h2
    simp at h1
    simp [iw, List.getElem?_eq_getElem (show j < zs.length by omega)]
  have HX := Lib.hid hx
  have HL := Lib.hid hl
  clear hl hi hx
  generalize Lib.idxOf zs x = i at HF d2
  go_enter Try.func44, Try.ntmps44
  go_wp2_with fail
  refine HF.out.mono ?_
  rintro e w' ⟨rfl, rfl⟩
  go_wp2_with (at_builtin; refine wpList_append_whole _ rfl _ _ 57 rfl w.heap.size 3 i0 (.int .i64 0) 8 Try.underlying57 hi0 hz0 hz1 hz2 rfl _ _ _ rfl (World.ownsRow_nil _ _ _ _) A n c _ rfl hr (fun _ => rfl) ?_ ?_ (Nat.le_refl _) ?_)
  · unfold maxLen; omega
  · omega
  intro o w1 hown hg1
  have hown0 := hown
  clear hown
  have hown : w1.ownsRow w.heap.size 3 1 o n (zs.map iw) := by rw [← HX.out]; simpa using hown0
  have hb : Below w.heap.size w w1 := (Below.refl _ _).grown hg1 (Nat.le_refl _) (fun _ h => by cases h)
  have hs1 := hb.size
  clear hown0 hg1 hr HF
  go_wp2_with (at_builtin; refine wpList_append_own _ rfl _ _ 57 rfl w.heap.size 3 i0 (.int .i64 0) 1 8 Try.underlying57 hi0 hz0 hz1 hz2 rfl (by decide) _ _ _ rfl (hown.alloc _) ⟨w1.heap.size, 0, none⟩ 1 1 [.int .i64 x] rfl rfl (cell_one_new _ _ _) ?_ ?_ ?_ ?_ ?_)
  · intro u hu; simp at hu; subst hu; rfl
  · unfold maxLen; omega
  · omega
  · simp; omega
  intro v' w2 hown' hgrow _
  have hb2 := Lib.hid (app_below hb hown hgrow)
  have hR := Row.of (zs := zs ++ [x]) (n := n + 1) (by rw [List.map_append]; exact hown') (by rw [List.length_append, HL.out]; rfl)
  clear hgrow hown' hown hb hs1
  obtain ⟨B, d, rfl, hR⟩ := hR
  have HR := Lib.hid hR
  clear hR
  go_wp2
  go_ret2
  exact ⟨B, d, rfl, HR.out, hb2.out⟩
theorem rdrop_any (A : Option Addr) (n c : Nat) (x : Int) (zs : List Int) (w : World) (hl : zs.length = n) (hr : Rd w w.heap.size A n (fun j => .int .i64 (zs.getD j 0))) (hn : n ≤ 100000) :
    Calls Try.prog 50 #[.slice A n c, .int .i64 x] w fun e w' => ∃ B d, e = .returned (.slice B (flt zs x).length d) ∧ Row w' w.heap.size B (flt zs x) ∧ Below w.heap.size w w' := by
  obtain ⟨i0, hi0, hz0, hz1, hz2⟩ := info_parts info_int
  have HL := Lib.hid hl
  clear hl
  go_enter Try.func50, Try.ntmps50
  go_wp2
  go_loopw [5, 6] (fun sv kv wr => ∃ k : Nat, kv = .int .i64 k ∧ k ≤ n ∧ wr.ownsRow w.heap.size 3 1 sv (flt (zs.take k) x).length ((flt (zs.take k) x).map iw) ∧ Below w.heap.size w wr) (fun _ kv _ => n - (intOf kv).toNat)
  case atStart => exact ⟨0, rfl, Nat.zero_le _, World.ownsRow_nil _ _ _ _, Below.refl _ _⟩
  case round =>
    obtain ⟨k, rfl, hk, hown, hbr⟩ := hrel
    by_cases hlt : k < n
    · have e1 : decide (k < n) = true := by simpa using hlt
      obtain ⟨ad, rfl, _, hc⟩ := (hr.below hbr) k hlt
      have hc' := hc
      simp only at hc'
      have HT := Lib.hid (flt_take (zs := zs) (x := x) (k := k) (by rw [HL.out]; exact hlt))
      have hfl : (flt (zs.take k) x).length ≤ 100000 := Nat.le_trans (List.length_filter_le _ _) (by simp; omega)
      have hs5 := hbr.size
      clear hc
      generalize zs.getD k 0 = y at hc' HT
      generalize flt (zs.take k) x = L at HT hown hfl
      by_cases hy : y = x
      · have HT' := HT.out
        rw [if_pos hy, List.append_nil] at HT'
        have HT2 := Lib.hid HT'
        have e2 : (y != x) = false := by simp [hy]
        clear HT HT' hy
        go_wp2
        exact ⟨⟨k + 1, by go_num, by omega, by rw [HT2.out]; exact hown, hbr⟩, by simp [intOf]; omega⟩
      · have HT' := HT.out
        rw [if_neg hy] at HT'
        have HT2 := Lib.hid HT'
        have e2 : (y != x) = true := by simp [hy]
        clear HT HT' hy
        go_wp2_with (at_builtin; refine wpList_append_own _ rfl _ _ 57 rfl w.heap.size 3 i0 (.int .i64 0) 1 8 Try.underlying57 hi0 hz0 hz1 hz2 rfl (by decide) _ _ _ rfl (hown.alloc _) ⟨wr.heap.size, 0, none⟩ 1 1 [.int .i64 y] rfl rfl (cell_one_new _ _ _) ?_ ?_ ?_ ?_ ?_)
        · intro u hu; simp at hu; subst hu; rfl
        · unfold maxLen; omega
        · omega
        · simp; omega
        intro v' w7 hown' hgrow _
        have hb7 := app_below hbr hown hgrow
        clear hgrow hown hbr
        go_wp2
        exact ⟨⟨k + 1, by go_num, by omega, by rw [HT2.out, List.length_append, List.map_append]; exact hown', hb7⟩, by simp [intOf]; omega⟩
    · have e1 : decide (k < n) = false := by simpa using hlt
      obtain rfl : k = n := by omega
      rw [List.take_of_length_le (by rw [HL.out]; exact Nat.le_refl _)] at hown
      obtain ⟨B, d, rfl, hR⟩ := Row.of hown rfl
      have HR := Lib.hid hR
      clear hR hown
      go_wp2
      go_ret
      exact ⟨B, d, rfl, HR.out, hbr⟩
end Go.Proofs.Ytblpekeikmblmaa.LineW
