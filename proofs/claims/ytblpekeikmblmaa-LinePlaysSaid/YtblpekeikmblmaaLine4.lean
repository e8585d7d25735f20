/- The walks of the line, fourth part: Pop, Drop, two lists compared. Conditions: the line is held rightly and is not too long. -/
import Derived.Test.YtblpekeikmblmaaLine3
namespace Go.Proofs.Ytblpekeikmblmaa.LineW
open Go.RowKit
open Go.Proofs.Ytblpekeikmblmaa.Words

/-- what a cut leaves -/
def Cut (w : World) (p : Nat) (r : Option Nat) (m : Nat) (L R : List Int) (o : Value) (w' : World) : Prop :=
  ∃ v', w'.ownsRow w.heap.size 3 1 o m (L.map iw) ∧ LineAt w' p v' R ∧ Keeps w w' p r ∧ v'.ownBlock = r
set_option maxRecDepth 100000 in
theorem cut0_nil {w : World} {p : Nat} (h : LineAt w p (.slice none 0 0) []) :
    Calls Try.prog 63 #[.pointer (some ⟨p, 0, none⟩), .int .i64 0, .int .i64 0] w fun e w' => ∃ o, e = .returned o ∧ Cut w p none 0 [] [] o w' := by
  obtain ⟨i0, hi0, hz0, hz1, hz2⟩ := info_parts info_int
  have hc := h.cell
  have hf := h.fz
  have hl := Lib.hid h.lt
  clear h
  go_enter Try.func63, Try.ntmps63
  go_wp2_with (at_builtin; refine wpList_append_whole _ rfl _ _ 57 rfl w.heap.size 3 i0 (.int .i64 0) 8 Try.underlying57 hi0 hz0 hz1 hz2 rfl _ _ _ rfl (World.ownsRow_nil _ _ _ _) none 0 0 (fun _ => .int .i64 0) rfl Rd.nil (fun _ => rfl) ?_ ?_ (Nat.le_refl _) ?_)
  · unfold maxLen; omega
  · omega
  intro o w1 hown hg1
  obtain ⟨B, d, rfl⟩ := own_form hown
  have hbp : w1.heap[p]? = w.heap[p]? := hg1.block p hl.out (fun e => by cases e)
  have hc1 : w1.cell? ⟨p, 0, none⟩ = some (.slice none 0 0) := (World.cell?_of_block (a := ⟨p, 0, none⟩) hbp).trans hc
  have hf1 : w1.frozen? ⟨p, 0, none⟩ = false := (World.frozen?_of_block (a := ⟨p, 0, none⟩) hbp).trans hf
  have HO := Lib.hid (show w1.ownsRow w.heap.size 3 1 (.slice B 0 d) 0 (([] : List Int).map iw) by simpa using hown)
  have HG := Lib.hid hg1
  clear hown hg1 hc hf hbp
  go_wp2_with fail
  refine (Try.slices_Delete_int_empty none 0 w1).mono ?_
  rintro e w2 ⟨rfl, rfl⟩
  have hs1 := HG.out.size
  have HS := Lib.hid (show p < w2.heap.size by have := hl.out; omega)
  have hout3 := Lib.hid (ownsRow_setCell_below HO.out (a := ⟨p, 0, none⟩) hl.out (.slice none 0 0))
  have hK := Lib.hid (show Keeps w (w2.setCell ⟨p, 0, none⟩ (.slice none 0 0)) p none from
    ⟨HG.out.os, HG.out.tape, HG.out.output, by simpa [World.setCell] using hs1,
      fun k hk h1 h2 => (Below.heap_setCell w2 ⟨p, 0, none⟩ _ k h1).trans (HG.out.block k hk h2)⟩)
  clear hs1
  go_wp2
  go_ret
  exact ⟨_, rfl, .slice none 0 0, hout3.out, ⟨by simpa [World.setCell] using HS.out, World.cell?_setCell_same _ _ _ hc1, (World.frozen?_setCell _ _ _ _).trans hf1, World.ownsRow_nil _ _ _ _⟩, hK.out, rfl⟩
theorem cut0_any {w : World} {p : Nat} {v : Value} {zs : List Int} (m : Nat) (h : LineAt w p v zs) (hm : m ≤ zs.length) (hn : zs.length ≤ 100000) :
    Calls Try.prog 63 #[.pointer (some ⟨p, 0, none⟩), .int .i64 0, .int .i64 m] w fun e w' => ∃ o, e = .returned o ∧ Cut w p v.ownBlock m (zs.take m) (zs.drop m) o w' := by
  rcases h.own.2 with ⟨rfl, h0⟩ | ⟨g, c, cur, rfl, _⟩
  · obtain rfl : zs = [] := List.eq_nil_of_length_eq_zero h0
    obtain rfl : m = 0 := by simpa using hm
    exact cut0_nil h
  · refine (cut0_row m h hm hn).mono ?_
    rintro e w' ⟨o, v', rfl, h1, h2, h3, h4⟩
    exact ⟨o, rfl, v', h1, h2, h3, h4⟩
theorem Cut.of {w w1 w' : World} {p m : Nat} {r : Option Nat} {L R : List Int} {o : Value} (h : Cut w1 p r m L R o w') (hh : w1.heap = w.heap) (h1 : w1.os = w.os) (h2 : w1.tape = w.tape) (h3 : w1.output = w.output) : Cut w p r m L R o w' := by
  obtain ⟨v', a, b, k, e⟩ := h
  exact ⟨v', hh ▸ a, b, ⟨k.os.trans h1, k.tape.trans h2, k.output.trans h3, hh ▸ k.size, fun i hi x y => (k.block i (hh ▸ hi) x y).trans (by rw [hh])⟩, e⟩

set_option maxRecDepth 100000 in
theorem pop_any {w : World} {p : Nat} {v : Value} {zs : List Int} (most : Int) (m : Nat) (hm : max 0 (min most zs.length) = (m : Int)) (h : LineAt w p v zs) (hn : zs.length ≤ 100000) :
    Calls Try.prog 48 #[.pointer (some ⟨p, 0, none⟩), .int .i64 most] w fun e w' => ∃ o, e = .returned o ∧ Cut w p v.ownBlock m (zs.take m) (zs.drop m) o w' := by
  have hmz : m ≤ zs.length := by omega
  have HC := Lib.hid (fun (W : World) (hW : LineAt W p v zs) => cut0_any m hW hmz hn)
  have HL := Lib.hid h
  have hc := h.cell
  obtain ⟨A, c, hv, _⟩ := h.form
  have HM := Lib.hid hm
  clear h hm
  generalize hN : zs.length = n at *
  subst hv
  go_enter Try.func48, Try.ntmps48
  go_wp2
  go_region_with (go_at_call 63; rw [HM.out]; refine Calls.mono (HC.out w.drew ⟨HL.out.1, HL.out.2, HL.out.3, HL.out.4⟩) ?_; rintro e w' ⟨o, rfl, hcut⟩)
  all_goals
    have hcut' := Lib.hid (hcut.of (w := w) rfl rfl rfl rfl)
    obtain ⟨B, d, rfl⟩ := own_form (Exists.choose_spec hcut'.out).1
    go_wp2
    go_ret
    exact ⟨_, rfl, hcut'.out⟩
/-- whom the line lets go, at his place -/
theorem drop_yes {w : World} {p : Nat} {v : Value} {zs : List Int} (x : Int) (i : Nat) (hi : Lib.idxOf zs x = i) (hz : zs[i]? = some x) (h : LineAt w p v zs) (hn : zs.length ≤ 100000) :
    Calls Try.prog 51 #[.pointer (some ⟨p, 0, none⟩), .int .i64 x] w fun e w' => e = .returned (.bool true) ∧ ∃ v', LineAt w' p v' (zs.take i ++ zs.drop (i + 1)) ∧ Keeps w w' p v.ownBlock ∧ v'.ownBlock = v.ownBlock := by
  have hil : i < zs.length := by
    by_cases e : i < zs.length
    · exact e
    · rw [List.getElem?_eq_none (by omega)] at hz; cases hz
  have hP := place_any x h hn
  rw [hi, show max (i : Int) 0 = i by omega, show decide (0 ≤ (i : Int)) = true by simp] at hP
  have HP := Lib.hid hP
  clear hP hi
  rcases h.own.2 with ⟨rfl, h0⟩ | ⟨g, c, cur, rfl, _⟩
  · omega
  have HC := Lib.hid (cut1_row i x h hil hz hn)
  clear h hz
  go_enter Try.func51, Try.ntmps51
  go_wp2_with fail
  refine HP.out.mono ?_
  rintro e w' ⟨rfl, rfl⟩
  go_wp2_with fail
  refine HC.out.mono ?_
  rintro e w' ⟨o, v', rfl, ho, hL, hK, hV⟩
  obtain ⟨B, d, rfl⟩ := own_form ho
  go_wp2
  go_ret
  exact ⟨rfl, v', hL, hK, hV⟩
theorem same_ints (A B : Option Addr) (n c d L : Nat) (f : Nat → Int) (w : World) (hA : Rd w L A n (fun j => .int .i64 (f j))) (hB : Rd w L B n (fun j => .int .i64 (f j))) (hn : n ≤ 1000000) :
    Calls Try.prog 47 #[.slice A n c, .slice B n d] w fun e w' => e = .returned (.bool true) ∧ ∃ q, w' = w.drewN q := by
  go_enter Try.func47, Try.ntmps47
  go_wp2
  go_loopw [5] (fun v wr => ∃ (k q : Nat), v = .int .i64 k ∧ k ≤ n ∧ wr = w.drewN q) (fun v _ => n - (intOf v).toNat)
  case atStart => exact ⟨0, 0, rfl, Nat.zero_le _, rfl⟩
  case round =>
    obtain ⟨k, q, rfl, hk, rfl⟩ := hrel
    by_cases hlt : k < n
    · have d1 : decide (k < n) = true := by simpa using hlt
      obtain ⟨a, rfl, _, ha⟩ := hA k hlt
      obtain ⟨b, rfl, _, hb⟩ := hB k hlt
      have ha' : w.cell? (a.add k) = some (.int .i64 (f k)) := ha
      have hb' : w.cell? (b.add k) = some (.int .i64 (f k)) := hb
      clear hA hB ha hb
      generalize f k = x at *
      go_wp2
      go_quiet (fail)
      go_wp2
      exact ⟨⟨k + 1, _, by go_num, by omega, rfl⟩, by simp [intOf]; omega⟩
    · have d1 : decide (k < n) = false := by simpa using hlt
      go_wp2
      go_ret
      exact ⟨rfl, q, rfl⟩
end Go.Proofs.Ytblpekeikmblmaa.LineW
