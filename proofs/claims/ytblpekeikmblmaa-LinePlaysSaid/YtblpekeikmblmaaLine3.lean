/- The walks of the line, third part: cut, Pop, Drop. Conditions: the line is held rightly and is not too long. Printed by gen_line3.py. -/
import Derived.Test.YtblpekeikmblmaaLine2
import Derived.Deep.RegionWith
namespace Go.Proofs.Ytblpekeikmblmaa.LineW
open Go.RowKit
open Go.Proofs.Ytblpekeikmblmaa.Words

set_option maxRecDepth 100000 in
theorem cut0_row {w : World} {p g c : Nat} {zs : List Int} (m : Nat) (h : LineAt w p (.slice (some ⟨g, 0, none⟩) zs.length c) zs) (hm : m ≤ zs.length) (hn : zs.length ≤ 100000) :
    Calls Try.prog 63 #[.pointer (some ⟨p, 0, none⟩), .int .i64 0, .int .i64 m] w fun e w' => ∃ o v', e = .returned o ∧ w'.ownsRow w.heap.size 3 1 o m ((zs.take m).map iw) ∧ LineAt w' p v' (zs.drop m) ∧ Keeps w w' p (some g) ∧ v'.ownBlock = some g := by
  obtain ⟨i0, hi0, hz0, hz1, hz2⟩ := info_parts info_int
  obtain ⟨A, c', hv, hnc, hcm, hr⟩ := h.form
  cases hv
  have hc := h.cell
  have hf := h.fz
  have hl := h.lt
  have ho := h.own
  have d1 : decide (m ≤ c) = true := by simp; omega
  have hrm := hr.take hm
  have hx : (List.range m).map (fun j => Value.int .i64 (zs[j]?.getD 0)) = (zs.take m).map iw := by
    apply List.ext_getElem (by simp; omega)
    intro j h1 h2
    simp at h1
    have h3 : j < zs.length := by omega
    simp [iw, List.getElem?_eq_getElem h3]
  have HX := Lib.hid hx
  have HC := Lib.hid hc
  have HL := Lib.hid hl
  clear hx hr h
  go_enter Try.func63, Try.ntmps63
  go_wp2_with (at_builtin; refine wpList_append_whole _ rfl _ _ 57 rfl w.heap.size 3 i0 (.int .i64 0) 8 Try.underlying57 hi0 hz0 hz1 hz2 rfl _ _ _ rfl (World.ownsRow_nil _ _ _ _) (some ⟨g, 0, none⟩) m _ _ rfl hrm (fun _ => rfl) ?_ ?_ (Nat.le_refl _) ?_)
  · unfold maxLen; omega
  · omega
  intro o w1 hown hg1
  have hown0 := hown
  clear hown
  have hown : w1.ownsRow w.heap.size 3 1 o m ((zs.take m).map iw) := by
    rw [← HX.out]; simpa using hown0
  clear hown0
  obtain ⟨B, d, rfl⟩ := own_form hown
  have hne1 : some p ≠ (Value.slice none 0 0).ownBlock := fun e => by cases e
  have hbp : w1.heap[p]? = w.heap[p]? := hg1.block p hl hne1
  have hc1 : w1.cell? ⟨p, 0, none⟩ = some (.slice (some ⟨g, 0, none⟩) zs.length c) := (World.cell?_of_block (a := ⟨p, 0, none⟩) hbp).trans hc
  have hf1 : w1.frozen? ⟨p, 0, none⟩ = false := (World.frozen?_of_block (a := ⟨p, 0, none⟩) hbp).trans hf
  have ho1 := ho.kept hg1 (Or.inr (fun e => by cases e))
  have hglt : p + 1 ≤ g ∧ g < w.heap.size := ho.lt g rfl
  have HD := Lib.hid (delete_any ho1 0 m (Nat.zero_le _) hm hn)
  have hs1 := hg1.size
  clear ho hc hf hbp hrm
  go_wp2_with fail
  refine HD.out.mono ?_
  rintro e w2 ⟨v', rfl, ho2, hg2, hv2⟩
  rw [List.take_zero, List.nil_append] at ho2
  obtain ⟨A2, c2, rfl⟩ := own_form ho2
  have hs2 := hg2.size
  have hbp2 : w2.heap[p]? = w1.heap[p]? := hg2.block p (by omega) (fun e => by have e' : p = g := Option.some.inj e; omega)
  have hc2 : w2.cell? ⟨p, 0, none⟩ = some (.slice (some ⟨g, 0, none⟩) zs.length c) := (World.cell?_of_block (a := ⟨p, 0, none⟩) hbp2).trans hc1
  have hf2 : w2.frozen? ⟨p, 0, none⟩ = false := (World.frozen?_of_block (a := ⟨p, 0, none⟩) hbp2).trans hf1
  have hout2 := hown.kept hg2 (Or.inr (fun e => by have := (hown.lt g e).1; omega))
  have hout3 := Lib.hid (ownsRow_setCell_below hout2 (a := ⟨p, 0, none⟩) hl (.slice A2 (zs.drop m).length c2))
  have ho3 := Lib.hid (ownsRow_setCell_below ho2 (a := ⟨p, 0, none⟩) (by show p < p + 1; omega) (.slice A2 (zs.drop m).length c2))
  have hK := Lib.hid (show Keeps w (w2.setCell ⟨p, 0, none⟩ (.slice A2 (zs.drop m).length c2)) p (some g) from
    ⟨hg2.os.trans hg1.os, hg2.tape.trans hg1.tape, hg2.output.trans hg1.output, by simpa [World.setCell] using Nat.le_trans hs1 hs2,
      fun k hk h1 h2 => (Below.heap_setCell w2 ⟨p, 0, none⟩ _ k h1).trans ((hg2.block k (by omega) h2).trans (hg1.block k hk (fun e => by cases e)))⟩)
  have hsz := Lib.hid (Nat.lt_of_lt_of_le hl (Nat.le_trans hs1 hs2))
  have HV := Lib.hid hv2
  clear hg1 hg2 hown ho1 ho2 hout2 hbp2 hc1 hf1 hl hs1 hs2 hglt hne1 hv2
  generalize hlen : (zs.drop m).length = n2 at *
  go_wp2
  go_ret
  exact ⟨_, .slice A2 n2 c2, rfl, hout3.out, ⟨by simpa [World.setCell] using hsz.out, World.cell?_setCell_same _ _ _ hc2, (World.frozen?_setCell _ _ _ _).trans hf2, by rw [hlen]; exact ho3.out⟩, hK.out, HV.out⟩

set_option maxRecDepth 100000 in
theorem cut1_row {w : World} {p g c : Nat} {zs : List Int} (i : Nat) (z : Int) (h : LineAt w p (.slice (some ⟨g, 0, none⟩) zs.length c) zs) (hi : i < zs.length) (hz : zs[i]? = some z) (hn : zs.length ≤ 100000) :
    Calls Try.prog 63 #[.pointer (some ⟨p, 0, none⟩), .int .i64 i, .int .i64 ((i : Int) + 1)] w fun e w' => ∃ o v', e = .returned o ∧ w'.ownsRow w.heap.size 3 1 o 1 (([z]).map iw) ∧ LineAt w' p v' (zs.take i ++ zs.drop (i + 1)) ∧ Keeps w w' p (some g) ∧ v'.ownBlock = some g := by
  obtain ⟨i0, hi0, hz0, hz1, hz2⟩ := info_parts info_int
  obtain ⟨A, c', hv, hnc, hcm, hr⟩ := h.form
  cases hv
  have hc := h.cell
  have hf := h.fz
  have hl := h.lt
  have ho := h.own
  have d1 : decide (i + 1 ≤ c) = true := by simp; omega
  have d2 : decide (i ≤ c) = true := by simp; omega
  have d3 : decide (i < c) = true := by simp; omega
  have hrm : Rd w w.heap.size (some ⟨g, i, none⟩) 1 (fun _ => .int .i64 z) := fun j hj => by
    obtain rfl : j = 0 := by omega
    obtain ⟨ad, e, hb, hcc⟩ := hr i hi
    cases e
    refine ⟨_, rfl, hb, ?_⟩
    rw [add_zero]
    rw [add0] at hcc
    simpa [List.getD_eq_getElem?_getD, hz] using hcc
  have hx : (List.range 1).map (fun _ => Value.int .i64 z) = [z].map iw := rfl
  clear hz
  have HX := Lib.hid hx
  have HC := Lib.hid hc
  have HL := Lib.hid hl
  clear hx hr h
  go_enter Try.func63, Try.ntmps63
  go_wp2_with (at_builtin; refine wpList_append_whole _ rfl _ _ 57 rfl w.heap.size 3 i0 (.int .i64 0) 8 Try.underlying57 hi0 hz0 hz1 hz2 rfl _ _ _ rfl (World.ownsRow_nil _ _ _ _) (some ⟨g, i, none⟩) 1 _ _ rfl hrm (fun _ => rfl) ?_ ?_ (Nat.le_refl _) ?_)
  · unfold maxLen; omega
  · omega
  intro o w1 hown hg1
  have hown0 := hown
  clear hown
  have hown : w1.ownsRow w.heap.size 3 1 o 1 (([z]).map iw) := by
    rw [← HX.out]; simpa using hown0
  clear hown0
  obtain ⟨B, d, rfl⟩ := own_form hown
  have hne1 : some p ≠ (Value.slice none 0 0).ownBlock := fun e => by cases e
  have hbp : w1.heap[p]? = w.heap[p]? := hg1.block p hl hne1
  have hc1 : w1.cell? ⟨p, 0, none⟩ = some (.slice (some ⟨g, 0, none⟩) zs.length c) := (World.cell?_of_block (a := ⟨p, 0, none⟩) hbp).trans hc
  have hf1 : w1.frozen? ⟨p, 0, none⟩ = false := (World.frozen?_of_block (a := ⟨p, 0, none⟩) hbp).trans hf
  have ho1 := ho.kept hg1 (Or.inr (fun e => by cases e))
  have hglt : p + 1 ≤ g ∧ g < w.heap.size := ho.lt g rfl
  have HD := Lib.hid (delete_any ho1 i (i + 1) (by omega) (by omega) hn)
  have hs1 := hg1.size
  clear ho hc hf hbp hrm
  go_wp2_with fail
  refine HD.out.mono ?_
  rintro e w2 ⟨v', rfl, ho2, hg2, hv2⟩
  obtain ⟨A2, c2, rfl⟩ := own_form ho2
  have hs2 := hg2.size
  have hbp2 : w2.heap[p]? = w1.heap[p]? := hg2.block p (by omega) (fun e => by have e' : p = g := Option.some.inj e; omega)
  have hc2 : w2.cell? ⟨p, 0, none⟩ = some (.slice (some ⟨g, 0, none⟩) zs.length c) := (World.cell?_of_block (a := ⟨p, 0, none⟩) hbp2).trans hc1
  have hf2 : w2.frozen? ⟨p, 0, none⟩ = false := (World.frozen?_of_block (a := ⟨p, 0, none⟩) hbp2).trans hf1
  have hout2 := hown.kept hg2 (Or.inr (fun e => by have := (hown.lt g e).1; omega))
  have hout3 := Lib.hid (ownsRow_setCell_below hout2 (a := ⟨p, 0, none⟩) hl (.slice A2 (zs.take i ++ zs.drop (i + 1)).length c2))
  have ho3 := Lib.hid (ownsRow_setCell_below ho2 (a := ⟨p, 0, none⟩) (by show p < p + 1; omega) (.slice A2 (zs.take i ++ zs.drop (i + 1)).length c2))
  have hK := Lib.hid (show Keeps w (w2.setCell ⟨p, 0, none⟩ (.slice A2 (zs.take i ++ zs.drop (i + 1)).length c2)) p (some g) from
    ⟨hg2.os.trans hg1.os, hg2.tape.trans hg1.tape, hg2.output.trans hg1.output, by simpa [World.setCell] using Nat.le_trans hs1 hs2,
      fun k hk h1 h2 => (Below.heap_setCell w2 ⟨p, 0, none⟩ _ k h1).trans ((hg2.block k (by omega) h2).trans (hg1.block k hk (fun e => by cases e)))⟩)
  have hsz := Lib.hid (Nat.lt_of_lt_of_le hl (Nat.le_trans hs1 hs2))
  have HV := Lib.hid hv2
  clear hg1 hg2 hown ho1 ho2 hout2 hbp2 hc1 hf1 hl hs1 hs2 hglt hne1 hv2
  generalize hlen : (zs.take i ++ zs.drop (i + 1)).length = n2 at *
  go_wp2
  go_ret
  exact ⟨_, .slice A2 n2 c2, rfl, hout3.out, ⟨by simpa [World.setCell] using hsz.out, World.cell?_setCell_same _ _ _ hc2, (World.frozen?_setCell _ _ _ _).trans hf2, by rw [hlen]; exact ho3.out⟩, hK.out, HV.out⟩
end Go.Proofs.Ytblpekeikmblmaa.LineW
