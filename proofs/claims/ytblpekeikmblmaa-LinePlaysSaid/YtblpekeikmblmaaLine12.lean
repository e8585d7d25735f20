/- The walks of the line, twelfth part: New of more than 256. Conditions: the list is read rightly, none is below 0, none is there twice. Printed by gen_line12.py. -/
import Derived.Test.YtblpekeikmblmaaLine11
namespace Go.Proofs.Ytblpekeikmblmaa.LineW
open Go.RowKit Go.Maps
open Go.Proofs.Ytblpekeikmblmaa.Words

set_option maxHeartbeats 1000000 in
set_option maxRecDepth 100000 in
theorem new_full (A : Option Addr) (n c : Nat) (zs : List Int) (w : World) (hl : zs.length = n) (hr : Rd w w.heap.size A n (fun j => .int .i64 (zs.getD j 0))) (hn : n ≤ 1000) (hn2 : 256 < n)
    (h0 : ∀ j, j < n → 0 ≤ zs.getD j 0 ∧ zs.getD j 0 ≤ 9223372036854775807) (hd : ∀ k, k < n → ∀ j, j < k → zs.getD j 0 ≠ zs.getD k 0) :
    Calls Try.prog 42 #[.slice A n c] w fun e w' => e = .returned (.tuple #[.pointer none, .int .i64 161]) ∧ Below w.heap.size w w' := by
  have hmm := @run_makeMap Try.prog
  obtain ⟨W1, hW1⟩ : ∃ W1, w.alloc (.cells #[.slice none 0 0] 83) = W1 := ⟨_, rfl⟩
  have hbW : Below w.heap.size w W1 := by rw [← hW1]; exact (Below.refl _ _).alloc (Nat.le_refl _) _
  have hsW : W1.heap.size = w.heap.size + 1 := by rw [← hW1]; simp
  have hcW : W1.cell? ⟨w.heap.size, 0, none⟩ = some (.slice none 0 0) := by rw [← hW1, World.cell?_alloc_at _ _ _ _ rfl]; rfl
  have hfW : W1.frozen? ⟨w.heap.size, 0, none⟩ = false := by rw [← hW1, World.frozen?_alloc_at _ _ _ _ rfl]
  have H0 := Lib.hid h0
  have HD := Lib.hid hd
  have HL := Lib.hid hl
  have HR := Lib.hid hr
  clear h0 hd hl hr
  go_enter Try.func42, Try.ntmps42
  go_wp2
  clear hW1
  go_loop [17] (fun kv => ∃ k : Nat, kv = .int .i64 k ∧ k ≤ n) (fun kv => n - (intOf kv).toNat)
  case atStart => exact ⟨0, rfl, Nat.zero_le _⟩
  case round =>
    obtain ⟨k, rfl, hk⟩ := hrel
    by_cases hlt : k < n
    · have d1 : decide (k < n) = true := by simpa using hlt
      obtain ⟨ad, rfl, _, hc⟩ := (HR.out.below hbW) k hlt
      have hc' := hc
      simp only at hc'
      have hx0 := (H0.out k hlt).1
      clear hc
      generalize zs.getD k 0 = x at hc' hx0
      have d2 : decide (x < 0) = false := by simp; omega
      go_wp2
      exact ⟨⟨k + 1, by go_num, by omega⟩, by simp [intOf]; omega⟩
    · have d1 : decide (k < n) = false := by simpa using hlt
      clear hlt hk
      go_wp2
      go_loopw [27] (fun kv wr => ∃ k : Nat, kv = .int .i64 k ∧ k ≤ n ∧ wr.ownsMap Try.prog 3 (plainElem Try.prog 4) (w.heap.size + 1) k (mp zs k) ∧ Below W1.heap.size W1 wr) (fun kv _ => n - (intOf kv).toNat)
      case atStart => exact ⟨0, rfl, Nat.zero_le _, by rw [← hsW]; exact World.ownsMap_made _ _ _ _, (Below.refl _ _).alloc (Nat.le_refl _) _⟩
      case round =>
        clear d1
        obtain ⟨k, rfl, hk, hown, hbr⟩ := hrel
        by_cases hlt : k < n
        · have d1 : decide (k < n) = true := by simpa using hlt
          have hbwr : Below w.heap.size w wr := hbW.trans (hbr.mono (by omega))
          obtain ⟨ad, rfl, _, hc⟩ := (HR.out.below hbwr) k hlt
          have hc' := hc
          simp only at hc'
          have hx0 := H0.out k hlt
          have hat := Lib.hid (mp_at zs (zs.getD k 0) k (fun j hj => HD.out k hlt j hj))
          have HS := Lib.hid (show mp zs (k + 1) = (mp zs k).put (.int .i64 (zs.getD k 0)) (.lit (.bool true)) from rfl)
          have hwf : (Lit.int .i64 (zs.getD k 0)).wf = true := wf_of hx0
          have hkey := Lib.hid (keyOf_int_mk Try.underlying3 hwf)
          clear hc hwf hx0 hbwr
          generalize zs.getD k 0 = x at hc' hat HS hkey
          go_wp2_with (first
            | (at_lookup; refine look_bool _ rfl _ _ 95 rfl 3 4 law_int Try.underlying95 Try.underlying4 (zero_bool _) (w.heap.size + 1) k _ rfl hown _ _ rfl hkey.out false hat.out ?_)
            | (at_mapUpdate; refine wpList_mapUpdate_own _ rfl _ _ _ 95 rfl 3 4 law_int Try.underlying95 _ (w.heap.size + 1) k _ rfl hown (by unfold maxLen; omega) _ _ _ rfl rfl hkey.out (.lit (.bool true)) [] (plainElem_bool Try.underlying4 true) ?_; intro w1 hown1 hgrow1))
          exact ⟨⟨k + 1, by go_num, by omega, by rw [HS.out]; exact hown1, hbr.grown hgrow1 hbr.size (fun j hj => by cases hj; omega)⟩, by simp [intOf]; omega⟩
        · have d1 : decide (k < n) = false := by simpa using hlt
          have hbwr : Below w.heap.size w wr := hbW.trans (hbr.mono (by omega))
          have hcr : wr.cell? ⟨w.heap.size, 0, none⟩ = some (.slice none 0 0) := (hbr.cell (p := ⟨w.heap.size, 0, none⟩) (by show w.heap.size < W1.heap.size; omega)).trans hcW
          have hfr : wr.frozen? ⟨w.heap.size, 0, none⟩ = false := (hbr.frozen (p := ⟨w.heap.size, 0, none⟩) (by show w.heap.size < W1.heap.size; omega)).trans hfW
          have hsr := hbr.size
          have hL0 : LineAt wr w.heap.size (.slice none 0 0) (zs.take 0) := ⟨by omega, hcr, hfr, World.ownsRow_nil _ _ _ _⟩
          clear hlt hk hown hcr hfr
          go_wp2
          go_loopw [39] (fun kv wq => ∃ (k : Nat) (v : Value), kv = .int .i64 k ∧ k ≤ 256 ∧ LineAt wq w.heap.size v (zs.take k) ∧ Below w.heap.size w wq) (fun kv _ => n - (intOf kv).toNat)
          case atStart => exact ⟨0, _, rfl, Nat.zero_le _, hL0, hbwr⟩
          case round =>
            clear hL0 d1 hbwr hbr hsr
            obtain ⟨k, v, rfl, hk, hL, hbq⟩ := hrel
            have hkn : k < n := by omega
            have d1 : decide (k < n) = true := by simpa using hkn
            by_cases hlt : k < 256
            · obtain ⟨ad, rfl, _, hc⟩ := (HR.out.below hbq) k hkn
              have hc' := hc
              simp only at hc'
              have hx0 := (H0.out k hkn).1
              have hkl : k < zs.length := by rw [HL.out]; exact hkn
              have hidx : Lib.idxOf (zs.take k) (zs.getD k 0) < 0 := by
                unfold Lib.idxOf
                rw [idx_miss _ _ _ (fun z hz => ?_)]
                · omega
                · obtain ⟨j, hj, rfl⟩ := List.mem_iff_getElem.1 hz
                  have hj' : j < k := by simp at hj; omega
                  have := HD.out k hkn j hj'
                  rw [List.getElem_take]
                  rwa [List.getD_eq_getElem?_getD, List.getElem?_eq_getElem (by omega)] at this
              have hP := Lib.hid (push_ok (zs.getD k 0) hL hx0 hidx (by simp; omega))
              have HT := Lib.hid (show zs.take (k + 1) = zs.take k ++ [zs.getD k 0] by rw [List.take_add_one, List.getD_eq_getElem?_getD, List.getElem?_eq_getElem hkl]; rfl)
              have hog := fun g (hg : v.ownBlock = some g) => (hL.own.lt g hg).1
              clear hc hidx hL hx0
              generalize zs.getD k 0 = x at hc' hP HT
              go_wp2_with fail
              refine hP.out.mono ?_
              rintro e w2 ⟨rfl, v2, hL2, hK2⟩
              have hb2 : Below w.heap.size w w2 := hbq.trans (hK2.below hbq.size (Nat.le_refl _) (fun g hg => by have := hog g hg; omega))
              go_wp2
              exact ⟨⟨k + 1, v2, by go_num, by omega, by rw [HT.out]; exact hL2, hb2⟩, by simp [intOf]; omega⟩
            · have h256 : k = 256 := by omega
              obtain ⟨ad, rfl, _, hc⟩ := (HR.out.below hbq) k hkn
              have hc' := hc
              simp only at hc'
              have hx0 := (H0.out k hkn).1
              have hidx : Lib.idxOf (zs.take k) (zs.getD k 0) < 0 := by
                unfold Lib.idxOf
                rw [idx_miss _ _ _ (fun z hz => ?_)]
                · omega
                · obtain ⟨j, hj, rfl⟩ := List.mem_iff_getElem.1 hz
                  have hj' : j < k := by simp at hj; omega
                  have := HD.out k hkn j hj'
                  rw [List.getElem_take]
                  rwa [List.getD_eq_getElem?_getD, List.getElem?_eq_getElem (by have := HL.out; omega)] at this
              have htl : (zs.take k).length = 256 := by have := HL.out; simp; omega
              have hP := Lib.hid (push_full (zs.getD k 0) hL hx0 hidx (by omega) (by omega))
              clear hc hidx hL hx0 htl hlt h256
              generalize zs.getD k 0 = x at hc' hP
              go_wp2_with fail
              refine hP.out.mono ?_
              rintro e w2 ⟨rfl, rfl⟩
              go_wp2
              go_ret2
              exact ⟨rfl, hbq⟩
end Go.Proofs.Ytblpekeikmblmaa.LineW
