/- The walks of the line, seventh part: New's errors, List, Drop of one who is not there. Conditions: rows are read rightly and are not too long. -/
import Derived.Test.YtblpekeikmblmaaLine6
namespace Go.Proofs.Ytblpekeikmblmaa.LineW
open Go.RowKit Go.Maps
open Go.Proofs.Ytblpekeikmblmaa.Words

theorem drop_no {w : World} {p : Nat} {v : Value} {zs : List Int} (x : Int) (hi : Lib.idxOf zs x = -1) (h : LineAt w p v zs) (hn : zs.length ≤ 100000) :
    Calls Try.prog 51 #[.pointer (some ⟨p, 0, none⟩), .int .i64 x] w fun e w' => e = .returned (.bool false) ∧ w = w' := by
  have hP := place_any x h hn
  rw [hi, show max (-1 : Int) 0 = 0 by omega, show decide (0 ≤ (-1 : Int)) = false by decide] at hP
  have HP := Lib.hid hP
  clear hP hi h
  go_enter Try.func51, Try.ntmps51
  go_wp2_with fail
  refine HP.out.mono ?_
  rintro e w' ⟨rfl, rfl⟩
  go_wp2
  go_ret
  exact ⟨rfl, rfl⟩
theorem list_any {w : World} {p : Nat} {v : Value} {zs : List Int} (h : LineAt w p v zs) (hn : zs.length ≤ 100000) :
    Calls Try.prog 53 #[.pointer (some ⟨p, 0, none⟩)] w fun e w' => ∃ o, e = .returned o ∧ w'.ownsRow w.heap.size 3 1 o zs.length (zs.map iw) ∧ Below w.heap.size w w' := by
  obtain ⟨i0, hi0, hz0, hz1, hz2⟩ := info_parts info_int
  obtain ⟨A, c, rfl, _, _, hr⟩ := h.form
  have hc := h.cell
  have hx : (List.range zs.length).map (fun j => Value.int .i64 (zs[j]?.getD 0)) = zs.map iw := by
    apply List.ext_getElem (by simp)
    intro j h1 h2
    simp at h1
    simp [iw, List.getElem?_eq_getElem h1]
  have HX := Lib.hid hx
  clear hx h
  generalize hN : zs.length = n at *
  go_enter Try.func53, Try.ntmps53
  go_wp2_with (at_builtin; refine wpList_append_whole _ rfl _ _ 57 rfl w.heap.size 3 i0 (.int .i64 0) 8 Try.underlying57 hi0 hz0 hz1 hz2 rfl _ _ _ rfl (World.ownsRow_nil _ _ _ _) A n c _ rfl hr (fun _ => rfl) ?_ ?_ (Nat.le_refl _) ?_)
  · unfold maxLen; omega
  · omega
  intro o w1 hown hg1
  have hown0 := hown
  clear hown
  have hown : w1.ownsRow w.heap.size 3 1 o n (zs.map iw) := by rw [← HX.out]; simpa using hown0
  have hb : Below w.heap.size w w1 := (Below.refl _ _).grown hg1 (Nat.le_refl _) (fun _ h => by cases h)
  clear hown0 hg1
  go_wp2
  go_ret
  exact ⟨_, rfl, hown, hb⟩

/-! New -/
theorem mp_map (zs : List Int) : ∀ k, IsMap (mp zs k)
  | 0 => ⟨_, rfl⟩
  | k + 1 => by rw [mp]; exact (mp_map zs k).put _ _
theorem mp_hit (zs : List Int) (x : Int) : ∀ k, (∃ j, j < k ∧ zs.getD j 0 = x) → (mp zs k).atKey (.int .i64 x) (.lit (.bool false)) = .lit (.bool true)
  | 0, h => by obtain ⟨j, hj, _⟩ := h; omega
  | k + 1, h => by
    rw [mp]
    by_cases e : zs.getD k 0 = x
    · rw [e]; exact atKey_put_same (mp_map zs k) (by trivial) _ _
    · rw [atKey_put_other (fun e' => e (by injection e' with _ e'; exact e'.symm))]
      obtain ⟨j, hj, hjx⟩ := h
      exact mp_hit zs x k ⟨j, by by_cases h' : j = k
                                 · subst h'; exact absurd hjx e
                                 · omega, hjx⟩
set_option maxRecDepth 100000 in
theorem new_neg (A : Option Addr) (n c m : Nat) (zs : List Int) (w : World) (hl : zs.length = n) (hr : Rd w w.heap.size A n (fun j => .int .i64 (zs.getD j 0))) (hn : n ≤ 1000) (hm : m < n) (h0 : ∀ j, j < m → 0 ≤ zs.getD j 0) (hneg : zs.getD m 0 < 0) :
    Calls Try.prog 42 #[.slice A n c] w fun e w' => e = .returned (.tuple #[.pointer none, .int .i64 2]) ∧ Below w.heap.size w w' := by
  have hmm := @run_makeMap Try.prog
  obtain ⟨W1, hW1⟩ : ∃ W1, w.alloc (.cells #[.slice none 0 0] 83) = W1 := ⟨_, rfl⟩
  have hbW : Below w.heap.size w W1 := by rw [← hW1]; exact (Below.refl _ _).alloc (Nat.le_refl _) _
  have hsW : W1.heap.size = w.heap.size + 1 := by rw [← hW1]; simp
  have HR := Lib.hid hr
  have HL := Lib.hid hl
  clear hl hr
  have H0 := Lib.hid h0
  have HN := Lib.hid hneg
  clear h0 hneg
  go_enter Try.func42, Try.ntmps42
  go_wp2
  clear hW1
  go_loop [17] (fun kv => ∃ k : Nat, kv = .int .i64 k ∧ k ≤ m) (fun kv => n - (intOf kv).toNat)
  case atStart => exact ⟨0, rfl, Nat.zero_le _⟩
  case round =>
    obtain ⟨k, rfl, hk⟩ := hrel
    have hlt : k < n := by omega
    have d1 : decide (k < n) = true := by simpa using hlt
    obtain ⟨ad, rfl, _, hc⟩ := (HR.out.below hbW) k hlt
    have hc' := hc
    simp only at hc'
    by_cases hkm : k = m
    · subst hkm
      have hx0 := HN.out
      clear hc
      generalize zs.getD k 0 = x at hc' hx0
      have d2 : decide (x < 0) = true := by simp; omega
      go_wp2
      go_ret2
      exact ⟨rfl, hbW⟩
    · have hx0 := H0.out k (by omega)
      clear hc
      generalize zs.getD k 0 = x at hc' hx0
      have d2 : decide (x < 0) = false := by simp; omega
      go_wp2
      exact ⟨⟨k + 1, by go_num, by omega⟩, by simp [intOf]; omega⟩
set_option maxHeartbeats 1000000 in
set_option maxRecDepth 100000 in
theorem new_twice (A : Option Addr) (n c m : Nat) (zs : List Int) (w : World) (hl : zs.length = n) (hr : Rd w w.heap.size A n (fun j => .int .i64 (zs.getD j 0))) (hn : n ≤ 1000) (hm : m < n) (h0 : ∀ j, j < n → 0 ≤ zs.getD j 0 ∧ zs.getD j 0 ≤ 9223372036854775807)
    (hd : ∀ k, k < m → ∀ j, j < k → zs.getD j 0 ≠ zs.getD k 0) (htw : ∃ j, j < m ∧ zs.getD j 0 = zs.getD m 0) :
    Calls Try.prog 42 #[.slice A n c] w fun e w' => e = .returned (.tuple #[.pointer none, .int .i64 231]) ∧ Below w.heap.size w w' := by
  have hmm := @run_makeMap Try.prog
  obtain ⟨W1, hW1⟩ : ∃ W1, w.alloc (.cells #[.slice none 0 0] 83) = W1 := ⟨_, rfl⟩
  have hbW : Below w.heap.size w W1 := by rw [← hW1]; exact (Below.refl _ _).alloc (Nat.le_refl _) _
  have hsW : W1.heap.size = w.heap.size + 1 := by rw [← hW1]; simp
  have HR := Lib.hid hr
  have HL := Lib.hid hl
  clear hl hr
  have H0 := Lib.hid h0
  have HD := Lib.hid hd
  have HT := Lib.hid htw
  clear h0 hd htw
  go_enter Try.func42, Try.ntmps42
  go_wp2
  clear hW1
  go_loop [17] (fun kv => ∃ k : Nat, kv = .int .i64 k ∧ k ≤ n) (fun kv => n - (intOf kv).toNat)
  case atStart => exact ⟨0, rfl, Nat.zero_le _⟩
  case round =>
    obtain ⟨k, rfl, hk⟩ := hrel
    by_cases hlt : k < n
    · have d1 : decide (k < n) = true := by simpa using hlt
      obtain ⟨ad, rfl, _, hc⟩ := (HR.out.below hbW) k hlt
      have hc' := hc
      simp only at hc'
      have hx0 := (H0.out k hlt).1
      clear hc
      generalize zs.getD k 0 = x at hc' hx0
      have d2 : decide (x < 0) = false := by simp; omega
      go_wp2
      exact ⟨⟨k + 1, by go_num, by omega⟩, by simp [intOf]; omega⟩
    · have d1 : decide (k < n) = false := by simpa using hlt
      clear hlt hk
      go_wp2
      go_loopw [27] (fun kv wr => ∃ k : Nat, kv = .int .i64 k ∧ k ≤ m ∧ wr.ownsMap Try.prog 3 (plainElem Try.prog 4) (w.heap.size + 1) k (mp zs k) ∧ Below W1.heap.size W1 wr) (fun kv _ => n - (intOf kv).toNat)
      case atStart => exact ⟨0, rfl, Nat.zero_le _, by rw [← hsW]; exact World.ownsMap_made _ _ _ _, (Below.refl _ _).alloc (Nat.le_refl _) _⟩
      case round =>
        clear d1
        obtain ⟨k, rfl, hk, hown, hbr⟩ := hrel
        have hlt : k < n := by omega
        have d1 : decide (k < n) = true := by simpa using hlt
        have hbwr : Below w.heap.size w wr := hbW.trans (hbr.mono (by omega))
        obtain ⟨ad, rfl, _, hc⟩ := (HR.out.below hbwr) k hlt
        have hc' := hc
        simp only at hc'
        have hkey := Lib.hid (keyOf_int_mk Try.underlying3 (wf_of (H0.out k hlt)))
        by_cases hkm : k = m
        · subst hkm
          have hat := Lib.hid (mp_hit zs (zs.getD k 0) k HT.out)
          clear hc
          generalize zs.getD k 0 = x at hc' hat hkey
          go_wp2_with (at_lookup; refine look_bool _ rfl _ _ 95 rfl 3 4 law_int Try.underlying95 Try.underlying4 (zero_bool _) (w.heap.size + 1) k _ rfl hown _ _ rfl hkey.out true hat.out ?_)
          go_ret2
          exact ⟨rfl, hbwr⟩
        · have hat := Lib.hid (mp_at zs (zs.getD k 0) k (fun j hj => HD.out k (by omega) j hj))
          have HS := Lib.hid (show mp zs (k + 1) = (mp zs k).put (.int .i64 (zs.getD k 0)) (.lit (.bool true)) from rfl)
          clear hc hbwr
          generalize zs.getD k 0 = x at hc' hat HS hkey
          go_wp2_with (first
            | (at_lookup; refine look_bool _ rfl _ _ 95 rfl 3 4 law_int Try.underlying95 Try.underlying4 (zero_bool _) (w.heap.size + 1) k _ rfl hown _ _ rfl hkey.out false hat.out ?_)
            | (at_mapUpdate; refine wpList_mapUpdate_own _ rfl _ _ _ 95 rfl 3 4 law_int Try.underlying95 _ (w.heap.size + 1) k _ rfl hown (by unfold maxLen; omega) _ _ _ rfl rfl hkey.out (.lit (.bool true)) [] (plainElem_bool Try.underlying4 true) ?_; intro w1 hown1 hgrow1))
          exact ⟨⟨k + 1, by go_num, by omega, by rw [HS.out]; exact hown1, hbr.grown hgrow1 hbr.size (fun j hj => by cases hj; omega)⟩, by simp [intOf]; omega⟩
end Go.Proofs.Ytblpekeikmblmaa.LineW
