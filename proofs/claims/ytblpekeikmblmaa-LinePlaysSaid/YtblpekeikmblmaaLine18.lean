/- The walks of the line, eighteenth part: LinePlays at any lists. Conditions: rows are read rightly. Printed by gen_line18.py. -/
import Derived.Test.YtblpekeikmblmaaLine17
namespace Go.Proofs.Ytblpekeikmblmaa.LineW
open Go.RowKit
open Go.Proofs.Ytblpekeikmblmaa.Words

theorem plays_b1 (A : Option Addr) (n c : Nat) (Bo : Option Addr) (no co : Nat) (w : World) (hn : 400 < n) :
    Calls Try.prog 11 #[.slice A n c, .slice Bo no co] w fun e w' => e = .returned (.bool true) ∧ Below w.heap.size w w' := by
  have d1 : decide ((400 : Int) < n) = true := by simp; omega
  go_enter Try.func11, Try.ntmps11
  go_wp2_with fail
  refine (awake_any _).mono ?_
  rintro e w1 ⟨rfl, hb⟩
  go_wp2
  go_ret
  exact ⟨rfl, hb⟩
theorem plays_b2 (A : Option Addr) (n c : Nat) (Bo : Option Addr) (no co : Nat) (w : World) (hn : n ≤ 400) (hno : 100 < no) :
    Calls Try.prog 11 #[.slice A n c, .slice Bo no co] w fun e w' => e = .returned (.bool true) ∧ Below w.heap.size w w' := by
  have d1 : decide ((400 : Int) < n) = false := by simp; omega
  have d2 : decide ((100 : Int) < no) = true := by simp; omega
  go_enter Try.func11, Try.ntmps11
  go_wp2_with fail
  refine (awake_any _).mono ?_
  rintro e w1 ⟨rfl, hb⟩
  go_wp2
  go_ret
  exact ⟨rfl, hb⟩
theorem plays_neg (A : Option Addr) (n c : Nat) (Bo : Option Addr) (no co : Nat) (w : World) (hn : n ≤ 400) (hno : no ≤ 100)
    (hN : ∀ W, Below w.heap.size w W → Calls Try.prog 42 #[.slice A n c] W fun e w' => e = .returned (.tuple #[.pointer none, .int .i64 2]) ∧ Below W.heap.size W w')
    (hW : ∀ W, Below w.heap.size w W → Calls Try.prog 43 #[.slice A n c] W fun e w' => e = .returned (.int .i64 2) ∧ ∃ q, w' = W.drewN q) :
    Calls Try.prog 11 #[.slice A n c, .slice Bo no co] w fun e w' => e = .returned (.bool true) ∧ Below w.heap.size w w' := by
  have d1 : decide ((400 : Int) < n) = false := by simp; omega
  have d2 : decide ((100 : Int) < no) = false := by simp; omega
  have HN := Lib.hid hN
  have HW := Lib.hid hW
  clear hN hW hn hno
  go_enter Try.func11, Try.ntmps11
  go_wp2_with fail
  refine (awake_any _).mono ?_
  rintro e w1 ⟨rfl, hb⟩
  go_wp2_with fail
  refine Calls.mono (HN.out w1 hb) ?_
  rintro e w2 ⟨rfl, hb2⟩
  have hbb := hb.trans (hb2.mono hb.size)
  go_wp2_with fail
  refine Calls.mono (HW.out w2 hbb) ?_
  rintro e w3 ⟨rfl, q, rfl⟩
  have hb3 := below_drewN hbb q
  go_wp2
  go_ret
  exact ⟨by simp, hb3⟩
theorem plays_twice (A : Option Addr) (n c : Nat) (Bo : Option Addr) (no co : Nat) (w : World) (hn : n ≤ 400) (hno : no ≤ 100)
    (hN : ∀ W, Below w.heap.size w W → Calls Try.prog 42 #[.slice A n c] W fun e w' => e = .returned (.tuple #[.pointer none, .int .i64 231]) ∧ Below W.heap.size W w')
    (hW : ∀ W, Below w.heap.size w W → Calls Try.prog 43 #[.slice A n c] W fun e w' => e = .returned (.int .i64 231) ∧ ∃ q, w' = W.drewN q) :
    Calls Try.prog 11 #[.slice A n c, .slice Bo no co] w fun e w' => e = .returned (.bool true) ∧ Below w.heap.size w w' := by
  have d1 : decide ((400 : Int) < n) = false := by simp; omega
  have d2 : decide ((100 : Int) < no) = false := by simp; omega
  have HN := Lib.hid hN
  have HW := Lib.hid hW
  clear hN hW hn hno
  go_enter Try.func11, Try.ntmps11
  go_wp2_with fail
  refine (awake_any _).mono ?_
  rintro e w1 ⟨rfl, hb⟩
  go_wp2_with fail
  refine Calls.mono (HN.out w1 hb) ?_
  rintro e w2 ⟨rfl, hb2⟩
  have hbb := hb.trans (hb2.mono hb.size)
  go_wp2_with fail
  refine Calls.mono (HW.out w2 hbb) ?_
  rintro e w3 ⟨rfl, q, rfl⟩
  have hb3 := below_drewN hbb q
  go_wp2
  go_ret
  exact ⟨by simp, hb3⟩
theorem plays_full (A : Option Addr) (n c : Nat) (Bo : Option Addr) (no co : Nat) (w : World) (hn : n ≤ 400) (hno : no ≤ 100)
    (hN : ∀ W, Below w.heap.size w W → Calls Try.prog 42 #[.slice A n c] W fun e w' => e = .returned (.tuple #[.pointer none, .int .i64 161]) ∧ Below W.heap.size W w')
    (hW : ∀ W, Below w.heap.size w W → Calls Try.prog 43 #[.slice A n c] W fun e w' => e = .returned (.int .i64 161) ∧ ∃ q, w' = W.drewN q) :
    Calls Try.prog 11 #[.slice A n c, .slice Bo no co] w fun e w' => e = .returned (.bool true) ∧ Below w.heap.size w w' := by
  have d1 : decide ((400 : Int) < n) = false := by simp; omega
  have d2 : decide ((100 : Int) < no) = false := by simp; omega
  have HN := Lib.hid hN
  have HW := Lib.hid hW
  clear hN hW hn hno
  go_enter Try.func11, Try.ntmps11
  go_wp2_with fail
  refine (awake_any _).mono ?_
  rintro e w1 ⟨rfl, hb⟩
  go_wp2_with fail
  refine Calls.mono (HN.out w1 hb) ?_
  rintro e w2 ⟨rfl, hb2⟩
  have hbb := hb.trans (hb2.mono hb.size)
  go_wp2_with fail
  refine Calls.mono (HW.out w2 hbb) ?_
  rintro e w3 ⟨rfl, q, rfl⟩
  have hb3 := below_drewN hbb q
  go_wp2
  go_ret
  exact ⟨by simp, hb3⟩

theorem plays_law (A : Option Addr) (n c : Nat) (Bo : Option Addr) (no co : Nat) (zs : List Int) (ks xs : Nat → Int) (w : World) (hl : zs.length = n) (hr : Rd w w.heap.size A n (fun j => .int .i64 (zs.getD j 0))) (hnc : n ≤ c) (hb : ∀ j, j < n → zs.getD j 0 ≤ 9223372036854775807)
    (hops : OpsAt w Bo no ks xs) :
    Calls Try.prog 11 #[.slice A n c, .slice Bo no co] w fun e w' => e = .returned (.bool true) ∧ Below w.heap.size w w' := by
  by_cases h1 : 400 < n
  · exact plays_b1 A n c Bo no co w h1
  by_cases h2 : 100 < no
  · exact plays_b2 A n c Bo no co w (by omega) h2
  rcases classify zs n with ⟨m, hm, h4, h5⟩ | ⟨h4, m, hm, h5, h6⟩ | ⟨h4, h5⟩
  · exact plays_neg A n c Bo no co w (by omega) (by omega) (fun W hW => new_neg A n c m zs W hl (hr.to hW) (by omega) hm h4 h5)
      (fun W hW => wrong_any A n c 2 zs W hl (hr.to hW) hnc (by omega) (fun _ => rfl) (fun h _ => absurd (h m hm) (by omega)) (fun h _ => absurd (h m hm) (by omega)))
  · exact plays_twice A n c Bo no co w (by omega) (by omega) (fun W hW => new_twice A n c m zs W hl (hr.to hW) (by omega) hm (fun j hj => ⟨h4 j hj, hb j hj⟩) h5 h6)
      (fun W hW => wrong_any A n c 231 zs W hl (hr.to hW) hnc (by omega) (fun ⟨j, hj, h⟩ => absurd (h4 j hj) (by omega)) (fun _ _ => rfl) (fun _ h => by obtain ⟨j, hj, e⟩ := h6; exact absurd e (h m hm j hj)))
  · by_cases h6 : 256 < n
    · exact plays_full A n c Bo no co w (by omega) (by omega) (fun W hW => new_full A n c zs W hl (hr.to hW) (by omega) h6 (fun j hj => ⟨h4 j hj, hb j hj⟩) h5)
        (fun W hW => wrong_any A n c 161 zs W hl (hr.to hW) hnc (by omega) (fun ⟨j, hj, h⟩ => absurd (h4 j hj) (by omega)) (fun _ ⟨k, hk, j, hj, e⟩ => absurd e (h5 k hk j hj)) (fun _ _ => (if_pos h6).symm))
    · exact plays_good A n c Bo no co zs ks xs w hl hr (by omega) hnc (by omega) hops (fun j hj => ⟨h4 j hj, hb j hj⟩) h5
end Go.Proofs.Ytblpekeikmblmaa.LineW
