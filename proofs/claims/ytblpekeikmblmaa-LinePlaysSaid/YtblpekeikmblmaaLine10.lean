/- The walks of the line, tenth part: Push's errors. Conditions: the line is held rightly and is not too long. -/
import Derived.Test.YtblpekeikmblmaaLine9
namespace Go.Proofs.Ytblpekeikmblmaa.LineW
open Go.RowKit
open Go.Proofs.Ytblpekeikmblmaa.Words

theorem push_neg {p : Nat} (x : Int) (hx : x < 0) (w : World) :
    Calls Try.prog 45 #[.pointer (some ⟨p, 0, none⟩), .int .i64 x] w fun e w' => e = .returned (.int .i64 2) ∧ w = w' := by
  have d1 : decide (x < 0) = true := by simp; omega
  go_enter Try.func45, Try.ntmps45
  go_wp2
  go_ret
  exact ⟨rfl, rfl⟩
theorem push_there {w : World} {p : Nat} {v : Value} {zs : List Int} (x : Int) (h : LineAt w p v zs) (hx : 0 ≤ x) (hi : 0 ≤ Lib.idxOf zs x) (hn : zs.length ≤ 100000) :
    Calls Try.prog 45 #[.pointer (some ⟨p, 0, none⟩), .int .i64 x] w fun e w' => e = .returned (.int .i64 231) ∧ w = w' := by
  have HI := Lib.hid (find_any x h hn)
  have d1 : decide (x < 0) = false := by simp; omega
  have d2 : decide (0 ≤ Lib.idxOf zs x) = true := by simp; omega
  clear h hi
  generalize Lib.idxOf zs x = i at HI d2
  go_enter Try.func45, Try.ntmps45
  go_wp2_with fail
  refine HI.out.mono ?_
  rintro e w' ⟨rfl, rfl⟩
  go_wp2
  go_ret
  exact ⟨rfl, rfl⟩
theorem push_full {w : World} {p : Nat} {v : Value} {zs : List Int} (x : Int) (h : LineAt w p v zs) (hx : 0 ≤ x) (hi : Lib.idxOf zs x < 0) (hf : 256 ≤ zs.length) (hn : zs.length ≤ 100000) :
    Calls Try.prog 45 #[.pointer (some ⟨p, 0, none⟩), .int .i64 x] w fun e w' => e = .returned (.int .i64 161) ∧ w = w' := by
  have HI := Lib.hid (find_any x h hn)
  have d1 : decide (x < 0) = false := by simp; omega
  have d2 : decide (0 ≤ Lib.idxOf zs x) = false := by simp; omega
  have d3 : decide ((256 : Int) ≤ zs.length) = true := by simp; omega
  obtain ⟨A, c, rfl, _⟩ := h.form
  have hc := h.cell
  clear h hi
  generalize Lib.idxOf zs x = i at HI d2
  generalize zs.length = n at *
  go_enter Try.func45, Try.ntmps45
  go_wp2_with fail
  refine HI.out.mono ?_
  rintro e w' ⟨rfl, rfl⟩
  go_wp2
  go_ret
  exact ⟨rfl, rfl⟩
end Go.Proofs.Ytblpekeikmblmaa.LineW
