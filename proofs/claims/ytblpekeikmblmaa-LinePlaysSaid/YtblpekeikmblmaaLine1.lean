/- The walks of the line, first part: what a line holds; find, Place, Len, Push. Conditions: the line is held rightly and is not too long. -/
import Derived.Test.YtblpekeikmblmaaWords
import Derived.Test.YtblpekeikmblmaaShelfB
namespace Go.Proofs.Ytblpekeikmblmaa.LineW
open Go.RowKit
open Go.Proofs.Ytblpekeikmblmaa.Words

def iw (z : Int) : Value := .int .i64 z
theorem zs_at {zs : List Int} {j : Nat} (h : j < zs.length) : (zs.map iw)[j]? = some (.int .i64 (zs.getD j 0)) := by
  rw [List.getElem?_map, List.getD_eq_getElem?_getD, List.getElem?_eq_getElem h]; rfl
theorem info_int : (Try.prog.info? 3).map (fun i => (i.zero, i.size, i.bytes)) = some (some (.int .i64 0), 1, 8) := by kernel_rfl
/-- the line at block p holds zs -/
structure LineAt (w : World) (p : Nat) (v : Value) (zs : List Int) : Prop where
  lt : p < w.heap.size
  cell : w.cell? ⟨p, 0, none⟩ = some v
  fz : w.frozen? ⟨p, 0, none⟩ = false
  own : w.ownsRow (p + 1) 3 1 v zs.length (zs.map iw)
/-- all but two blocks stay -/
structure Keeps (w w' : World) (p : Nat) (r : Option Nat) : Prop where
  os : w'.os = w.os
  tape : w'.tape = w.tape
  output : w'.output = w.output
  size : w.heap.size ≤ w'.heap.size
  block : ∀ k, k < w.heap.size → k ≠ p → some k ≠ r → w'.heap[k]? = w.heap[k]?
theorem Keeps.refl (w : World) (p : Nat) (r : Option Nat) : Keeps w w p r := ⟨rfl, rfl, rfl, Nat.le_refl _, fun _ _ _ _ => rfl⟩
theorem Keeps.drewN (w : World) (q p : Nat) (r : Option Nat) : Keeps w (w.drewN q) p r := by
  have h := below_drewN (Below.refl w.heap.size w) q
  exact ⟨h.1, h.2, h.3, h.4, fun k hk _ _ => h.block k hk⟩
theorem Keeps.below {w w' : World} {p B : Nat} {r : Option Nat} (h : Keeps w w' p r) (hB : B ≤ w.heap.size) (hp : B ≤ p) (hr : ∀ k, r = some k → B ≤ k) : Below B w w' :=
  ⟨h.1, h.2, h.3, h.4, fun k hk => h.block k (by omega) (by omega) (fun e => by have := hr k e.symm; omega)⟩
theorem LineAt.drewN {w : World} {p : Nat} {v : Value} {zs : List Int} (h : LineAt w p v zs) (q : Nat) : LineAt (w.drewN q) p v zs := ⟨h.1, h.2, h.3, h.4⟩
theorem LineAt.form {w : World} {p : Nat} {v : Value} {zs : List Int} (h : LineAt w p v zs) : ∃ A c, v = .slice A zs.length c ∧ zs.length ≤ c ∧ c ≤ maxLen ∧ Rd w w.heap.size A zs.length (fun j => .int .i64 (zs.getD j 0)) := by
  obtain ⟨A, c, hv, h1, h2, _, hr⟩ := Rd.own h.own (fun j hj => zs_at hj)
  exact ⟨A, c, hv, h1, h2, hr⟩

theorem own_form {w : World} {base : Nat} {e : TypeId} {v : Value} {n : Nat} {xs : List Value} (h : w.ownsRow base e 1 v n xs) : ∃ A c, v = .slice A n c := by
  rcases h.2 with ⟨rfl, rfl⟩ | ⟨g, cap, cur, rfl, _⟩
  · exact ⟨none, 0, rfl⟩
  · exact ⟨_, cap, rfl⟩
theorem index_any {w : World} {p : Nat} {v : Value} {zs : List Int} (x : Int) (h : LineAt w p v zs) (hn : zs.length ≤ 100000) :
    Calls Try.prog 65 #[v, .int .i64 x] w fun e w' => e = .returned (.int .i64 (Lib.idxOf zs x)) ∧ w' = w := by
  have ho := h.own
  rcases ho.2 with ⟨rfl, h0⟩ | ⟨g, c, cur, rfl, _⟩
  · obtain rfl : zs = [] := List.eq_nil_of_length_eq_zero h0
    exact Try.slices_Index_int_empty none 0 x w
  · have := Try.slices_Index_int g 0 zs.length c zs x w (Nat.le_refl _) (by omega) (fun j hj => by rw [Nat.zero_add, ho.cellAt j (by omega)]; exact zs_at hj)
    rwa [List.take_of_length_le (Nat.le_refl _)] at this

theorem find_any {w : World} {p : Nat} {v : Value} {zs : List Int} (x : Int) (h : LineAt w p v zs) (hn : zs.length ≤ 100000) :
    Calls Try.prog 62 #[.pointer (some ⟨p, 0, none⟩), .int .i64 x] w fun e w' => e = .returned (.int .i64 (Lib.idxOf zs x)) ∧ w = w' := by
  have HI := Lib.hid (index_any x h hn)
  have hc := h.cell
  clear h
  go_enter Try.func62, Try.ntmps62
  go_wp2_with fail
  refine HI.out.mono ?_
  rintro e w' ⟨rfl, rfl⟩
  go_wp2
  go_ret
  exact ⟨rfl, rfl⟩

theorem place_any {w : World} {p : Nat} {v : Value} {zs : List Int} (x : Int) (h : LineAt w p v zs) (hn : zs.length ≤ 100000) :
    Calls Try.prog 52 #[.pointer (some ⟨p, 0, none⟩), .int .i64 x] w fun e w' => e = .returned (.tuple #[.int .i64 (max (Lib.idxOf zs x) 0), .bool (decide (0 ≤ Lib.idxOf zs x))]) ∧ w = w' := by
  have HI := Lib.hid (find_any x h hn)
  clear h
  generalize Lib.idxOf zs x = i at HI ⊢
  go_enter Try.func52, Try.ntmps52
  go_wp2_with fail
  refine HI.out.mono ?_
  rintro e w' ⟨rfl, rfl⟩
  go_wp2
  go_ret2
  exact ⟨rfl, rfl⟩
theorem place_nil (x : Int) (w : World) :
    Calls Try.prog 52 #[.pointer none, .int .i64 x] w fun e w' => e = .returned (.tuple #[.int .i64 0, .bool false]) ∧ w = w' := by
  go_enter Try.func52, Try.ntmps52
  go_wp2
  go_ret2
  exact ⟨rfl, rfl⟩
theorem len_nil (w : World) :
    Calls Try.prog 54 #[.pointer none] w fun e w' => e = .returned (.int .i64 0) ∧ w = w' := by
  go_enter Try.func54, Try.ntmps54
  go_wp2
  go_ret
  exact ⟨rfl, rfl⟩
theorem len_any {w : World} {p : Nat} {v : Value} {zs : List Int} (h : LineAt w p v zs) :
    Calls Try.prog 54 #[.pointer (some ⟨p, 0, none⟩)] w fun e w' => e = .returned (.int .i64 zs.length) ∧ w = w' := by
  obtain ⟨A, c, rfl, _⟩ := h.form
  have hc := h.cell
  clear h
  go_enter Try.func54, Try.ntmps54
  go_wp2
  go_ret
  exact ⟨rfl, rfl⟩
theorem push_nil (x : Int) (w : World) :
    Calls Try.prog 45 #[.pointer none, .int .i64 x] w fun e w' => e = .returned (.int .i64 1) ∧ w = w' := by
  go_enter Try.func45, Try.ntmps45
  go_wp2
  go_ret
  exact ⟨rfl, rfl⟩
theorem pop_nil (x : Int) (w : World) :
    Calls Try.prog 48 #[.pointer none, .int .i64 x] w fun e w' => e = .returned (.slice none 0 0) ∧ w = w' := by
  go_enter Try.func48, Try.ntmps48
  go_wp2
  go_ret
  exact ⟨rfl, rfl⟩
theorem list_nil (w : World) :
    Calls Try.prog 53 #[.pointer none] w fun e w' => e = .returned (.slice none 0 0) ∧ w = w' := by
  go_enter Try.func53, Try.ntmps53
  go_wp2
  go_ret
  exact ⟨rfl, rfl⟩
theorem drop_nil (x : Int) (w : World) :
    Calls Try.prog 51 #[.pointer none, .int .i64 x] w fun e w' => e = .returned (.bool false) ∧ w = w' := by
  go_enter Try.func51, Try.ntmps51
  go_wp2_with fail
  refine (place_nil x w).mono ?_
  rintro e w' ⟨rfl, rfl⟩
  go_wp2
  go_ret
  exact ⟨rfl, rfl⟩
set_option maxRecDepth 100000 in
/-- who is not yet in the line comes to its end -/
theorem push_ok {w : World} {p : Nat} {v : Value} {zs : List Int} (x : Int) (h : LineAt w p v zs) (hx : 0 ≤ x) (hi : Lib.idxOf zs x < 0) (hn : zs.length < 256) :
    Calls Try.prog 45 #[.pointer (some ⟨p, 0, none⟩), .int .i64 x] w fun e w' => e = .returned (.int .i64 0) ∧ ∃ v', LineAt w' p v' (zs ++ [x]) ∧ Keeps w w' p v.ownBlock := by
  obtain ⟨i0, hi0, hz0, hz1, hz2⟩ := info_parts info_int
  have HI := Lib.hid (find_any x h (by omega))
  have d1 : decide (x < 0) = false := by simp; omega
  have d2 : decide (0 ≤ Lib.idxOf zs x) = false := by simp; omega
  have d3 : decide ((256 : Int) ≤ zs.length) = false := by simp; omega
  obtain ⟨A, c, hv, _⟩ := h.form
  have hc := h.cell
  have hf := h.fz
  have hl := h.lt
  have ho := h.own
  clear h hi
  generalize Lib.idxOf zs x = i at HI d2
  have hln : (zs.map iw).length = zs.length := by simp
  generalize hN : zs.length = n at *
  subst hv
  go_enter Try.func45, Try.ntmps45
  go_wp2_with fail
  refine HI.out.mono ?_
  rintro e w' ⟨rfl, rfl⟩
  go_wp2_with (at_builtin; refine wpList_append_own _ rfl _ _ 57 rfl (p + 1) 3 i0 (.int .i64 0) 1 8 Try.underlying57 hi0 hz0 hz1 hz2 rfl (by decide) _ _ _ rfl (ho.alloc _) ⟨w.heap.size, 0, none⟩ 1 1 [.int .i64 x] rfl rfl (cell_one_new _ _ _) ?_ ?_ ?_ ?_ ?_)
  · intro u hu; simp at hu; subst hu; rfl
  · unfold maxLen; omega
  · omega
  · simp; omega
  intro v' w1 hown' hgrow _
  obtain ⟨A', c', rfl⟩ := own_form hown'
  have hne : some p ≠ (Value.slice A n c).ownBlock := fun e => by have := (ho.lt p e.symm).1; omega
  have hbp : w1.heap[p]? = w.heap[p]? := (hgrow.block p (by simp; omega) hne).trans (Below.heap_alloc w _ p hl)
  have hc1 : w1.cell? ⟨p, 0, none⟩ = some (.slice A n c) := (World.cell?_of_block (a := ⟨p, 0, none⟩) hbp).trans hc
  have hf1 : w1.frozen? ⟨p, 0, none⟩ = false := (World.frozen?_of_block (a := ⟨p, 0, none⟩) hbp).trans hf
  have hl1 : w.heap.size ≤ w1.heap.size := Nat.le_trans (by simp) hgrow.size
  have hK : Keeps w (w1.setCell ⟨p, 0, none⟩ (.slice A' (n + 1) c')) p (Value.slice A n c).ownBlock :=
    ⟨hgrow.os, hgrow.tape, hgrow.output, by simpa [World.setCell] using hl1, fun k hk h1 h2 => (Below.heap_setCell w1 ⟨p, 0, none⟩ (.slice A' (n + 1) c') k h1).trans ((hgrow.block k (by simp; omega) h2).trans (Below.heap_alloc w _ k hk))⟩
  have HK := Lib.hid hK
  have hown2 : (w1.setCell ⟨p, 0, none⟩ (.slice A' (n + 1) c')).ownsRow (p + 1) 3 1 (.slice A' (n + 1) c') (zs ++ [x]).length ((zs ++ [x]).map iw) := by
    rw [List.length_append, List.map_append, hN]; exact ownsRow_setCell_below hown' (by show p < p + 1; omega) _
  have HO := Lib.hid hown2
  have hL := Lib.hid (Nat.lt_of_lt_of_le hl hl1)
  clear hgrow hown' ho hK hown2 hbp hl1 hl hc hf hne hln hN
  go_wp2
  go_ret
  exact ⟨rfl, _, ⟨by simpa [World.setCell] using hL.out, World.cell?_setCell_same _ _ _ hc1, (World.frozen?_setCell _ _ _ _).trans hf1, HO.out⟩, HK.out⟩
end Go.Proofs.Ytblpekeikmblmaa.LineW
