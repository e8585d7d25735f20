/- The walks of the line, sixteenth part: what a play keeps from step to step. No program in sight but memory. No conditions. -/
import Derived.Test.YtblpekeikmblmaaLine15
namespace Go.Proofs.Ytblpekeikmblmaa.LineW
open Go.RowKit
open Go.Proofs.Ytblpekeikmblmaa.Words

theorem Keeps.cellAt {w w' : World} {p : Nat} {r : Option Nat} (hK : Keeps w w' p r) {a : Addr} {v : Value} (hl : a.block < w.heap.size) (h1 : a.block ≠ p) (h2 : some a.block ≠ r) (h : w.cell? a = some v) : w'.cell? a = some v :=
  (World.cell?_of_block (a := a) (hK.block a.block hl h1 h2)).trans h
/-- a play's state: the line at block p holds zs, and so does the document's list at A, apart from it -/
structure St (w0 wr : World) (p : Nat) (v : Value) (A : Option Addr) (n : Nat) (zs : List Int) : Prop where
  L : LineAt wr p v zs
  ln : zs.length = n
  le : n ≤ 256
  nd : ∀ k, k < zs.length → ∀ j, j < k → zs.getD j 0 ≠ zs.getD k 0
  R : Rd wr wr.heap.size A n (fun j => .int .i64 (zs.getD j 0))
  sep : 0 < n → ∀ ad, A = some ad → ad.block ≠ p ∧ some ad.block ≠ v.ownBlock
  wp : w0.heap.size ≤ p
  bb : Below w0.heap.size w0 wr
theorem St.to {w0 wr w' : World} {p n : Nat} {v : Value} {A : Option Addr} {zs : List Int} (h : St w0 wr p v A n zs) (hb : Below wr.heap.size wr w') : St w0 w' p v A n zs :=
  ⟨h.L.to hb, h.ln, h.le, h.nd, h.R.to hb, h.sep, h.wp, h.bb.trans (hb.mono h.bb.size)⟩
/-- the step's own variable at block ob -/
structure Ov (wr : World) (p : Nat) (v : Value) (ob : Nat) (x : Int) : Prop where
  lt : ob < wr.heap.size
  np : ob ≠ p
  nv : some ob ≠ v.ownBlock
  cell : wr.cell? ⟨ob, 1, none⟩ = some (.int .i64 x)
theorem Ov.to {wr w' : World} {p : Nat} {v : Value} {ob : Nat} {x : Int} (h : Ov wr p v ob x) (hb : Below wr.heap.size wr w') : Ov w' p v ob x :=
  ⟨Nat.lt_of_lt_of_le h.lt hb.size, h.np, h.nv, (hb.cell (p := ⟨ob, 1, none⟩) h.lt).trans h.cell⟩
theorem Ov.new {w0 wr : World} {p n : Nat} {v : Value} {A : Option Addr} {zs : List Int} (h : St w0 wr p v A n zs) (k x : Int) (t : TypeId) : Ov (wr.alloc (.cells #[.int .i64 k, .int .i64 x] t)) p v wr.heap.size x :=
  ⟨by simp, by have := h.L.lt; omega, fun e => by have := (h.L.own.lt _ e.symm).2; omega, by rw [World.cell?_alloc_at _ _ _ _ rfl]; rfl⟩
theorem Ov.step {wr w' : World} {p : Nat} {v v' : Value} {ob : Nat} {x : Int} (h : Ov wr p v ob x) (hK : Keeps wr w' p v.ownBlock) (hv : v'.ownBlock = v.ownBlock ∨ ∃ g, v'.ownBlock = some g ∧ wr.heap.size ≤ g) : Ov w' p v' ob x :=
  ⟨Nat.lt_of_lt_of_le h.lt hK.size, h.np, fun e => by
    rcases hv with hv | ⟨g, hg, hle⟩
    · exact h.nv (e.trans hv)
    · rw [hg] at e
      have e' : ob = g := Option.some.inj e
      have := h.lt
      omega, hK.cellAt (a := ⟨ob, 1, none⟩) h.lt h.np h.nv h.cell⟩
/-- a step of both: a new list of the document's, behind block b, and the line changed -/
theorem St.step {w0 wr w' : World} {p n n' b : Nat} {v v' : Value} {A B : Option Addr} {zs ys : List Int} (h : St w0 wr p v A n zs) (hB : Row wr b B ys) (hbp : p < b) (hbv : ∀ g, v.ownBlock = some g → g < b) (hl : ys.length = n') (hle : n' ≤ 256)
    (hnd : ∀ k, k < ys.length → ∀ j, j < k → ys.getD j 0 ≠ ys.getD k 0) (hL : LineAt w' p v' ys) (hK : Keeps wr w' p v.ownBlock) (hv : v'.ownBlock = v.ownBlock ∨ ∃ g, v'.ownBlock = some g ∧ wr.heap.size ≤ g) : St w0 w' p v' B n' ys := by
  obtain ⟨hR, hlo⟩ := hB
  have hne : ∀ ad, B = some ad → ad.block ≠ p ∧ some ad.block ≠ v.ownBlock := fun ad ha => ⟨by have := hlo ad ha; omega, fun e => by have h1 := hbv ad.block e.symm; have := hlo ad ha; omega⟩
  rw [hl] at hR
  refine ⟨hL, hl, hle, hnd, Rd.keeps hR hK hne, fun h0 ad ha => ⟨(hne ad ha).1, fun e => ?_⟩, h.wp, h.bb.trans (h.L.below hK h.wp)⟩
  rcases hv with hv | ⟨g, hg, hge⟩
  · exact (hne ad ha).2 (e.trans hv)
  · rw [hg] at e
    have e' : ad.block = g := Option.some.inj e
    have hlt : ad.block < wr.heap.size := by
      obtain ⟨ad', ha', hlt, _⟩ := hR 0 h0
      rw [ha] at ha'
      cases ha'
      exact hlt
    omega

theorem nd_append {zs : List Int} {x : Int} (h : ∀ k, k < zs.length → ∀ j, j < k → zs.getD j 0 ≠ zs.getD k 0) (hi : Lib.idxOf zs x < 0) : ∀ k, k < (zs ++ [x]).length → ∀ j, j < k → (zs ++ [x]).getD j 0 ≠ (zs ++ [x]).getD k 0 := by
  intro k hk j hj
  simp at hk
  have hj' : j < zs.length := by omega
  have e1 : (zs ++ [x]).getD j 0 = zs.getD j 0 := by simp only [List.getD_eq_getElem?_getD, List.getElem?_append_left hj']
  rw [e1]
  by_cases h' : k < zs.length
  · rw [show (zs ++ [x]).getD k 0 = zs.getD k 0 by simp only [List.getD_eq_getElem?_getD, List.getElem?_append_left h']]
    exact h k h' j hj
  · obtain rfl : k = zs.length := by omega
    rw [show (zs ++ [x]).getD zs.length 0 = x by simp]
    intro e
    rcases least (fun i => zs.getD i 0 = x) zs.length with ⟨i, hi1, h1, h2⟩ | hno
    · have := Lib.idxOf_hit zs zs.length i x hi1 (Nat.le_refl _) h1 h2
      rw [List.take_of_length_le (Nat.le_refl _)] at this
      omega
    · exact hno j hj' e
theorem nd_iff {zs : List Int} : (∀ k, k < zs.length → ∀ j, j < k → zs.getD j 0 ≠ zs.getD k 0) ↔ zs.Pairwise (· ≠ ·) := by
  rw [List.pairwise_iff_getElem]
  constructor
  · intro h i j hi hj hij
    have := h j hj i hij
    simpa [List.getD_eq_getElem?_getD, List.getElem?_eq_getElem hi, List.getElem?_eq_getElem hj] using this
  · intro h k hk j hj
    have := h j k (by omega) hk hj
    simpa [List.getD_eq_getElem?_getD, List.getElem?_eq_getElem hk, List.getElem?_eq_getElem (show j < zs.length by omega)] using this
theorem nd_drop {zs : List Int} (m : Nat) (h : ∀ k, k < zs.length → ∀ j, j < k → zs.getD j 0 ≠ zs.getD k 0) : ∀ k, k < (zs.drop m).length → ∀ j, j < k → (zs.drop m).getD j 0 ≠ (zs.drop m).getD k 0 :=
  nd_iff.2 ((nd_iff.1 h).sublist (List.drop_sublist _ _))
theorem nd_flt {zs : List Int} (x : Int) (h : ∀ k, k < zs.length → ∀ j, j < k → zs.getD j 0 ≠ zs.getD k 0) : ∀ k, k < (flt zs x).length → ∀ j, j < k → (flt zs x).getD j 0 ≠ (flt zs x).getD k 0 :=
  nd_iff.2 ((nd_iff.1 h).sublist List.filter_sublist)
/-- Drop tells whether somebody was there -/
theorem drop_both {w : World} {p : Nat} {v : Value} {zs : List Int} (x : Int) (b : Bool) (h : LineAt w p v zs) (hn : zs.length ≤ 100000) (hd : ∀ k, k < zs.length → ∀ j, j < k → zs.getD j 0 ≠ zs.getD k 0) (hb : decide (0 ≤ Lib.idxOf zs x) = b) :
    Calls Try.prog 51 #[.pointer (some ⟨p, 0, none⟩), .int .i64 x] w fun e w' => e = .returned (.bool b) ∧ ∃ v', LineAt w' p v' (flt zs x) ∧ Keeps w w' p v.ownBlock ∧ v'.ownBlock = v.ownBlock := by
  rcases least (fun i => zs.getD i 0 = x) zs.length with ⟨i, hi, h1, h2⟩ | hno
  · have hz : zs[i]? = some x := by rw [List.getD_eq_getElem?_getD, List.getElem?_eq_getElem hi] at h1; rw [List.getElem?_eq_getElem hi]; exact congrArg some h1
    have hidx : Lib.idxOf zs x = i := by
      have := Lib.idxOf_hit zs zs.length i x hi (Nat.le_refl _) h1 h2
      rwa [List.take_of_length_le (Nat.le_refl _)] at this
    rw [hidx] at hb
    obtain rfl : b = true := by rw [← hb]; simp
    refine (drop_yes x i hidx hz h hn).mono ?_
    rintro e w' ⟨rfl, v', hL, hK, hV⟩
    rw [← flt_one hz (fun j hj hne e => by
      rcases Nat.lt_or_ge j i with h' | h'
      · exact hd i hi j h' (e.trans h1.symm)
      · exact hd j hj i (by omega) (h1.trans e.symm))] at hL
    exact ⟨rfl, v', hL, hK, hV⟩
  · have hidx : Lib.idxOf zs x = -1 := by
      have := Lib.idxOf_miss zs zs.length x hno
      rwa [List.take_of_length_le (Nat.le_refl _)] at this
    rw [hidx] at hb
    obtain rfl : b = false := by rw [← hb]; decide
    refine (drop_no x hidx h hn).mono ?_
    rintro e w' ⟨rfl, rfl⟩
    rw [← flt_none (zs := zs) (x := x) (fun z hz => by
      obtain ⟨j, hj, rfl⟩ := List.mem_iff_getElem.1 hz
      have := hno j hj
      rwa [List.getD_eq_getElem?_getD, List.getElem?_eq_getElem hj] at this)] at h
    exact ⟨rfl, v, h, Keeps.refl _ _ _, rfl⟩
end Go.Proofs.Ytblpekeikmblmaa.LineW
