/- How an argument that is a slice of structs of one-cell fields reads: lemmas for a law's last step, over any program. No conditions. -/
import Derived.Test.YtdjeedmiicagcaaOpen
import Derived.Deep.Slices
import Derived.Deep.Fields
import Derived.ChangeSame
namespace Go.Proofs.Ytdjeedmiicagcaa.Opens
open Go.ChangeShapes Go.WideShapes Go.ChangeAt Go.RowKit Go.Deep
open Go.Proofs.Ytdjeedmiicagcaa.Words

section
variable {H : Type} {enc : TypeId × Value → H} {P : Program} {w : World} {base : Nat} {spare : Nat → Bool} {held : Bool}
theorem open_slice_fields {t e : TypeId} {fs : Array Field} {fuel : Nat} {cs : List Value} {x : DataW H × List MemPlace} (ht : P.underlying t = some (.slice e)) (he : P.underlying e = some (.struct fs))
    (hone : oneCellFields P fs = true) (hC : P.cellsOf e = fs.size) (h : DataW.trod enc P w base spare held fuel t cs = some x) :
    (cs = [.slice none 0 0] ∧ x = (.nil, [])) ∨
    ∃ (a : Addr) (len cap m : Nat), cs = [.slice (some a) len cap] ∧ base ≤ a.block ∧ len ≤ cap ∧ cap ≤ maxLen ∧ m = (if spare a.block then cap else len) ∧
      ∀ i, i < m → ∃ (ys : List (DataW H × List MemPlace)) (n : Nat), ys.length = fs.size ∧
        ∀ (j : Nat) (f : Field), fs[j]? = some f → ∃ (v : Value) (y : DataW H × List MemPlace), w.cell? (a.add (i * fs.size + j)) = some v ∧ ys[j]? = some y ∧ DataW.trod enc P w base spare held n f.type [v] = some y := by
  rcases open_slice ht h with h0 | ⟨a, len, cap, m, n, D, Pl, hcs, hb, hl, hm, hmm, hx, hi⟩
  · exact .inl h0
  · refine .inr ⟨a, len, cap, m, hcs, hb, hl, hm, hmm, fun i him => ?_⟩
    obtain ⟨cs', hc, ht'⟩ := hi i him
    rw [hC] at hc
    obtain ⟨ys, n', hn', hy, hlen, hyl, hf⟩ := DataW.trod_struct he ht'
    obtain ⟨_, hcl, hat⟩ := World.cells?_some hc
    refine ⟨ys, n', hyl, fun j f hj => ?_⟩
    obtain ⟨ho, hk⟩ := hone_of hone j f hj
    have hjl : j < fs.size := (Array.getElem?_eq_some_iff.1 hj).1
    have hcell := hat j hjl
    have hv : cs'[j]? = some (cs'[j]'(by omega)) := List.getElem?_eq_getElem (by omega)
    have h1 := hf j f hj
    rw [ho, hk] at h1
    have hone' : (cs'.drop j).take 1 = [cs'[j]'(by omega)] := by
      rw [List.drop_eq_getElem_cons (by omega)]
      rfl
    rw [hone'] at h1
    have hys : ys[j]? = some (ys[j]'(by omega)) := List.getElem?_eq_getElem (by omega)
    refine ⟨_, _, ?_, hys, h1.trans hys⟩
    rw [← Go.Deep.add_add, hcell, hv]
/-- what a cell holds -/
def cellOf (w : World) (A : Option Addr) (k : Nat) : Value := match A with
  | none => .bool false
  | some a => match w.cell? (a.add k) with
    | none => .bool false
    | some v => v
theorem open_fields {t e : TypeId} {fs : Array Field} {A : Option Addr} {n c : Nat} {d : DataW H} {p : List MemPlace} (ht : P.underlying t = some (.slice e)) (he : P.underlying e = some (.struct fs))
    (hone : oneCellFields P fs = true) (hC : P.cellsOf e = fs.size) (hfs : 0 < fs.size) (h : DataW.Trod enc P w base spare held t (.slice A n c) d p) :
    n ≤ c ∧ c ≤ maxLen ∧ ∀ i, i < n → ∃ ad, A = some ad ∧ ad.block < w.heap.size ∧ ∀ j f, fs[j]? = some f → w.cell? (ad.add (i * fs.size + j)) = some (cellOf w A (i * fs.size + j)) ∧ ∃ (m : Nat) (y : DataW H × List MemPlace), DataW.trod enc P w base spare held m f.type [cellOf w A (i * fs.size + j)] = some y := by
  obtain ⟨fuel, hf⟩ := h
  rcases open_slice_fields ht he hone hC hf with ⟨hcs, _⟩ | ⟨a, len, cap, m, hcs, _, hl, hm, hmm, hx⟩
  · simp [Value.cells] at hcs
    obtain ⟨rfl, rfl, rfl⟩ := hcs
    exact ⟨Nat.le_refl _, by unfold maxLen; omega, fun i hi => absurd hi (by omega)⟩
  · simp [Value.cells] at hcs
    obtain ⟨rfl, rfl, rfl⟩ := hcs
    have hle : n ≤ m := by rw [hmm]; split <;> omega
    refine ⟨hl, hm, fun i hi => ⟨a, rfl, ?_, fun j f hj => ?_⟩⟩
    · obtain ⟨ys, n', _, hall⟩ := hx i (by omega)
      obtain ⟨v, y, hc, _⟩ := hall 0 fs[0] (Array.getElem?_eq_getElem hfs)
      have := block_lt_of_cell hc
      rwa [Words.block_add] at this
    · obtain ⟨ys, n', _, hall⟩ := hx i (by omega)
      obtain ⟨v, y, hc, _, hy⟩ := hall j f hj
      have e : cellOf w (some a) (i * fs.size + j) = v := by simp only [cellOf, hc]
      rw [e]
      exact ⟨hc, _, _, hy⟩
def toInt (v : Value) : Int := match v with | .int _ z => z | _ => 0
def toBool (v : Value) : Bool := match v with | .bool b => b | _ => false
theorem cell_int {t : TypeId} {k : IntKind} {v : Value} {m : Nat} {y : DataW H × List MemPlace} (he : P.underlying t = some (.int k)) (h : DataW.trod enc P w base spare held m t [v] = some y) : v = .int k (toInt v) ∧ (Lit.int k (toInt v)).wf = true := by
  obtain ⟨b, hb, _, hw⟩ := DataW.trod_int he h
  injection hb with hb _
  rw [hb]
  exact ⟨rfl, hw⟩
theorem cell_bool {t : TypeId} {v : Value} {m : Nat} {y : DataW H × List MemPlace} (he : P.underlying t = some .bool) (h : DataW.trod enc P w base spare held m t [v] = some y) : v = .bool (toBool v) := by
  obtain ⟨b, hb, _⟩ := DataW.trod_bool he h
  injection hb with hb _
  rw [hb]
  rfl
end
end Go.Proofs.Ytdjeedmiicagcaa.Opens
