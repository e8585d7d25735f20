/- How an argument that is a slice of one-cell elements reads: lemmas for a law's last step, over any program. No conditions. -/
import Derived.Test.YtdjeedmiicagcaaWords
import Derived.ProofKit
import Derived.Deep.Slices
namespace Go.Proofs.Ytdjeedmiicagcaa.Opens
open Go.ChangeShapes Go.WideShapes Go.ChangeAt Go.RowKit Go.Deep
open Go.Proofs.Ytdjeedmiicagcaa.Words

section
variable {H : Type} {enc : TypeId × Value → H} {P : Program} {w : World} {base : Nat} {spare : Nat → Bool} {held : Bool}

theorem open_row {t e : TypeId} {A : Option Addr} {n c : Nat} {d : DataW H} {p : List MemPlace} (ht : P.underlying t = some (.slice e)) (hc : P.cellsOf e = 1)
    (h : DataW.Trod enc P w base spare held t (.slice A n c) d p) :
    n ≤ c ∧ c ≤ maxLen ∧ (A = none → n = 0 ∧ c = 0) ∧ ∃ V : Nat → Value, Rd w w.heap.size A n V ∧ ∀ i, i < n → ∃ (m : Nat) (y : DataW H × List MemPlace), DataW.trod enc P w base spare held m e [V i] = some y := by
  obtain ⟨fuel, hf⟩ := h
  rcases open_slice1 ht hc hf with ⟨hcs, _⟩ | ⟨a, len, cap, m, k, V, D, Pl, hcs, _, hl, hm, hmm, _, hx⟩
  · simp [Value.cells] at hcs
    obtain ⟨rfl, rfl, rfl⟩ := hcs
    exact ⟨Nat.le_refl _, by unfold maxLen; omega, fun _ => ⟨rfl, rfl⟩, fun _ => .bool false, Rd.nil, fun i hi => absurd hi (by omega)⟩
  · simp [Value.cells] at hcs
    obtain ⟨rfl, rfl, rfl⟩ := hcs
    have hle : n ≤ m := by rw [hmm]; split <;> omega
    refine ⟨hl, hm, (fun h => by cases h), V, fun j hj => ⟨a, rfl, ?_, (hx j (by omega)).1⟩, fun i hi => ⟨k, _, (hx i (by omega)).2⟩⟩
    have := block_lt_of_cell (hx j (by omega)).1
    rwa [Words.block_add] at this

theorem open_bools {t e : TypeId} {A : Option Addr} {n c : Nat} {d : DataW H} {p : List MemPlace} (ht : P.underlying t = some (.slice e)) (he : P.underlying e = some .bool) (hc : P.cellsOf e = 1)
    (h : DataW.Trod enc P w base spare held t (.slice A n c) d p) :
    n ≤ c ∧ c ≤ maxLen ∧ ∃ l : List Bool, l.length = n ∧ Rd w w.heap.size A n (fun j => .bool (l.getD j false)) := by
  obtain ⟨h1, h2, _, V, hr, hv⟩ := open_row ht hc h
  refine ⟨h1, h2, (List.range n).map (fun i => match V i with | .bool b => b | _ => false), by simp, hr.congr fun j hj => ?_⟩
  obtain ⟨m, y, hy⟩ := hv j hj
  obtain ⟨b, hb, _⟩ := DataW.trod_bool he hy
  injection hb with hb _
  simp [hj, hb]

theorem open_nums {t e : TypeId} {k : IntKind} {A : Option Addr} {n c : Nat} {d : DataW H} {p : List MemPlace} (ht : P.underlying t = some (.slice e)) (he : P.underlying e = some (.int k)) (hc : P.cellsOf e = 1)
    (h : DataW.Trod enc P w base spare held t (.slice A n c) d p) :
    n ≤ c ∧ c ≤ maxLen ∧ ∃ l : List Int, l.length = n ∧ (∀ z ∈ l, (Lit.int k z).wf = true) ∧ Rd w w.heap.size A n (fun j => .int k (l.getD j 0)) := by
  obtain ⟨h1, h2, _, V, hr, hv⟩ := open_row ht hc h
  refine ⟨h1, h2, (List.range n).map (fun i => match V i with | .int _ z => z | _ => 0), by simp, fun z hz => ?_, hr.congr fun j hj => ?_⟩
  · rw [List.mem_map] at hz
    obtain ⟨j, hj, rfl⟩ := hz
    rw [List.mem_range] at hj
    obtain ⟨m, y, hy⟩ := hv j hj
    obtain ⟨b, hb, _, hw⟩ := DataW.trod_int he hy
    injection hb with hb _
    rw [hb]; exact hw
  · obtain ⟨m, y, hy⟩ := hv j hj
    obtain ⟨b, hb, _, _⟩ := DataW.trod_int he hy
    injection hb with hb _
    simp [hj, hb]

theorem u8_bd {x : Int} (h : (Lit.int .u8 x).wf = true) : 0 ≤ x ∧ x < 256 := by
  simp [Lit.wf, IntKind.min, IntKind.max, IntKind.signed, IntKind.bits] at h
  exact ⟨by omega, by omega⟩
theorem i64_bd {x : Int} (h : (Lit.int .i64 x).wf = true) : -9223372036854775808 ≤ x ∧ x ≤ 9223372036854775807 := by
  simp [Lit.wf, IntKind.min, IntKind.max, IntKind.signed, IntKind.bits] at h
  exact ⟨by omega, by omega⟩
theorem u64_nat {x : Int} (h : (Lit.int .u64 x).wf = true) : ∃ n : Nat, x = n ∧ n < 18446744073709551616 := by
  simp [Lit.wf, IntKind.min, IntKind.max, IntKind.signed, IntKind.bits] at h
  exact ⟨x.toNat, by omega, by omega⟩

theorem open_bytes {t e : TypeId} {A : Option Addr} {n c : Nat} {d : DataW H} {p : List MemPlace} (ht : P.underlying t = some (.slice e)) (he : P.underlying e = some (.int .u8)) (hc : P.cellsOf e = 1)
    (h : DataW.Trod enc P w base spare held t (.slice A n c) d p) :
    n ≤ c ∧ c ≤ maxLen ∧ ∃ l : List Nat, l.length = n ∧ (∀ b ∈ l, b < 256) ∧ Rd w w.heap.size A n (fun j => .int .u8 (l.getD j 0 : Nat)) := by
  obtain ⟨h1, h2, l, hl, hw, hr⟩ := open_nums ht he hc h
  refine ⟨h1, h2, l.map Int.toNat, by simp [hl], fun b hb => ?_, hr.congr fun j hj => ?_⟩
  · rw [List.mem_map] at hb
    obtain ⟨z, hz, rfl⟩ := hb
    have := u8_bd (hw z hz)
    omega
  · have hz := u8_bd (hw _ (List.getElem_mem (show j < l.length by omega)))
    simp only [List.getD_eq_getElem?_getD, List.getElem?_map, List.getElem?_eq_getElem (show j < l.length by omega), Option.map_some, Option.getD_some]
    congr 1
    omega
theorem open_words {t e : TypeId} {A : Option Addr} {n c : Nat} {d : DataW H} {p : List MemPlace} (ht : P.underlying t = some (.slice e)) (he : P.underlying e = some (.int .u64)) (hc : P.cellsOf e = 1)
    (h : DataW.Trod enc P w base spare held t (.slice A n c) d p) :
    n ≤ c ∧ c ≤ maxLen ∧ ∃ l : List Nat, l.length = n ∧ (∀ b ∈ l, b < 18446744073709551616) ∧ Rd w w.heap.size A n (fun j => .int .u64 (l.getD j 0 : Nat)) := by
  obtain ⟨h1, h2, l, hl, hw, hr⟩ := open_nums ht he hc h
  refine ⟨h1, h2, l.map Int.toNat, by simp [hl], fun b hb => ?_, hr.congr fun j hj => ?_⟩
  · rw [List.mem_map] at hb
    obtain ⟨z, hz, rfl⟩ := hb
    obtain ⟨n, rfl, hn⟩ := u64_nat (hw z hz)
    simpa using hn
  · obtain ⟨n, hn, _⟩ := u64_nat (hw _ (List.getElem_mem (show j < l.length by omega)))
    simp only [List.getD_eq_getElem?_getD, List.getElem?_map, List.getElem?_eq_getElem (show j < l.length by omega), Option.map_some, Option.getD_some]
    rw [hn]; simp
end
end Go.Proofs.Ytdjeedmiicagcaa.Opens
