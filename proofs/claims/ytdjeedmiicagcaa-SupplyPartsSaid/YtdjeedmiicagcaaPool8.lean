/- How arguments that are slices of deposits and of dues read: lemmas for a law's last step. No conditions. -/
import Derived.Test.YtdjeedmiicagcaaPool2
import Derived.Test.YtdjeedmiicagcaaStructs
namespace Go.Proofs.Ytdjeedmiicagcaa.PoolW
open Go.ChangeShapes Go.WideShapes Go.ChangeAt Go.RowKit Go.Deep
open Go.Proofs.Ytdjeedmiicagcaa.Words Go.Proofs.Ytdjeedmiicagcaa.PurseW

theorem SRow.of_cells {α : Type} {enc : α → List Value} {sz : Nat} (henc : ∀ d, (enc d).length = sz) (hsz : 0 < sz) {w : World} {B n : Nat} {A : Option Addr} {ds : List α} (hl : ds.length = n)
    (h : ∀ i d, ds[i]? = some d → ∃ ad, A = some ad ∧ ad.block < B ∧ ∀ j, j < sz → w.cell? (ad.add (i * sz + j)) = (enc d)[j]?) : SRow w B A n sz (flat enc ds) := by
  refine ⟨by rw [flat_len henc, hl], fun q hq => ?_⟩
  have hi : q / sz < n := Nat.div_lt_of_lt_mul (by rw [Nat.mul_comm]; exact hq)
  have hj : q % sz < sz := Nat.mod_lt _ hsz
  have e : q = q / sz * sz + q % sz := by rw [Nat.mul_comm]; exact (Nat.div_add_mod q sz).symm
  obtain ⟨d, hd⟩ : ∃ d, ds[q / sz]? = some d := ⟨_, List.getElem?_eq_getElem (by omega)⟩
  obtain ⟨ad, hA, hb, hc⟩ := h _ d hd
  refine ⟨ad, hA, hb, ?_⟩
  have h1 := hc (q % sz) hj
  have h2 := flat_at henc ds (q / sz) (q % sz) d hd hj
  rw [← e] at h1 h2
  rw [h1, vat, h2]
  have h3 : q % sz < (enc d).length := by rw [henc]; exact hj
  rw [List.getElem?_eq_getElem h3]; rfl
section
variable {H : Type} {enc : TypeId × Value → H} {P : Program} {w : World} {base : Nat} {spare : Nat → Bool} {held : Bool}
theorem open_none {t e : TypeId} {A : Option Addr} {n c : Nat} {d : DataW H} {p : List MemPlace} (ht : P.underlying t = some (.slice e)) (h : DataW.Trod enc P w base spare held t (.slice A n c) d p) : A = none → n = 0 ∧ c = 0 := by
  obtain ⟨fuel, hf⟩ := h
  rcases open_slice ht hf with ⟨hcs, _⟩ | ⟨a, len, cap, m, n', D, Pl, hcs, _⟩
  · simp [Value.cells] at hcs
    obtain ⟨rfl, rfl, rfl⟩ := hcs
    exact fun _ => ⟨rfl, rfl⟩
  · simp [Value.cells] at hcs
    obtain ⟨rfl, rfl, rfl⟩ := hcs
    exact fun h => by cases h
def depOf (w : World) (A : Option Addr) (i : Nat) : Dep := ⟨Opens.toInt (Opens.cellOf w A (i * 4)), Opens.toInt (Opens.cellOf w A (i * 4 + 1)), (Opens.toInt (Opens.cellOf w A (i * 4 + 2))).toNat, Opens.toBool (Opens.cellOf w A (i * 4 + 3))⟩
def dueOf (w : World) (A : Option Addr) (i : Nat) : Du := ⟨Opens.toInt (Opens.cellOf w A (i * 3)), Opens.toInt (Opens.cellOf w A (i * 3 + 1)), (Opens.toInt (Opens.cellOf w A (i * 3 + 2))).toNat⟩
/-- numbers within what their types hold -/
def Dep.Ok (d : Dep) : Prop := (-9223372036854775808 ≤ d.ac ∧ d.ac ≤ 9223372036854775807) ∧ (-9223372036854775808 ≤ d.me ∧ d.me ≤ 9223372036854775807) ∧ d.am < 18446744073709551616
def Du.Ok (d : Du) : Prop := (-9223372036854775808 ≤ d.ac ∧ d.ac ≤ 9223372036854775807) ∧ (-9223372036854775808 ≤ d.ti ∧ d.ti ≤ 9223372036854775807) ∧ d.am < 18446744073709551616
theorem u64_back {v : Value} (h1 : v = .int .u64 (Opens.toInt v)) (h2 : (Lit.int .u64 (Opens.toInt v)).wf = true) : v = .int .u64 ((Opens.toInt v).toNat : Nat) ∧ (Opens.toInt v).toNat < 18446744073709551616 := by
  obtain ⟨n, hn, hlt⟩ := Opens.u64_nat h2
  rw [hn] at h1 ⊢
  exact ⟨by rw [Int.toNat_natCast]; exact h1, by rw [Int.toNat_natCast]; exact hlt⟩
theorem open_deps {t e : TypeId} {f0 f1 f2 f3 : Field} {A : Option Addr} {n c : Nat} {d : DataW H} {p : List MemPlace} (ht : P.underlying t = some (.slice e)) (he : P.underlying e = some (.struct #[f0, f1, f2, f3]))
    (hone : oneCellFields P #[f0, f1, f2, f3] = true) (hC : P.cellsOf e = 4) (h0 : P.underlying f0.type = some (.int .i64)) (h1 : P.underlying f1.type = some (.int .i64)) (h2 : P.underlying f2.type = some (.int .u64)) (h3 : P.underlying f3.type = some .bool)
    (h : DataW.Trod enc P w base spare held t (.slice A n c) d p) : n ≤ c ∧ c ≤ maxLen ∧ (A = none → n = 0 ∧ c = 0) ∧ ∃ ds : List Dep, SRow w w.heap.size A n 4 (flat Dep.enc ds) ∧ ∀ d ∈ ds, d.Ok := by
  obtain ⟨k1, k2, hx⟩ := Opens.open_fields ht he hone hC (by simp) h
  refine ⟨k1, k2, open_none ht h, (List.range n).map (depOf w A), SRow.of_cells Dep.len (by omega) (by simp) fun i d hd => ?_, fun d hd => ?_⟩
  · have hi : i < n := by have := (List.getElem?_eq_some_iff.1 hd).1; simpa using this
    rw [List.getElem?_map, List.getElem?_range hi] at hd
    obtain rfl := Option.some.inj hd
    obtain ⟨ad, hA, hb, hf⟩ := hx i hi
    obtain ⟨c0, m0, y0, t0⟩ := hf 0 f0 rfl
    obtain ⟨c1, m1, y1, t1⟩ := hf 1 f1 rfl
    obtain ⟨c2, m2, y2, t2⟩ := hf 2 f2 rfl
    obtain ⟨c3, m3, y3, t3⟩ := hf 3 f3 rfl
    refine ⟨ad, hA, hb, fun j hj => ?_⟩
    rcases (show j = 0 ∨ j = 1 ∨ j = 2 ∨ j = 3 by omega) with rfl | rfl | rfl | rfl
    · exact c0.trans (congrArg some (Opens.cell_int h0 t0).1)
    · exact c1.trans (congrArg some (Opens.cell_int h1 t1).1)
    · exact c2.trans (congrArg some (u64_back (Opens.cell_int h2 t2).1 (Opens.cell_int h2 t2).2).1)
    · exact c3.trans (congrArg some (Opens.cell_bool h3 t3))
  · rw [List.mem_map] at hd
    obtain ⟨i, hi, rfl⟩ := hd
    rw [List.mem_range] at hi
    obtain ⟨ad, hA, hb, hf⟩ := hx i hi
    obtain ⟨c0, m0, y0, t0⟩ := hf 0 f0 rfl
    obtain ⟨c1, m1, y1, t1⟩ := hf 1 f1 rfl
    obtain ⟨c2, m2, y2, t2⟩ := hf 2 f2 rfl
    exact ⟨Opens.i64_bd (Opens.cell_int h0 t0).2, Opens.i64_bd (Opens.cell_int h1 t1).2, (u64_back (Opens.cell_int h2 t2).1 (Opens.cell_int h2 t2).2).2⟩
theorem open_dues {t e : TypeId} {f0 f1 f2 : Field} {A : Option Addr} {n c : Nat} {d : DataW H} {p : List MemPlace} (ht : P.underlying t = some (.slice e)) (he : P.underlying e = some (.struct #[f0, f1, f2]))
    (hone : oneCellFields P #[f0, f1, f2] = true) (hC : P.cellsOf e = 3) (h0 : P.underlying f0.type = some (.int .i64)) (h1 : P.underlying f1.type = some (.int .i64)) (h2 : P.underlying f2.type = some (.int .u64))
    (h : DataW.Trod enc P w base spare held t (.slice A n c) d p) : n ≤ c ∧ c ≤ maxLen ∧ (A = none → n = 0 ∧ c = 0) ∧ ∃ ds : List Du, SRow w w.heap.size A n 3 (flat Du.enc ds) ∧ ∀ d ∈ ds, d.Ok := by
  obtain ⟨k1, k2, hx⟩ := Opens.open_fields ht he hone hC (by simp) h
  refine ⟨k1, k2, open_none ht h, (List.range n).map (dueOf w A), SRow.of_cells Du.len (by omega) (by simp) fun i d hd => ?_, fun d hd => ?_⟩
  · have hi : i < n := by have := (List.getElem?_eq_some_iff.1 hd).1; simpa using this
    rw [List.getElem?_map, List.getElem?_range hi] at hd
    obtain rfl := Option.some.inj hd
    obtain ⟨ad, hA, hb, hf⟩ := hx i hi
    obtain ⟨c0, m0, y0, t0⟩ := hf 0 f0 rfl
    obtain ⟨c1, m1, y1, t1⟩ := hf 1 f1 rfl
    obtain ⟨c2, m2, y2, t2⟩ := hf 2 f2 rfl
    refine ⟨ad, hA, hb, fun j hj => ?_⟩
    rcases (show j = 0 ∨ j = 1 ∨ j = 2 by omega) with rfl | rfl | rfl
    · exact c0.trans (congrArg some (Opens.cell_int h0 t0).1)
    · exact c1.trans (congrArg some (Opens.cell_int h1 t1).1)
    · exact c2.trans (congrArg some (u64_back (Opens.cell_int h2 t2).1 (Opens.cell_int h2 t2).2).1)
  · rw [List.mem_map] at hd
    obtain ⟨i, hi, rfl⟩ := hd
    rw [List.mem_range] at hi
    obtain ⟨ad, hA, hb, hf⟩ := hx i hi
    obtain ⟨c0, m0, y0, t0⟩ := hf 0 f0 rfl
    obtain ⟨c1, m1, y1, t1⟩ := hf 1 f1 rfl
    obtain ⟨c2, m2, y2, t2⟩ := hf 2 f2 rfl
    exact ⟨Opens.i64_bd (Opens.cell_int h0 t0).2, Opens.i64_bd (Opens.cell_int h1 t1).2, (u64_back (Opens.cell_int h2 t2).1 (Opens.cell_int h2 t2).2).2⟩
end
theorem wd_ams {ds : List Dep} {es : List Du} (h : ∀ d ∈ ds, d.Ok) (h' : ∀ d ∈ es, d.Ok) : Wd (ams ds es) := fun b hb => by
  rcases List.mem_append.1 hb with hb | hb
  · rw [List.mem_map] at hb
    obtain ⟨d, hd, rfl⟩ := hb
    exact (h d hd).2.2
  · rw [List.mem_map] at hb
    obtain ⟨d, hd, rfl⟩ := hb
    exact (h' d hd).2.2
end Go.Proofs.Ytdjeedmiicagcaa.PoolW
