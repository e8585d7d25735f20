/- The line, eighth part: plain facts on lists, and what a cut leaves alone. No program in sight but memory. No conditions. -/
import Derived.Test.YtblpekeikmblmaaLine7
namespace Go.Proofs.Ytblpekeikmblmaa.LineW
open Go.RowKit
open Go.Proofs.Ytblpekeikmblmaa.Words

theorem least (P : Nat → Prop) : ∀ n, (∃ m, m < n ∧ P m ∧ ∀ j, j < m → ¬ P j) ∨ ∀ m, m < n → ¬ P m
  | 0 => .inr fun m hm => by omega
  | n + 1 => by
    rcases least P n with ⟨m, hm, h1, h2⟩ | h
    · exact .inl ⟨m, by omega, h1, h2⟩
    · by_cases hp : P n
      · exact .inl ⟨n, by omega, hp, h⟩
      · refine .inr fun m hm => ?_
        by_cases e : m = n
        · rw [e]; exact hp
        · exact h m (by omega)
/-- what New makes of a list -/
theorem classify (zs : List Int) (n : Nat) :
    (∃ m, m < n ∧ (∀ j, j < m → 0 ≤ zs.getD j 0) ∧ zs.getD m 0 < 0) ∨
    ((∀ j, j < n → 0 ≤ zs.getD j 0) ∧ ∃ m, m < n ∧ (∀ k, k < m → ∀ j, j < k → zs.getD j 0 ≠ zs.getD k 0) ∧ ∃ j, j < m ∧ zs.getD j 0 = zs.getD m 0) ∨
    ((∀ j, j < n → 0 ≤ zs.getD j 0) ∧ ∀ k, k < n → ∀ j, j < k → zs.getD j 0 ≠ zs.getD k 0) := by
  rcases least (fun m => zs.getD m 0 < 0) n with ⟨m, hm, h1, h2⟩ | h
  · exact .inl ⟨m, hm, fun j hj => by have := h2 j hj; omega, h1⟩
  · have h0 : ∀ j, j < n → 0 ≤ zs.getD j 0 := fun j hj => by have := h j hj; omega
    rcases least (fun m => ∃ j, j < m ∧ zs.getD j 0 = zs.getD m 0) n with ⟨m, hm, h1, h2⟩ | h'
    · exact .inr (.inl ⟨h0, m, hm, fun k hk j hj e => h2 k hk ⟨j, hj, e⟩, h1⟩)
    · exact .inr (.inr ⟨h0, fun k hk j hj e => h' k hk ⟨j, hj, e⟩⟩)
/-- a list without somebody -/
def flt (zs : List Int) (x : Int) : List Int := zs.filter (fun z => z != x)
theorem flt_nil (x : Int) : flt [] x = [] := rfl
theorem flt_take {zs : List Int} {x : Int} {k : Nat} (hk : k < zs.length) : flt (zs.take (k + 1)) x = flt (zs.take k) x ++ if zs.getD k 0 = x then [] else [zs.getD k 0] := by
  unfold flt
  rw [List.take_add_one, List.filter_append, List.getD_eq_getElem?_getD, List.getElem?_eq_getElem hk]
  congr 1
  by_cases e : zs[k] = x
  · simp [e]
  · simp [e]
theorem flt_none {zs : List Int} {x : Int} (h : ∀ z ∈ zs, z ≠ x) : flt zs x = zs := by
  unfold flt
  rw [List.filter_eq_self]
  intro z hz; simpa using h z hz
theorem flt_one {zs : List Int} {x : Int} {i : Nat} (hi : zs[i]? = some x) (hd : ∀ j, j < zs.length → j ≠ i → zs.getD j 0 ≠ x) : flt zs x = zs.take i ++ zs.drop (i + 1) := by
  have hil : i < zs.length := by
    by_cases e : i < zs.length
    · exact e
    · rw [List.getElem?_eq_none (by omega)] at hi; cases hi
  have hx : zs[i] = x := by rw [List.getElem?_eq_getElem hil] at hi; exact Option.some.inj hi
  have e : zs = zs.take i ++ x :: zs.drop (i + 1) := by
    rw [← hx, List.getElem_cons_drop, List.take_append_drop]
  have h1 : flt (zs.take i) x = zs.take i := flt_none fun z hz => by
    obtain ⟨j, hj, rfl⟩ := List.mem_iff_getElem.1 hz
    have hj' : j < i := by simp at hj; omega
    have := hd j (by omega) (by omega)
    rw [List.getElem_take]
    rwa [List.getD_eq_getElem?_getD, List.getElem?_eq_getElem (by omega)] at this
  have h2 : flt (zs.drop (i + 1)) x = zs.drop (i + 1) := flt_none fun z hz => by
    obtain ⟨j, hj, rfl⟩ := List.mem_iff_getElem.1 hz
    have hj' : i + 1 + j < zs.length := by simp at hj; omega
    have := hd (i + 1 + j) hj' (by omega)
    rw [List.getElem_drop]
    rwa [List.getD_eq_getElem?_getD, List.getElem?_eq_getElem hj'] at this
  have h3 : flt zs x = flt (zs.take i) x ++ flt (x :: zs.drop (i + 1)) x := by
    conv => lhs; rw [e]
    unfold flt; rw [List.filter_append]
  rw [h3, h1]
  congr 1
  unfold flt at h2 ⊢
  simp [h2]
/-- a row that lies apart from the line's two blocks stays -/
theorem Rd.keeps {w w' : World} {p : Nat} {r : Option Nat} {A : Option Addr} {n : Nat} {f : Nat → Value} (h : Rd w w.heap.size A n f) (hK : Keeps w w' p r) (hne : ∀ ad, A = some ad → ad.block ≠ p ∧ some ad.block ≠ r) : Rd w' w'.heap.size A n f := fun j hj => by
  obtain ⟨ad, e, hl, hc⟩ := h j hj
  have hb := hK.block ad.block hl (hne ad e).1 (hne ad e).2
  refine ⟨ad, e, Nat.lt_of_lt_of_le hl hK.size, ?_⟩
  rw [← hc]
  exact World.cell?_of_block (a := ad.add j) (by rw [block_add]; exact hb)
end Go.Proofs.Ytblpekeikmblmaa.LineW
