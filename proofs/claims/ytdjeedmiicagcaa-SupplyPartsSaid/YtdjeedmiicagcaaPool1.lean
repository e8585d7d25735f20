/- Rows of structs of one-cell fields: what they read as; an append of a whole such row. Nothing of the program's own text is in sight. No conditions. -/
import Derived.Test.YtdjeedmiicagcaaWords
namespace Go.Proofs.Ytdjeedmiicagcaa.Words
open Go.RowKit

/-- the cells of structs, one behind the other -/
def flat {α : Type} (enc : α → List Value) (ds : List α) : List Value := ds.flatMap enc
theorem flat_len {α : Type} {enc : α → List Value} {sz : Nat} (h : ∀ d, (enc d).length = sz) : ∀ ds : List α, (flat enc ds).length = ds.length * sz
  | [] => by simp [flat]
  | d :: ds => by
    have := flat_len h ds
    unfold flat at this ⊢
    rw [List.flatMap_cons, List.length_append, this, h, List.length_cons, Nat.add_mul]; omega
theorem flat_at {α : Type} {enc : α → List Value} {sz : Nat} (h : ∀ d, (enc d).length = sz) : ∀ (ds : List α) (i j : Nat) (d : α), ds[i]? = some d → j < sz → (flat enc ds)[i * sz + j]? = (enc d)[j]?
  | [], i, j, d, hd, _ => by simp at hd
  | e :: ds, 0, j, d, hd, hj => by
    simp at hd
    subst hd
    unfold flat
    rw [List.flatMap_cons, List.getElem?_append_left (by rw [h]; omega), Nat.zero_mul, Nat.zero_add]
  | e :: ds, i + 1, j, d, hd, hj => by
    have := flat_at h ds i j d (by simpa using hd) hj
    unfold flat at this ⊢
    rw [List.flatMap_cons, List.getElem?_append_right (by rw [h, Nat.add_mul]; omega), h, ← this]
    congr 1
    rw [Nat.add_mul]; omega
theorem flat_append {α : Type} (enc : α → List Value) (ds es : List α) : flat enc (ds ++ es) = flat enc ds ++ flat enc es := by simp [flat]
theorem flat_one {α : Type} (enc : α → List Value) (d : α) : flat enc [d] = enc d := by simp [flat]
def vat (xs : List Value) (j : Nat) : Value := (xs[j]?).getD (.bool false)
theorem vat_at {xs : List Value} {j : Nat} (h : j < xs.length) : xs[j]? = some (vat xs j) := by
  rw [vat, List.getElem?_eq_getElem h]; rfl
/-- the slice at A has n structs of sz cells -/
def SRow (w : World) (B : Nat) (A : Option Addr) (n sz : Nat) (xs : List Value) : Prop := xs.length = n * sz ∧ Rd w B A (n * sz) (vat xs)
theorem SRow.to {w w' : World} {A : Option Addr} {n sz : Nat} {xs : List Value} (h : SRow w w.heap.size A n sz xs) (hb : Below w.heap.size w w') : SRow w' w'.heap.size A n sz xs := ⟨h.1, h.2.to hb⟩
theorem SRow.below {w w' : World} {B : Nat} {A : Option Addr} {n sz : Nat} {xs : List Value} (h : SRow w B A n sz xs) (hb : Below B w w') : SRow w' B A n sz xs := ⟨h.1, h.2.below hb⟩
theorem SRow.more {w : World} {B B' : Nat} {A : Option Addr} {n sz : Nat} {xs : List Value} (h : SRow w B A n sz xs) (hB : B ≤ B') : SRow w B' A n sz xs := ⟨h.1, h.2.more hB⟩
theorem SRow.drewN {w : World} {B : Nat} {A : Option Addr} {n sz : Nat} {xs : List Value} (h : SRow w B A n sz xs) (q : Nat) : SRow (w.drewN q) B A n sz xs := h
theorem SRow.nil (w : World) (B : Nat) (A : Option Addr) (sz : Nat) : SRow w B A 0 sz [] := ⟨by simp, fun j hj => by simp at hj⟩
theorem SRow.own {w : World} {base : Nat} {e : TypeId} {v : Value} {n sz : Nat} {xs : List Value} (h : w.ownsRow base e sz v n xs) :
    ∃ A c, v = .slice A n c ∧ n ≤ c ∧ c ≤ maxLen ∧ (∀ ad, A = some ad → base ≤ ad.block) ∧ SRow w w.heap.size A n sz xs := by
  have hcs := fun g hg => World.ownsRow.cells h (g := g) hg
  have hlt := h.lt
  have hl := h.1
  rcases h.2 with ⟨rfl, rfl⟩ | ⟨g, cap, cur, rfl, _, _, hnc, hcm, _⟩
  · refine ⟨none, 0, rfl, by omega, by unfold maxLen; omega, fun ad h => (by cases h), hl, fun j hj => by simp at hj⟩
  · refine ⟨some ⟨g, 0, none⟩, cap, rfl, hnc, hcm, fun ad h => ?_, hl, fun j hj => ⟨⟨g, 0, none⟩, rfl, (hlt g rfl).2, hcs g rfl j _ (vat_at (by omega))⟩⟩
    injection h with h
    subst h
    exact (hlt g rfl).1
/-- one struct's cells, as the walk spells them -/
theorem SRow.cell {w : World} {B : Nat} {A : Option Addr} {n sz : Nat} {α : Type} {enc : α → List Value} {ds : List α} (h : SRow w B A n sz (flat enc ds)) (henc : ∀ d, (enc d).length = sz) {i : Nat} (hi : i < n) {d : α} (hd : ds[i]? = some d) (hsz : 0 < sz) :
    ∃ ad, A = some ad ∧ ad.block < B ∧ ∀ j v, (enc d)[j]? = some v → w.cell? ((ad.add (i * sz)).add j) = some v := by
  have hlt : ∀ j, j < sz → i * sz + j < n * sz := fun j hj => by
    have : (i + 1) * sz ≤ n * sz := Nat.mul_le_mul_right _ hi
    rw [Nat.add_mul] at this; omega
  obtain ⟨ad, rfl, hl, _⟩ := h.2 _ (hlt 0 hsz)
  refine ⟨ad, rfl, hl, fun j v hv => ?_⟩
  have hj : j < sz := by
    have := (List.getElem?_eq_some_iff.1 hv).1
    rwa [henc] at this
  obtain ⟨ad', e, _, hc⟩ := h.2 _ (hlt j hj)
  cases e
  rw [add_add, hc, vat, flat_at henc ds i j d hd hj, hv]
  rfl
theorem SRow.len {w : World} {B : Nat} {A : Option Addr} {n sz : Nat} {α : Type} {enc : α → List Value} {ds : List α} (h : SRow w B A n sz (flat enc ds)) (henc : ∀ d, (enc d).length = sz) (hsz : 0 < sz) : ds.length = n := by
  have := h.1
  rw [flat_len henc] at this
  exact Nat.eq_of_mul_eq_mul_right hsz this

section
variable {P : Program} (w : World)
theorem run_append_rows (base : Nat) (t ty e : TypeId) (i : TypeInfo) (z : Value) (size bytes : Nat) (ht : P.underlying t = some (.slice e)) (hi : P.info? e = some i) (hz : i.zero = some z)
    (hsize : i.size = size) (hby : i.bytes = bytes) (hzs : z.cells.size = size) (hsz : 0 < size) (v : Value) (n : Nat) (xs : List Value) (hown : w.ownsRow base e size v n xs)
    (A : Option Addr) (m c : Nat) (ys : List Value) (hr : SRow w w.heap.size A m size ys) (h1 : ∀ u ∈ ys, u.oneCell' = true)
    (h63 : n + m ≤ maxLen) (hbytes : (n + m) * bytes ≤ 140737488355328) (hbase : base ≤ w.heap.size) :
    ∃ v' w', (Builtin.append_ #[t, t] ty #[v, .slice A m c]).run P w = .ok v' w' ∧ w'.ownsRow base e size v' (n + m) (xs ++ ys) ∧ w.grownBy w' v.ownBlock := by
  obtain ⟨hl, hr⟩ := hr
  cases A with
  | none =>
    obtain rfl : m = 0 := by
      rcases Nat.eq_zero_or_pos m with h | h
      · exact h
      · obtain ⟨_, h', _⟩ := hr 0 (Nat.mul_pos h hsz)
        cases h'
    obtain rfl : ys = [] := List.eq_nil_of_length_eq_zero (by simpa using hl)
    refine ⟨v, w, ?_, by simpa using hown, World.grownBy.refl w _⟩
    rcases hown.2 with ⟨rfl, rfl⟩ | ⟨g, cap, cur, rfl, _, _, hnc, _⟩
    · simp [Builtin.append_, run_underlying ht, sizeOf, typeInfo, hi, Builtin.lenOf, Builtin.firstCells]
    · simp [Builtin.append_, run_underlying ht, sizeOf, typeInfo, hi, Builtin.lenOf, Builtin.firstCells, hnc, storeCells]
  | some ad =>
    obtain ⟨v', w', hrun, h2, h3, _⟩ := run_append_own_at (P := P) w base t ty e i z size bytes ht hi hz hsize hby hzs hsz v n xs hown ad m c ys hl
      (fun j u hu => by
        have hj : j < ys.length := (List.getElem?_eq_some_iff.1 hu).1
        obtain ⟨ad', ha, _, hc⟩ := hr j (by omega)
        injection ha with ha
        rw [ha, hc, vat, hu]
        rfl) h1 h63 hbytes hbase
    exact ⟨v', w', hrun, h2, h3⟩
theorem wpList_append_rows {ops : Array Oper} {rest : List Oper} {o : Oper} {a : Act} {Q : Exit → Act → World → Prop} (hgd : o.guard = none) (s x : Operand) (t : TypeId)
    (ho : o.op = .call { callee := .builtin .append, args := #[s, x], argTypes := #[t, t] })
    (base : Nat) (e : TypeId) (i : TypeInfo) (z : Value) (size bytes : Nat) (ht : P.underlying t = some (.slice e)) (hi : P.info? e = some i) (hz : i.zero = some z)
    (hsize : i.size = size) (hby : i.bytes = bytes) (hzs : z.cells.size = size) (hsz : 0 < size) (v : Value) (n : Nat) (xs : List Value) (hs : a.eval s = v) (hown : w.ownsRow base e size v n xs)
    (A : Option Addr) (m c : Nat) (ys : List Value) (hx : a.eval x = .slice A m c) (hr : SRow w w.heap.size A m size ys) (h1 : ∀ u ∈ ys, u.oneCell' = true)
    (h63 : n + m ≤ maxLen) (hbytes : (n + m) * bytes ≤ 140737488355328) (hbase : base ≤ w.heap.size)
    (h : ∀ v' w', w'.ownsRow base e size v' (n + m) (xs ++ ys) → w.grownBy w' v.ownBlock → wpList P ops Q rest (a.put o.dst v') w') : wpList P ops Q (o :: rest) a w := by
  obtain ⟨v', w', hrun, h2, h3⟩ := run_append_rows (P := P) w base t o.type e i z size bytes ht hi hz hsize hby hzs hsz v n xs hown A m c ys hr h1 h63 hbytes hbase
  refine wpList_plain hgd fun K hK => ?_
  unfold Oper.wp
  simp [execOp, ho, resolve, invoke, builtin, hs, hx, hrun, Result.andThen]
  exact hK _ _ (h v' w' h2 h3)
end
end Go.Proofs.Ytdjeedmiicagcaa.Words
