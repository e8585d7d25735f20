/- Words for memory that all walks of this seat use: what a slice reads as, and how it stays over what a call does. Nothing of the program's own text is in sight. No conditions. -/
import Derived.Test.YtdjeedmiicagcaaRows
import Derived.WalkKit
import Derived.WalkSmall
import Derived.Maps.AppendAt
import Derived.Deep.Draws
import Derived.Deep.AppendLies
import Derived.Lib.Hide
import Derived.IntWalk
import Derived.BigQuiet
import Derived.Deep.QuietTactic
namespace Go.Proofs.Ytdjeedmiicagcaa.Words
open Go.RowKit

theorem block_add (a : Addr) (n : Nat) : (a.add n).block = a.block := by unfold Addr.add; split <;> rfl
theorem add_add (a : Addr) (i j : Nat) : (a.add i).add j = a.add (i + j) := by
  unfold Addr.add
  by_cases hi : i = 0 <;> by_cases hj : j = 0 <;> simp [hi, hj, Nat.add_assoc]
theorem add_zero (a : Addr) : a.add 0 = a := by simp [Addr.add]

theorem add0 (g j : Nat) : (⟨g, 0, none⟩ : Addr).add j = ⟨g, j, none⟩ := by
  unfold Addr.add
  split
  · rename_i h; rw [h]
  · simp

/-- 'the slice at A has n cells that read as f, and lies below block B' -/
def Rd (w : World) (B : Nat) (A : Option Addr) (n : Nat) (f : Nat → Value) : Prop :=
  ∀ j, j < n → ∃ ad, A = some ad ∧ ad.block < B ∧ w.cell? (ad.add j) = some (f j)

theorem Rd.nil {w : World} {B : Nat} {A : Option Addr} {f : Nat → Value} : Rd w B A 0 f := fun j hj => absurd hj (by omega)
theorem Rd.below {w w' : World} {B : Nat} {A : Option Addr} {n : Nat} {f : Nat → Value} (h : Rd w B A n f) (hb : Below B w w') : Rd w' B A n f := fun j hj => by
  obtain ⟨ad, e, hl, hc⟩ := h j hj
  exact ⟨ad, e, hl, (hb.cell (by rw [block_add]; exact hl)).trans hc⟩
theorem Rd.more {w : World} {B B' : Nat} {A : Option Addr} {n : Nat} {f : Nat → Value} (h : Rd w B A n f) (hB : B ≤ B') : Rd w B' A n f := fun j hj => by
  obtain ⟨ad, e, hl, hc⟩ := h j hj
  exact ⟨ad, e, by omega, hc⟩
theorem Rd.to {w w' : World} {A : Option Addr} {n : Nat} {f : Nat → Value} (h : Rd w w.heap.size A n f) (hb : Below w.heap.size w w') : Rd w' w'.heap.size A n f := (h.below hb).more hb.size
theorem Rd.take {w : World} {B : Nat} {A : Option Addr} {n m : Nat} {f : Nat → Value} (h : Rd w B A n f) (hm : m ≤ n) : Rd w B A m f := fun j hj => h j (by omega)
theorem Rd.congr {w : World} {B : Nat} {A : Option Addr} {n : Nat} {f g : Nat → Value} (h : Rd w B A n f) (he : ∀ j, j < n → f j = g j) : Rd w B A n g := fun j hj => by
  rw [← he j hj]; exact h j hj
theorem Rd.set {w : World} {B : Nat} {A : Option Addr} {n : Nat} {f : Nat → Value} (h : Rd w B A n f) {p : Addr} (hne : ∀ ad, A = some ad → ad.block ≠ p.block) (u : Value) : Rd (w.setCell p u) B A n f := fun j hj => by
  obtain ⟨ad, e, hl, hc⟩ := h j hj
  exact ⟨ad, e, hl, (World.cell?_setCell_other _ _ _ _ (fun e' => hne ad e (by rw [e', block_add]))).trans hc⟩
theorem Rd.own {w : World} {base : Nat} {e : TypeId} {v : Value} {n : Nat} {xs : List Value} {f : Nat → Value} (h : w.ownsRow base e 1 v n xs) (he : ∀ j, j < n → xs[j]? = some (f j)) :
    ∃ A c, v = .slice A n c ∧ n ≤ c ∧ c ≤ maxLen ∧ (∀ ad, A = some ad → base ≤ ad.block) ∧ Rd w w.heap.size A n f := by
  have hcs := fun g hg => World.ownsRow.cells h (g := g) hg
  have hlt := h.lt
  rcases h.2 with ⟨rfl, rfl⟩ | ⟨g, cap, cur, rfl, _, _, hnc, hcm, _⟩
  · exact ⟨none, 0, rfl, by omega, by unfold maxLen; omega, fun ad h => (by cases h), Rd.nil⟩
  · refine ⟨some ⟨g, 0, none⟩, cap, rfl, hnc, hcm, fun ad h => ?_, fun j hj => ⟨⟨g, 0, none⟩, rfl, (hlt g rfl).2, hcs g rfl j _ (he j hj)⟩⟩
    injection h with h
    subst h
    exact (hlt g rfl).1

/-- two words of one block: what Below carries -/
theorem bcell {W w1 : World} {B : Nat} (hb : Below B W w1) {p : Addr} {v : Value} (hp : p.block < B) (h : W.cell? p = some v) : w1.cell? p = some v := (hb.cell hp).trans h

theorem q_left {P : Program} {f : FuncId} {args : Array Value} {w : World} {n : Nat} {v : Value}
    (h : Calls P f args (w.drewN n) fun e w' => e = .returned v ∧ w.drewN n = w') : Calls P f args (w.drewN n) fun e w'' => e = .returned v ∧ ∃ m, w'' = w.drewN m :=
  h.mono fun _ _ ⟨he, hm⟩ => ⟨he, n, hm.symm⟩
theorem q_add {P : Program} {f : FuncId} {args : Array Value} {w : World} {a n : Nat} {v : Value}
    (h : Calls P f args (w.drewN (a + n)) fun e w' => e = .returned v ∧ w.drewN (a + n) = w') :
    Calls P f args (w.drewN (a + n)) fun e w'' => e = .returned v ∧ ∃ m, w'' = w.drewN (a + m) :=
  h.mono fun _ _ ⟨he, hm⟩ => ⟨he, n, hm.symm⟩

/-- behind an append to a row of the call's own -/
theorem app_below {W wr w1 : World} {e : TypeId} {v : Value} {n size : Nat} {xs : List Value} {o : Obj} (hb : Below W.heap.size W wr) (hown : wr.ownsRow W.heap.size e size v n xs)
    (hg : (wr.alloc o).grownBy w1 v.ownBlock) : Below W.heap.size W w1 :=
  (hb.alloc hb.size o).grown hg (by have := hb.size; simp; omega) (fun j hj => (hown.lt j hj).1)

/-! an append of a whole slice, whatever it is, to a row of the call's own -/
section
variable {P : Program} (w : World)
theorem run_append_whole (base : Nat) (t ty e : TypeId) (i : TypeInfo) (z : Value) (bytes : Nat) (ht : P.underlying t = some (.slice e)) (hi : P.info? e = some i) (hz : i.zero = some z)
    (hsize : i.size = 1) (hby : i.bytes = bytes) (hzs : z.cells.size = 1) (v : Value) (n : Nat) (xs : List Value) (hown : w.ownsRow base e 1 v n xs)
    (A : Option Addr) (m c : Nat) (f : Nat → Value) (hr : Rd w w.heap.size A m f) (h1 : ∀ j, (f j).oneCell' = true)
    (h63 : n + m ≤ maxLen) (hbytes : (n + m) * bytes ≤ 140737488355328) (hbase : base ≤ w.heap.size) :
    ∃ v' w', (Builtin.append_ #[t, t] ty #[v, .slice A m c]).run P w = .ok v' w' ∧ w'.ownsRow base e 1 v' (n + m) (xs ++ (List.range m).map f) ∧ w.grownBy w' v.ownBlock := by
  cases A with
  | none =>
    obtain rfl : m = 0 := by
      rcases Nat.eq_zero_or_pos m with h | h
      · exact h
      · obtain ⟨_, h', _⟩ := hr 0 h
        cases h'
    refine ⟨v, w, ?_, by simpa using hown, World.grownBy.refl w _⟩
    rcases hown.2 with ⟨rfl, rfl⟩ | ⟨g, cap, cur, rfl, _, _, hnc, _⟩
    · simp [Builtin.append_, run_underlying ht, sizeOf, typeInfo, hi, Builtin.lenOf, Builtin.firstCells]
    · simp [Builtin.append_, run_underlying ht, sizeOf, typeInfo, hi, Builtin.lenOf, Builtin.firstCells, hnc, storeCells]
  | some ad =>
    obtain ⟨v', w', hrun, h2, h3, _⟩ := run_append_own_at (P := P) w base t ty e i z 1 bytes ht hi hz hsize hby hzs (by omega) v n xs hown ad m c ((List.range m).map f) (by simp)
      (fun j u hu => by
        rw [List.getElem?_map] at hu
        by_cases hj : j < m
        · rw [List.getElem?_range hj] at hu
          simp only [Option.map_some, Option.some.injEq] at hu
          obtain ⟨ad', ha, _, hc⟩ := hr j hj
          injection ha with ha
          rw [ha, ← hu]
          exact hc
        · rw [List.getElem?_eq_none (by simp; omega)] at hu
          cases hu)
      (fun u hu => by
        rw [List.mem_map] at hu
        obtain ⟨j, _, rfl⟩ := hu
        exact h1 j) h63 hbytes hbase
    exact ⟨v', w', hrun, h2, h3⟩

theorem wpList_append_whole {ops : Array Oper} {rest : List Oper} {o : Oper} {a : Act} {Q : Exit → Act → World → Prop} (hgd : o.guard = none) (s x : Operand) (t : TypeId)
    (ho : o.op = .call { callee := .builtin .append, args := #[s, x], argTypes := #[t, t] })
    (base : Nat) (e : TypeId) (i : TypeInfo) (z : Value) (bytes : Nat) (ht : P.underlying t = some (.slice e)) (hi : P.info? e = some i) (hz : i.zero = some z)
    (hsize : i.size = 1) (hby : i.bytes = bytes) (hzs : z.cells.size = 1) (v : Value) (n : Nat) (xs : List Value) (hs : a.eval s = v) (hown : w.ownsRow base e 1 v n xs)
    (A : Option Addr) (m c : Nat) (f : Nat → Value) (hx : a.eval x = .slice A m c) (hr : Rd w w.heap.size A m f) (h1 : ∀ j, (f j).oneCell' = true)
    (h63 : n + m ≤ maxLen) (hbytes : (n + m) * bytes ≤ 140737488355328) (hbase : base ≤ w.heap.size)
    (h : ∀ v' w', w'.ownsRow base e 1 v' (n + m) (xs ++ (List.range m).map f) → w.grownBy w' v.ownBlock → wpList P ops Q rest (a.put o.dst v') w') : wpList P ops Q (o :: rest) a w := by
  obtain ⟨v', w', hrun, h2, h3⟩ := run_append_whole (P := P) w base t o.type e i z bytes ht hi hz hsize hby hzs v n xs hown A m c f hr h1 h63 hbytes hbase
  refine wpList_plain hgd fun K hK => ?_
  unfold Oper.wp
  simp [execOp, ho, resolve, invoke, builtin, hs, hx, hrun, Result.andThen]
  exact hK _ _ (h v' w' h2 h3)
end
end Go.Proofs.Ytdjeedmiicagcaa.Words
