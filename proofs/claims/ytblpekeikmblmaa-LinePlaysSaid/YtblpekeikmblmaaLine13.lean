/- The walks of the line, thirteenth part: where an append leaves its row; Push once more. Conditions: the line is held rightly and is not too long. -/
import Derived.Test.YtblpekeikmblmaaLine12
namespace Go.Proofs.Ytblpekeikmblmaa.LineW
open Go.RowKit
open Go.Proofs.Ytblpekeikmblmaa.Words

section
variable {P : Program} (w : World)
theorem own_where (base : Nat) (t ty e : TypeId) (i : TypeInfo) (z : Value) (bytes : Nat) (ht : P.underlying t = some (.slice e)) (hi : P.info? e = some i) (hz : i.zero = some z)
    (hsize : i.size = 1) (hby : i.bytes = bytes) (v : Value) (n : Nat) (xs : List Value) (hown : w.ownsRow base e 1 v n xs)
    (a : Addr) (m c : Nat) (news : List Value) (hl : news.length = m * 1) (hnews : ∀ j u, news[j]? = some u → w.cell? (a.add j) = some u) (h1 : ∀ u ∈ news, u.oneCell' = true)
    (h63 : n + m ≤ maxLen) (hbytes : (n + m) * bytes ≤ 140737488355328) (hm : 0 < m) {v' : Value} {w' : World} (hrun : (Builtin.append_ #[t, t] ty #[v, .slice (some a) m c]).run P w = .ok v' w') :
    v'.ownBlock = v.ownBlock ∨ ∃ g, v'.ownBlock = some g ∧ w.heap.size ≤ g := by
  have hsmall : n + m ≤ 9223372036854775807 := by simp only [maxLen] at h63; omega
  have hl' : news.length = m * i.size := by rw [hsize]; exact hl
  subst hby
  rcases hown.2 with ⟨rfl, rfl⟩ | ⟨g, cap, cur, rfl, hbg, hg, hnc, hcm, hcs, htake⟩
  · have hr := run_append_nil (P := P) w t ty e i z ht hi hz a m c news hl' hnews hm (by omega) (by have hb := hbytes; simp only [Nat.zero_add] at hb; omega)
    rw [hr] at hrun
    injection hrun with e1 e2
    subst e1
    exact .inr ⟨_, rfl, Nat.le_refl _⟩
  · by_cases hroom : n + m ≤ cap
    · have hr := run_append_room (P := P) w t ty e i ht hi g n cap cur hg a m c news hl' hnews h1 hroom (by rw [hl', hsize, hcs]; omega)
      rw [hr] at hrun
      injection hrun with e1 e2
      subst e1
      exact .inl rfl
    · have holds : ∀ j u, xs[j]? = some u → w.cell? ((⟨g, 0, none⟩ : Addr).add j) = some u := hown.cells (g := g) rfl
      have hr := run_append_grow (P := P) w t ty e i z ht hi hz ⟨g, 0, none⟩ n cap xs (by rw [hsize]; exact hown.1) holds a m c news hl' hnews (by omega) (by omega) (growslice_fits (by omega) hbytes)
      rw [hr] at hrun
      injection hrun with e1 e2
      subst e1
      exact .inr ⟨_, rfl, Nat.le_refl _⟩
theorem wpList_append_where {ops : Array Oper} {rest : List Oper} {o : Oper} {a : Act} {Q : Exit → Act → World → Prop} (hgd : o.guard = none) (s x : Operand) (t : TypeId)
    (ho : o.op = .call { callee := .builtin .append, args := #[s, x], argTypes := #[t, t] })
    (base : Nat) (e : TypeId) (i : TypeInfo) (z : Value) (bytes : Nat) (ht : P.underlying t = some (.slice e)) (hi : P.info? e = some i) (hz : i.zero = some z)
    (hsize : i.size = 1) (hby : i.bytes = bytes) (hzs : z.cells.size = 1) (v : Value) (n : Nat) (xs : List Value) (hs : a.eval s = v) (hown : w.ownsRow base e 1 v n xs)
    (ad : Addr) (m c : Nat) (news : List Value) (hx : a.eval x = .slice (some ad) m c) (hl : news.length = m * 1) (hnews : ∀ j u, news[j]? = some u → w.cell? (ad.add j) = some u) (h1 : ∀ u ∈ news, u.oneCell' = true)
    (h63 : n + m ≤ maxLen) (hbytes : (n + m) * bytes ≤ 140737488355328) (hbase : base ≤ w.heap.size) (hm : 0 < m)
    (h : ∀ v' w', w'.ownsRow base e 1 v' (n + m) (xs ++ news) → w.grownBy w' v.ownBlock → (v'.ownBlock = v.ownBlock ∨ ∃ g, v'.ownBlock = some g ∧ w.heap.size ≤ g) → wpList P ops Q rest (a.put o.dst v') w') : wpList P ops Q (o :: rest) a w := by
  obtain ⟨v', w', hrun, h2, h3, _⟩ := run_append_own (P := P) w base t o.type e i z 1 bytes ht hi hz hsize hby hzs (by omega) v n xs hown ad m c news hl hnews h1 h63 hbytes hbase
  have hw := own_where (P := P) w base t o.type e i z bytes ht hi hz hsize hby v n xs hown ad m c news hl hnews h1 h63 hbytes hm hrun
  refine wpList_plain hgd fun K hK => ?_
  unfold Oper.wp
  simp [execOp, ho, resolve, invoke, builtin, hs, hx, hrun, Result.andThen]
  exact hK _ _ (h v' w' h2 h3 hw)
end

set_option maxRecDepth 100000 in
/-- who is not yet in the line comes to its end -/
theorem push_ok2 {w : World} {p : Nat} {v : Value} {zs : List Int} (x : Int) (h : LineAt w p v zs) (hx : 0 ≤ x) (hi : Lib.idxOf zs x < 0) (hn : zs.length < 256) :
    Calls Try.prog 45 #[.pointer (some ⟨p, 0, none⟩), .int .i64 x] w fun e w' => e = .returned (.int .i64 0) ∧ ∃ v', LineAt w' p v' (zs ++ [x]) ∧ Keeps w w' p v.ownBlock ∧ (v'.ownBlock = v.ownBlock ∨ ∃ g, v'.ownBlock = some g ∧ w.heap.size ≤ g) := by
  obtain ⟨i0, hi0, hz0, hz1, hz2⟩ := info_parts info_int
  have HI := Lib.hid (find_any x h (by omega))
  have d1 : decide (x < 0) = false := by simp; omega
  have d2 : decide (0 ≤ Lib.idxOf zs x) = false := by simp; omega
  have d3 : decide ((256 : Int) ≤ zs.length) = false := by simp; omega
  obtain ⟨A, c, hv, _⟩ := h.form
  have hc := h.cell
  have hf := h.fz
  have hl := h.lt
  have ho := h.own
  clear h hi
  generalize Lib.idxOf zs x = i at HI d2
  have hln : (zs.map iw).length = zs.length := by simp
  generalize hN : zs.length = n at *
  subst hv
  go_enter Try.func45, Try.ntmps45
  go_wp2_with fail
  refine HI.out.mono ?_
  rintro e w' ⟨rfl, rfl⟩
  go_wp2_with (at_builtin; refine wpList_append_where _ rfl _ _ 57 rfl (p + 1) 3 i0 (.int .i64 0) 8 Try.underlying57 hi0 hz0 hz1 hz2 rfl _ _ _ rfl (ho.alloc _) ⟨w.heap.size, 0, none⟩ 1 1 [.int .i64 x] rfl rfl (cell_one_new _ _ _) ?_ ?_ ?_ ?_ (by omega) ?_)
  · intro u hu; simp at hu; subst hu; rfl
  · unfold maxLen; omega
  · omega
  · simp; omega
  intro v' w1 hown' hgrow hwh
  obtain ⟨A', c', rfl⟩ := own_form hown'
  have hne : some p ≠ (Value.slice A n c).ownBlock := fun e => by have := (ho.lt p e.symm).1; omega
  have hbp : w1.heap[p]? = w.heap[p]? := (hgrow.block p (by simp; omega) hne).trans (Below.heap_alloc w _ p hl)
  have hc1 : w1.cell? ⟨p, 0, none⟩ = some (.slice A n c) := (World.cell?_of_block (a := ⟨p, 0, none⟩) hbp).trans hc
  have hf1 : w1.frozen? ⟨p, 0, none⟩ = false := (World.frozen?_of_block (a := ⟨p, 0, none⟩) hbp).trans hf
  have hl1 : w.heap.size ≤ w1.heap.size := Nat.le_trans (by simp) hgrow.size
  have hK : Keeps w (w1.setCell ⟨p, 0, none⟩ (.slice A' (n + 1) c')) p (Value.slice A n c).ownBlock :=
    ⟨hgrow.os, hgrow.tape, hgrow.output, by simpa [World.setCell] using hl1, fun k hk h1 h2 => (Below.heap_setCell w1 ⟨p, 0, none⟩ (.slice A' (n + 1) c') k h1).trans ((hgrow.block k (by simp; omega) h2).trans (Below.heap_alloc w _ k hk))⟩
  have HK := Lib.hid hK
  have HW := Lib.hid (show (Value.slice A' (n + 1) c').ownBlock = (Value.slice A n c).ownBlock ∨ ∃ g, (Value.slice A' (n + 1) c').ownBlock = some g ∧ w.heap.size ≤ g by
    rcases hwh with h | ⟨g, h, hg⟩
    · exact .inl h
    · exact .inr ⟨g, h, by first | omega | (simp at hg; omega)⟩)
  have hown2 : (w1.setCell ⟨p, 0, none⟩ (.slice A' (n + 1) c')).ownsRow (p + 1) 3 1 (.slice A' (n + 1) c') (zs ++ [x]).length ((zs ++ [x]).map iw) := by
    rw [List.length_append, List.map_append, hN]; exact ownsRow_setCell_below hown' (by show p < p + 1; omega) _
  have HO := Lib.hid hown2
  have hL := Lib.hid (Nat.lt_of_lt_of_le hl hl1)
  clear hwh hgrow hown' ho hK hown2 hbp hl1 hl hc hf hne hln hN
  go_wp2
  go_ret
  exact ⟨rfl, _, ⟨by simpa [World.setCell] using hL.out, World.cell?_setCell_same _ _ _ hc1, (World.frozen?_setCell _ _ _ _).trans hf1, HO.out⟩, HK.out, HW.out⟩
end Go.Proofs.Ytblpekeikmblmaa.LineW
