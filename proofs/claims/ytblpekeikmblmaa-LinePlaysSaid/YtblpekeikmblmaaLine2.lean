/- The walks of the line, second part: cut, Pop, Drop. Conditions: the line is held rightly and is not too long. -/
import Derived.Test.YtblpekeikmblmaaLine1
import Derived.Deep.Upon
namespace Go.Proofs.Ytblpekeikmblmaa.LineW
open Go.RowKit
open Go.Proofs.Ytblpekeikmblmaa.Words

theorem own_setCells {base g n cap : Nat} {e : TypeId} : ∀ (vs : List Value) (o : Nat) (w : World) (xs : List Value), w.ownsRow base e 1 (.slice (some ⟨g, 0, none⟩) n cap) n xs → o + vs.length ≤ n →
    (w.setCells g o vs).ownsRow base e 1 (.slice (some ⟨g, 0, none⟩) n cap) n (xs.take o ++ vs ++ xs.drop (o + vs.length))
  | [], o, w, xs, h, _ => by simpa [World.setCells] using h
  | v :: r, o, w, xs, h, hl => by
    have hx : xs.length = n := by have := h.1; omega
    have hl' : o + 1 + r.length ≤ n := by simp at hl; omega
    have := own_setCells r (o + 1) (w.setCell ⟨g, o, none⟩ v) (xs.set o v) (h.stored o v).1 hl'
    rw [World.setCells]
    have e : (xs.set o v).take (o + 1) ++ r ++ (xs.set o v).drop (o + 1 + r.length) = xs.take o ++ v :: r ++ xs.drop (o + (v :: r).length) := by
      rw [List.drop_set_of_lt (by omega), List.take_add_one, List.take_set_of_le (Nat.le_refl _), List.getElem?_set_self (by omega)]
      simp [Nat.add_assoc, Nat.add_comm 1]
    rwa [e] at this
theorem setCells_os (g : Nat) : ∀ (vs : List Value) (o : Nat) (w : World), (w.setCells g o vs).os = w.os ∧ (w.setCells g o vs).tape = w.tape ∧ (w.setCells g o vs).output = w.output ∧ (w.setCells g o vs).heap.size = w.heap.size
  | [], o, w => ⟨rfl, rfl, rfl, rfl⟩
  | v :: r, o, w => by
    have := setCells_os g r (o + 1) (w.setCell ⟨g, o, none⟩ v)
    rw [World.setCells]
    exact ⟨this.1, this.2.1, this.2.2.1, this.2.2.2.trans (by simp [World.setCell])⟩
theorem own_cut {w : World} {base g n cap m : Nat} {e : TypeId} {xs : List Value} (h : w.ownsRow base e 1 (.slice (some ⟨g, 0, none⟩) n cap) n xs) (hm : m ≤ n) :
    w.ownsRow base e 1 (.slice (some ⟨g, 0, none⟩) m cap) m (xs.take m) := by
  have hx := h.1
  rcases h.2 with ⟨hv, _⟩ | ⟨g', cap', cur, hv, hb, hg, hnc, hcm, hsz, htk⟩
  · cases hv
  · cases hv
    refine ⟨by simp; omega, .inr ⟨_, _, cur, rfl, hb, hg, by omega, hcm, hsz, ?_⟩⟩
    rw [← htk, List.take_take]; congr 1; omega

theorem del_list {zs : List Int} {i j : Nat} (hij : i ≤ j) (hj : j ≤ zs.length) :
    (((zs.map iw).take 0 ++ ((zs.take zs.length).take i ++ (zs.take zs.length).drop j ++ List.replicate (j - i) 0).map (Value.int .i64) ++ (zs.map iw).drop (0 + (((zs.take zs.length).take i ++ (zs.take zs.length).drop j ++ List.replicate (j - i) 0).map (Value.int .i64)).length)).take (zs.length - (j - i))) = (zs.take i ++ zs.drop j).map iw := by
  have h0 : zs.take zs.length = zs := List.take_of_length_le (Nat.le_refl _)
  rw [h0]
  have hlen : ((zs.take i ++ zs.drop j ++ List.replicate (j - i) 0).map (Value.int .i64)).length = zs.length := by simp; omega
  have h1 : (zs.map iw).drop (0 + ((zs.take i ++ zs.drop j ++ List.replicate (j - i) 0).map (Value.int .i64)).length) = [] := List.drop_of_length_le (by rw [hlen, List.length_map]; omega)
  rw [h1, List.append_nil, List.take_zero, List.nil_append, List.map_append]
  rw [List.take_left' (by simp; omega)]
  rfl
theorem delete_any {w : World} {base : Nat} {v : Value} {zs : List Int} (ho : w.ownsRow base 3 1 v zs.length (zs.map iw)) (i j : Nat) (hij : i ≤ j) (hj : j ≤ zs.length) (hn : zs.length ≤ 100000) :
    Calls Try.prog 66 #[v, .int .i64 i, .int .i64 j] w fun e w' => ∃ v', e = .returned v' ∧ w'.ownsRow base 3 1 v' (zs.take i ++ zs.drop j).length ((zs.take i ++ zs.drop j).map iw) ∧ w.grownBy w' v.ownBlock ∧ v'.ownBlock = v.ownBlock := by
  rcases ho.2 with ⟨rfl, h0⟩ | ⟨g, c, cur, rfl, hb, hg, hnc, hcm, hsz, htk⟩
  · obtain rfl : zs = [] := List.eq_nil_of_length_eq_zero h0
    obtain rfl : j = 0 := by simpa using hj
    obtain rfl : i = 0 := by omega
    refine (Try.slices_Delete_int_empty none 0 w).mono ?_
    rintro e w' ⟨rfl, rfl⟩
    exact ⟨_, rfl, World.ownsRow_nil _ _ _ _, World.grownBy.refl w' _, rfl⟩
  · refine (Try.slices_Delete_int_cells g 0 zs.length c i j zs w (Nat.le_refl _) hnc (by unfold maxLen at hcm; omega) hij hj (fun k hk => by rw [Nat.zero_add, ho.cellAt k (by omega)]; exact zs_at hk) (fun k _ => by rw [Nat.zero_add]; exact ho.frozenAt k)).mono ?_
    rintro e w' ⟨rfl, q, rfl⟩
    have hd := below_drewN (Below.refl w.heap.size w) q
    have hos := setCells_os g (((zs.take zs.length).take i ++ (zs.take zs.length).drop j ++ List.replicate (j - i) 0).map (Value.int .i64)) 0 (w.drewN q)
    have hlen : (((zs.take zs.length).take i ++ (zs.take zs.length).drop j ++ List.replicate (j - i) 0).map (Value.int .i64)).length = zs.length := by simp; omega
    have h2 := own_setCells (((zs.take zs.length).take i ++ (zs.take zs.length).drop j ++ List.replicate (j - i) 0).map (Value.int .i64)) 0 (w.drewN q) (zs.map iw) ho (by rw [hlen]; omega)
    have h3 := own_cut (m := zs.length - (j - i)) h2 (by omega)
    refine ⟨_, rfl, ?_, ⟨hos.1.trans hd.1, hos.2.1.trans hd.2, hos.2.2.1.trans hd.3, Nat.le_of_eq hos.2.2.2.symm, fun k hk hne => ?_⟩, rfl⟩
    · have e1 : (zs.take i ++ zs.drop j).length = zs.length - (j - i) := by simp; omega
      have e2 : (((zs.map iw).take 0 ++ ((zs.take zs.length).take i ++ (zs.take zs.length).drop j ++ List.replicate (j - i) 0).map (Value.int .i64) ++ (zs.map iw).drop (0 + (((zs.take zs.length).take i ++ (zs.take zs.length).drop j ++ List.replicate (j - i) 0).map (Value.int .i64)).length)).take (zs.length - (j - i))) = (zs.take i ++ zs.drop j).map iw := by
        exact del_list hij hj
      rw [e1, ← e2]; exact h3
    · exact (World.heap_setCells_other (w.drewN q) _ _ _ (i := k) hk (fun e => hne (by rw [e]; rfl))).trans (hd.block k hk)
end Go.Proofs.Ytblpekeikmblmaa.LineW
