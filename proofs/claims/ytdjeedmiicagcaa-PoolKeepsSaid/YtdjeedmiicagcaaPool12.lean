/- The walks of the pool, twelfth part: Insert ahead of somebody, where there is room. Conditions: rows are read rightly and are not too long. -/
import Derived.Test.YtdjeedmiicagcaaPool11
import Derived.Shelf.RegionOpenPlain
namespace Go.Proofs.Ytdjeedmiicagcaa.PoolW
open Go.RowKit
open Go.Proofs.Ytdjeedmiicagcaa.Words Go.Proofs.Ytdjeedmiicagcaa.NatW Go.Proofs.Ytdjeedmiicagcaa.PurseW

theorem size_due (w : World) : (Go.sizeOf 96).run Try.prog w = .ok 3 w := by
  obtain ⟨i0, hi0, hz0, hz1, hz2⟩ := info_parts info_due
  simp [Go.sizeOf, typeInfo, hi0, hz1]
theorem size_due' : (Try.prog.info? 96).map (·.size) = some 3 := by
  obtain ⟨i0, hi0, hz0, hz1, hz2⟩ := info_parts info_due
  rw [hi0]; simp [hz1]
theorem overlaps_due (w : World) (a b : Addr) (la ca lb cb : Nat) (hne : a.block ≠ b.block) (tA tB : TypeId) (kA kB : Nat) (hsa : w.shape? a.block = some (tA, kA)) (hsb : w.shape? b.block = some (tB, kB)) (hkB : kB ≠ 0)
    (hfa : w.frozen? a = false) (hfe : w.frozen? { block := a.block, off := kA } = false) :
    (callFunc 89 #[.slice (some a) la ca, .slice (some b) lb cb]).run Try.prog w = .ok (.value (.bool false)) w := by
  rw [run_callFunc_extern Try.func89 (by kernel_rfl) (by kernel_rfl) (by kernel_rfl) (e := Extern.SlicesOverlaps.overlaps #[58, 58] #[4]) (by kernel_rfl),
    Lib.run_overlaps_apart w 58 4 96 Try.underlying58 3 size_due a b la ca lb cb hne tA tB kA kB hsa hsb hkB hfa hfe]
  rfl
theorem enc_one (x : Du) : ∀ v ∈ Du.enc x, v.oneCell' = true := fun v hv => by
  simp [Du.enc] at hv
  rcases hv with rfl | rfl | rfl <;> rfl
theorem flat_take {α : Type} {enc : α → List Value} {sz : Nat} (h : ∀ d, (enc d).length = sz) (es : List α) (p : Nat) (hp : p ≤ es.length) : flat enc (es.take p) = (flat enc es).take (p * sz) := by
  have h1 := flat_append enc (es.take p) (es.drop p)
  have h2 : (flat enc (es.take p)).length = p * sz := by rw [flat_len h, List.length_take, Nat.min_eq_left hp]
  rw [List.take_append_drop] at h1
  rw [h1, ← h2, List.take_left]
theorem flat_drop {α : Type} {enc : α → List Value} {sz : Nat} (h : ∀ d, (enc d).length = sz) (es : List α) (p : Nat) (hp : p ≤ es.length) : flat enc (es.drop p) = (flat enc es).drop (p * sz) := by
  have h1 := flat_append enc (es.take p) (es.drop p)
  have h2 : (flat enc (es.take p)).length = p * sz := by rw [flat_len h, List.length_take, Nat.min_eq_left hp]
  rw [List.take_append_drop] at h1
  rw [h1, ← h2, List.drop_left]
theorem alloc_old (W : World) (o : Obj) {g : Nat} (h : g < W.heap.size) : (W.alloc o).heap[g]? = W.heap[g]? := by
  show (W.heap.push o)[g]? = _
  rw [Array.getElem?_push_lt h, Array.getElem?_eq_getElem h]
theorem alloc_new (W : World) (o : Obj) : (W.alloc o).heap[W.heap.size]? = some o := by
  show (W.heap.push o)[W.heap.size]? = _
  exact Array.getElem?_push_size

set_option maxHeartbeats 4000000 in
set_option maxRecDepth 100000 in
theorem insert_room (x : Du) (es : List Du) (p : Nat) (hp : p < es.length) (hn : es.length ≤ 1000) (W : World) (base g c : Nat) (cur : Array Value) (hb : base ≤ g) (hg : W.heap[g]? = some (.cells cur 96 (0, 0)))
    (hnc : es.length + 1 ≤ c) (hcm : c ≤ maxLen) (hcs : cur.size = c * 3) (hxs : cur.toList.take (es.length * 3) = flat Du.enc es) :
    Calls Try.prog 82 #[.slice (some ⟨g, 0, none⟩) es.length c, .int .i64 p, .slice (some ⟨W.heap.size, 0, none⟩) 1 1] (W.alloc (.cells #[.int .i64 x.ac, .int .i64 x.ti, .int .u64 x.am] 96)) (InsPost base W es x p) := by
  obtain ⟨n, hN⟩ : ∃ n, es.length = n := ⟨_, rfl⟩
  have HNl := Lib.hid hN
  have hxl : (flat Du.enc es).length = n * 3 := by rw [flat_len Du.len, hN]
  rw [hN] at hp hn hnc hxs ⊢
  obtain ⟨X, hX⟩ : ∃ X, X = flat Du.enc es := ⟨_, rfl⟩
  have HX1 : ∀ v ∈ X, v.oneCell' = true := by rw [hX]; exact Du.one es
  rw [← hX] at hxs hxl
  obtain ⟨X2, hX2⟩ : ∃ X2, X2 = X.drop (p * 3) := ⟨_, rfl⟩
  have HX2 : ∀ v ∈ X2, v.oneCell' = true := fun v hv => HX1 v (by rw [hX2] at hv; exact List.mem_of_mem_drop hv)
  have hX2l : X2.length = (n - p) * 3 := by rw [hX2, List.length_drop, hxl]; omega
  obtain ⟨cl, hcl⟩ : ∃ cl, cl = cur.toList := ⟨_, rfl⟩
  have hgl : W.heap[g]? = some (.cells cl.toArray 96 (0, 0)) := by rw [hcl]; simpa using hg
  have hcll : cl.length = c * 3 := by rw [hcl]; simpa using hcs
  rw [← hcl] at hxs
  have hgW : g < W.heap.size := by
    rcases Nat.lt_or_ge g W.heap.size with h | h
    · exact h
    · rw [Array.getElem?_eq_none h] at hgl; cases hgl
  obtain ⟨W1, hW1⟩ : ∃ W1, W1 = W.alloc (.cells #[.int .i64 x.ac, .int .i64 x.ti, .int .u64 x.am] 96) := ⟨_, rfl⟩
  have hb1 : Below base W W1 := by rw [hW1]; exact (Below.refl _ _).alloc (by omega) _
  have hg1 : W1.heap[g]? = some (.cells cl.toArray 96 (0, 0)) := by
    rw [hW1, alloc_old _ _ hgW, hgl]
  have hl1 : W1.heap[W.heap.size]? = some (.cells #[.int .i64 x.ac, .int .i64 x.ti, .int .u64 x.am] 96 (0, 0)) := by
    rw [hW1]; exact alloc_new _ _
  have hov : ∀ lb cb, (callFunc 89 #[.slice (some ⟨W.heap.size, 0, none⟩) 1 1, .slice (some ⟨g, (p + 1) * 3, none⟩) lb cb]).run Try.prog W1 = .ok (.value (.bool false)) W1 := fun lb cb =>
    overlaps_due W1 ⟨W.heap.size, 0, none⟩ ⟨g, (p + 1) * 3, none⟩ 1 1 lb cb (by show W.heap.size ≠ g; omega) 96 96 3 cl.length (by simp [World.shape?, hl1]) (by simp [World.shape?, hg1]) (by omega) (by simp [World.frozen?, hl1]) (by simp [World.frozen?, hl1])
  have hsrc1 : ∀ w' : World, w'.heap[g]? = some (.cells cl.toArray 96 (0, 0)) → ∀ j v, X2[j]? = some v → w'.cell? ((⟨g, p * 3, none⟩ : Addr).add j) = some v := fun w' hw' j v hj => by
    have h1 : X[p * 3 + j]? = some v := by rw [hX2, List.getElem?_drop] at hj; exact hj
    have h2 : cl[p * 3 + j]? = some v := by
      rw [← hxs, List.getElem?_take] at h1
      split at h1
      · exact h1
      · cases h1
    rw [Addr.add_lit]
    simp [World.cell?, hw', h2]
  have hsrc2 : ∀ w' : World, w'.heap[W.heap.size]? = some (.cells #[.int .i64 x.ac, .int .i64 x.ti, .int .u64 x.am] 96 (0, 0)) → ∀ j v, (Du.enc x)[j]? = some v → w'.cell? ((⟨W.heap.size, 0, none⟩ : Addr).add j) = some v := fun w' hw' j v hj => by
    have hj' : (#[.int .i64 x.ac, .int .i64 x.ti, .int .u64 x.am] : Array Value)[j]? = some v := by simpa [Du.enc] using hj
    rw [Addr.add_lit]
    simp [World.cell?, hw', hj']
  have hres := splice_shift cl (Du.enc x) X n p rfl hxl (by omega) (by omega) hxs
  rw [← hX2] at hres
  unfold maxLen at hcm
  have HR := Lib.hid hres
  have HE := Lib.hid (show flat Du.enc (es.take p ++ x :: es.drop p) = X.take (p * 3) ++ (Du.enc x ++ X2) by
    have h1 : flat Du.enc (es.take p) = X.take (p * 3) := by rw [hX]; exact flat_take Du.len es p (by omega)
    have h2 : flat Du.enc (es.drop p) = X2 := by rw [hX2, hX]; exact flat_drop Du.len es p (by omega)
    rw [flat_append, h1, show x :: es.drop p = [x] ++ es.drop p from rfl, flat_append, flat_one, h2])
  obtain ⟨Y, hY⟩ : ∃ Y, Y = Du.enc x := ⟨_, rfl⟩
  have HY1 := enc_one x
  have hYl : Y.length = 3 := by rw [hY]; rfl
  rw [← hY] at hsrc2 HR HE HY1
  have HW1 := Lib.hid hW1
  rw [← hW1]
  have hz1 : ((p : Int) == (n : Int)) = false := by rw [beq_eq_false_iff_ne]; omega
  have hw1 : IntKind.i64.wrap ((n : Int) + 1) = (n : Int) + 1 := by rw [IntKind.wrap_i64]; omega
  have hw2 : IntKind.i64.wrap ((p : Int) + 1) = (p : Int) + 1 := by rw [IntKind.wrap_i64]; omega
  have hc1 : ¬ ((c : Int) < (n : Int) + 1) := by omega
  have hb3 : (p : Int) ≤ (n : Int) := by omega
  have hb2 : ¬ (c = p + 1) := by omega
  have hb4 : ¬ (c = p) := by omega
  have hb5 : ((p : Int) + 1).toNat = p + 1 := by omega
  have hb6 : ((n : Int) + 1).toNat = n + 1 := by omega
  have hb8 : (p : Int) ≤ (n : Int) + 1 := by omega
  have hb7 : (0 : Int) ≤ (p : Int) + 1 := by omega
  have mixed : Try.prog.follows Departure.mixedOrders = true := by kernel_rfl
  clear hW1 hX hX2 hY hN hg hcs hxs hcl hres HX1 hgl
  go_enter Try.func82, Try.ntmps82
  go_wp2_with (simp only [hov])
  go_region_law_o (refine step_copy_splicek rfl (.tmp 73) (.tmp 76) 58 58 rfl 96 Try.underlying58 3 size_due' g ((p + 1) * 3) (n + 1 - (p + 1)) (c - (p + 1)) ⟨g, p * 3, none⟩ (n + 1 - p) (c - p) (by simp [Act.eval, Act.put]) (by simp [Act.eval, Act.put]) cl 96 hg1 (n - p) (by simp only [Nat.min_def]; split <;> omega) X2 hX2l (hsrc1 _ hg1) (by omega) HX2 base W hb1.drew hb ?_; intro w2 HG2 hB2 hO2)
  have hn2 : ∀ k, k ≠ g → w2.heap[k]? = W1.heap[k]? := hO2
  have hl2 := (hn2 W.heap.size (by omega)).trans hl1
  have HLS := Lib.hid (length_splice cl ((p + 1) * 3) X2 (by omega))
  clear hov hO2 hn2 hl1 hg1 hb1 hsrc1
  go_wp2_with (refine wpList_copy_splicek rfl (.tmp 80) (.tmp 81) 58 58 rfl 96 Try.underlying58 3 size_due' g (p * 3) _ _ ⟨W.heap.size, 0, none⟩ _ _ rfl rfl _ 96 HG2.out 1 (by simp only [Nat.min_def]; split <;> omega) Y (by omega) (hsrc2 _ hl2) (by rw [HLS.out]; omega) HY1 base W hB2 hb ?_; intro w3 HG3 hB3 hO3)
  go_ret
  have HF := HNl.out
  have HL3 := length_splice (splice cl ((p + 1) * 3) X2) (p * 3) Y (by rw [HLS.out]; omega)
  refine InsPost.mk _ rfl (by
    rw [HF]
    refine ⟨?_, .inr ⟨g, c, _, rfl, hb, HG3.out, by omega, by unfold maxLen; omega, ?_, ?_⟩⟩
    · rw [HE.out]
      simp only [List.length_append, List.length_take, hxl, hYl, hX2l]
      omega
    · rw [List.size_toArray, HL3, HLS.out, hcll]
    · rw [HE.out, ← HR.out]) hB3
end Go.Proofs.Ytdjeedmiicagcaa.PoolW
