/- The walks of the pool, thirteenth part: Insert ahead of somebody, where there is no room; Insert at any place. Conditions: rows are read rightly and are not too long. -/
import Derived.Test.YtdjeedmiicagcaaPool12
namespace Go.Proofs.Ytdjeedmiicagcaa.PoolW
open Go.RowKit
open Go.Proofs.Ytdjeedmiicagcaa.Words Go.Proofs.Ytdjeedmiicagcaa.NatW Go.Proofs.Ytdjeedmiicagcaa.PurseW

theorem zeros_len (z : Array Value) (k : Nat) (hz : z.size = 3) : (Builtin.zeroCells z k).size = k * 3 := by
  simp [Builtin.zeroCells, hz]
theorem grow_row (X : List Value) (Z : Array Value) (n p G : Nat) (hX : X.length = n * 3) (hp : p ≤ n) (hG : n + 1 ≤ G) (hz : Z.size = 3) :
    ∃ cl : List Value, cl.toArray = (X.take (p * 3)).toArray ++ Builtin.zeroCells Z (n + 1 - p) ++ Builtin.zeroCells Z (G - (n + 1)) ∧ cl.length = G * 3 ∧ cl.take (p * 3) = X.take (p * 3) := by
  refine ⟨((X.take (p * 3)).toArray ++ Builtin.zeroCells Z (n + 1 - p) ++ Builtin.zeroCells Z (G - (n + 1))).toList, by simp, ?_, ?_⟩
  · have h1 := zeros_len Z (n + 1 - p) hz
    have h2 := zeros_len Z (G - (n + 1)) hz
    simp only [Array.length_toList, Array.size_append, h1, h2, List.size_toArray, List.length_take, hX]
    omega
  · simp only [Array.toList_append, List.append_assoc]
    rw [List.take_append_of_le_length (by simp [hX]; omega), List.take_of_length_le (by simp; omega)]

set_option maxHeartbeats 4000000 in
set_option maxRecDepth 100000 in
theorem insert_tight (x : Du) (es : List Du) (p : Nat) (hp : p < es.length) (hn : es.length ≤ 1000) (W : World) (base g : Nat) (cur : Array Value) (hg : W.heap[g]? = some (.cells cur 96 (0, 0)))
    (hcs : cur.size = es.length * 3) (hxs : cur.toList.take (es.length * 3) = flat Du.enc es) (hbW : base ≤ W.heap.size) :
    Calls Try.prog 82 #[.slice (some ⟨g, 0, none⟩) es.length es.length, .int .i64 p, .slice (some ⟨W.heap.size, 0, none⟩) 1 1] (W.alloc (.cells #[.int .i64 x.ac, .int .i64 x.ti, .int .u64 x.am] 96)) (InsPost base W es x p) := by
  obtain ⟨n, hN⟩ : ∃ n, es.length = n := ⟨_, rfl⟩
  have HNl := Lib.hid hN
  have hxl : (flat Du.enc es).length = n * 3 := by rw [flat_len Du.len, hN]
  rw [hN] at hp hn hxs hcs ⊢
  obtain ⟨X, hX⟩ : ∃ X, X = flat Du.enc es := ⟨_, rfl⟩
  have HX1 : ∀ v ∈ X, v.oneCell' = true := by rw [hX]; exact Du.one es
  rw [← hX] at hxs hxl
  obtain ⟨X2, hX2⟩ : ∃ X2, X2 = X.drop (p * 3) := ⟨_, rfl⟩
  have HX2 : ∀ v ∈ X2, v.oneCell' = true := fun v hv => HX1 v (by rw [hX2] at hv; exact List.mem_of_mem_drop hv)
  have hX2l : X2.length = (n - p) * 3 := by rw [hX2, List.length_drop, hxl]; omega
  have hcX : cur.toList = X := by rw [← hxs, List.take_of_length_le (by simp [hcs])]
  have hgl : W.heap[g]? = some (.cells X.toArray 96 (0, 0)) := by rw [← hcX]; simpa using hg
  have hgW : g < W.heap.size := by
    rcases Nat.lt_or_ge g W.heap.size with h | h
    · exact h
    · rw [Array.getElem?_eq_none h] at hgl; cases hgl
  obtain ⟨W1, hW1⟩ : ∃ W1, W1 = W.alloc (.cells #[.int .i64 x.ac, .int .i64 x.ti, .int .u64 x.am] 96) := ⟨_, rfl⟩
  have hb1 : Below base W W1 := by rw [hW1]; exact (Below.refl _ _).alloc hbW _
  have hs1 : W1.heap.size = W.heap.size + 1 := by rw [hW1]; simp
  have hg1 : W1.heap[g]? = some (.cells X.toArray 96 (0, 0)) := by
    rw [hW1, alloc_old _ _ hgW, hgl]
  have hl1 : W1.heap[W.heap.size]? = some (.cells #[.int .i64 x.ac, .int .i64 x.ti, .int .u64 x.am] 96 (0, 0)) := by
    rw [hW1]; exact alloc_new _ _
  have hsrc1 : ∀ w' : World, w'.heap[g]? = some (.cells X.toArray 96 (0, 0)) → ∀ q, ∀ j v, (X.drop (q * 3))[j]? = some v → w'.cell? ((⟨g, q * 3, none⟩ : Addr).add j) = some v := fun w' hw' q j v hj => by
    have h1 : X[q * 3 + j]? = some v := by rw [List.getElem?_drop] at hj; exact hj
    rw [Addr.add_lit]
    simp [World.cell?, hw', h1]
  have hsrc2 : ∀ w' : World, w'.heap[W.heap.size]? = some (.cells #[.int .i64 x.ac, .int .i64 x.ti, .int .u64 x.am] 96 (0, 0)) → ∀ j v, (Du.enc x)[j]? = some v → w'.cell? ((⟨W.heap.size, 0, none⟩ : Addr).add j) = some v := fun w' hw' j v hj => by
    have hj' : (#[.int .i64 x.ac, .int .i64 x.ti, .int .u64 x.am] : Array Value)[j]? = some v := by simpa [Du.enc] using hj
    rw [Addr.add_lit]
    simp [World.cell?, hw', hj']
  obtain ⟨i0, hi0, hz0, hzs, hzb⟩ := info_parts info_due
  have hold : (Builtin.firstCells i0.size p (.slice (some ⟨g, 0, none⟩) p n)).run Try.prog W1.drew = .ok (X.take (p * 3)).toArray W1.drew := by
    rw [hzs]
    exact run_firstCells_some W1.drew 3 p ⟨g, 0, none⟩ p n (X.take (p * 3)) (by rw [List.length_take]; omega) (fun j v hj => by
      rw [List.getElem?_take] at hj
      split at hj
      · simpa using hsrc1 W1.drew hg1 0 j v (by simpa using hj)
      · cases hj)
  have hik : p + (n + 1 - p) = n + 1 := by omega
  have hkk : (n : Int) + 1 - (p : Int) = ((n + 1 - p : Nat) : Int) := by omega
  obtain ⟨G, hG⟩ : ∃ G, G = grownCap W1 (n + 1) n 96 := ⟨_, rfl⟩
  have hGn : n + 1 ≤ G := by rw [hG]; exact grownCap_ge W1 _ _ _
  have hG63 : G ≤ 9223372036854775807 := by
    have := grownCap_le_maxLen W1 (n + 1) n 96 (by unfold maxLen; omega)
    rw [← hG] at this
    unfold maxLen at this
    omega
  obtain ⟨cl, hcl, hcll, hclt⟩ := grow_row X (Value.agg #[.int .i64 0, .int .i64 0, .int .u64 0]).cells n p G hxl (by omega) hGn rfl
  have hrz : ∀ ty, (Builtin.append_ #[58, 3] ty #[.slice (some ⟨g, 0, none⟩) p n, .int .i64 ((n : Int) + 1 - (p : Int))]).run Try.prog W1 =
      .ok (.slice (some ⟨W.heap.size + 1, 0, none⟩) (n + 1) G) (W1.drew.alloc (.cells cl.toArray 96)) := fun ty => by
    have h := Lib.run_append_grow_zeros W1 58 3 ty 96 i0 _ .i64 .i64 Try.underlying58 Try.underlying3 hi0 hz0 (some ⟨g, 0, none⟩) p n (X.take (p * 3)) hold (n + 1 - p) (by omega) (by omega) (by omega) (by omega) (by rw [hzb]; omega) (by rw [hzb, hik]; exact growslice_fits (by omega) (by omega))
    rw [hik, hs1, ← hG] at h
    rw [hkk, hcl]
    exact h
  obtain ⟨W2, hW2⟩ : ∃ W2, W2 = W1.drew.alloc (.cells cl.toArray 96) := ⟨_, rfl⟩
  rw [← hW2] at hrz
  have hb2 : Below base W W2 := by rw [hW2]; exact hb1.drew.alloc (by show base ≤ W1.heap.size; omega) _
  have hr2 : W2.heap[W.heap.size + 1]? = some (.cells cl.toArray 96 (0, 0)) := by rw [hW2, ← hs1]; exact alloc_new W1.drew _
  have hg2 : W2.heap[g]? = some (.cells X.toArray 96 (0, 0)) := by rw [hW2]; exact (alloc_old W1.drew _ (by show g < W1.heap.size; omega)).trans hg1
  have hl2 : W2.heap[W.heap.size]? = some (.cells #[.int .i64 x.ac, .int .i64 x.ti, .int .u64 x.am] 96 (0, 0)) := by rw [hW2]; exact (alloc_old W1.drew _ (by show W.heap.size < W1.heap.size; omega)).trans hl1
  have hres := splice_grow cl (Du.enc x) X n p rfl hxl (by omega) (by omega) hclt
  rw [← hX2] at hres
  have HR := Lib.hid hres
  have HE := Lib.hid (show flat Du.enc (es.take p ++ x :: es.drop p) = X.take (p * 3) ++ (Du.enc x ++ X2) by
    have h1 : flat Du.enc (es.take p) = X.take (p * 3) := by rw [hX]; exact flat_take Du.len es p (by omega)
    have h2 : flat Du.enc (es.drop p) = X2 := by rw [hX2, hX]; exact flat_drop Du.len es p (by omega)
    rw [flat_append, h1, show x :: es.drop p = [x] ++ es.drop p from rfl, flat_append, flat_one, h2])
  obtain ⟨Y, hY⟩ : ∃ Y, Y = Du.enc x := ⟨_, rfl⟩
  have HY1 := enc_one x
  have hYl : Y.length = 3 := by rw [hY]; rfl
  rw [← hY] at hsrc2 HR HE HY1
  have HS1 := Lib.hid (fun w' hw' => hX2 ▸ hsrc1 w' hw' p)
  have HLS := Lib.hid (length_splice cl (p * 3) Y (by omega))
  have HCL := Lib.hid hcll
  rw [← hW1]
  have hz1 : ((p : Int) == (n : Int)) = false := by rw [beq_eq_false_iff_ne]; omega
  have hw1 : IntKind.i64.wrap ((n : Int) + 1) = (n : Int) + 1 := by rw [IntKind.wrap_i64]; omega
  have hw2 : IntKind.i64.wrap ((p : Int) + 1) = (p : Int) + 1 := by rw [IntKind.wrap_i64]; omega
  have hw3 : IntKind.i64.wrap ((n : Int) + 1 - (p : Int)) = (n : Int) + 1 - (p : Int) := by rw [IntKind.wrap_i64]; omega
  have hc1 : (n : Int) < (n : Int) + 1 := by omega
  have hb3 : (p : Int) ≤ (n : Int) := by omega
  have hbA : ¬ (G = p + 1) := by omega
  have hbB : ¬ (n = p) := by omega
  have hbC : ¬ (G = p) := by omega
  have hb5 : ((p : Int) + 1).toNat = p + 1 := by omega
  have hb7 : (0 : Int) ≤ (p : Int) + 1 := by omega
  have hb8 : (p : Int) ≤ (n : Int) + 1 := by omega
  have mixed : Try.prog.follows Departure.mixedOrders = true := by kernel_rfl
  clear hW1 hX hX2 hY hN hg hcs hxs hcl hres HX1 hgl hcX hsrc1 hold hik hkk hG hcll hclt hW2 hg1 hl1 hi0 hz0 hzs hzb hb1
  go_enter Try.func82, Try.ntmps82
  go_wp2_with (first
    | (at_builtin; refine Lib.wpList_append_run _ rfl _ _ _ _ rfl _ _ rfl rfl _ _ (hrz _) ?_)
    | (refine wpList_copy_splicek rfl (.tmp 43) (.tmp 44) 58 58 rfl 96 Try.underlying58 3 size_due' (W.heap.size + 1) (p * 3) _ _ ⟨W.heap.size, 0, none⟩ _ _ rfl rfl _ 96 hr2 1 (by simp only [Nat.min_def]; split <;> omega) Y (by omega) (hsrc2 _ hl2) (by rw [HCL.out]; omega) HY1 base W hb2 (by omega) ?_; intro w3 HG3 hB3 hO3))
  have hg3 := (hO3 g (by omega)).trans hg2
  have h3 := HS1.out w3 hg3
  go_region_law_o (refine step_copy_splicek rfl (.tmp 50) (.tmp 53) 58 58 rfl 96 Try.underlying58 3 size_due' (W.heap.size + 1) ((p + 1) * 3) (n + 1 - (p + 1)) (G - (p + 1)) ⟨g, p * 3, none⟩ (n - p) (n - p) (by simp [Act.eval, Act.put]) (by simp [Act.eval, Act.put]) _ 96 HG3.out (n - p) (by simp only [Nat.min_def]; split <;> omega) X2 hX2l h3 (by rw [HLS.out, HCL.out]; omega) HX2 base W hB3.drew (by omega) ?_; intro w4 HG4 hB4 hO4)
  go_wp2
  go_ret
  have HF := HNl.out
  have HL3 := length_splice (splice cl (p * 3) Y) ((p + 1) * 3) X2 (by rw [HLS.out, HCL.out]; omega)
  refine InsPost.mk _ rfl (by
    rw [HF]
    refine ⟨?_, .inr ⟨W.heap.size + 1, G, _, rfl, by omega, HG4.out, by omega, by unfold maxLen; omega, ?_, ?_⟩⟩
    · rw [HE.out]
      simp only [List.length_append, List.length_take, hxl, hYl, hX2l]
      omega
    · rw [List.size_toArray, HL3, HLS.out, HCL.out]
    · rw [HE.out, ← HR.out]) hB4

theorem insert_any (x : Du) (es : List Du) (hn : es.length ≤ 1000) (p : Nat) (hp : p ≤ es.length) : InsHolds x es p := by
  rcases Nat.lt_or_ge p es.length with hlt | hge
  · intro W base v ho hb
    rcases ho.2 with ⟨rfl, h0⟩ | ⟨g, c, cur, rfl, hbg, hg, hnc, hcm, hcs, hxs⟩
    · omega
    · rcases Nat.lt_or_ge es.length c with h1 | h1
      · exact insert_room x es p hlt hn W base g c cur hbg hg h1 hcm hcs hxs
      · obtain rfl : c = es.length := by omega
        exact insert_tight x es p hlt hn W base g cur hg hcs hxs hb
  · obtain rfl : p = es.length := by omega
    exact insert_end x es hn
end Go.Proofs.Ytdjeedmiicagcaa.PoolW
