/- The walks of the pool, fifth part: Insert at the end, Owe. Conditions: rows are read rightly and are not too long. Printed by gen_pool5.py. -/
import Derived.Test.YtdjeedmiicagcaaPool4
namespace Go.Proofs.Ytdjeedmiicagcaa.PoolW
open Go.RowKit
open Go.Proofs.Ytdjeedmiicagcaa.Words Go.Proofs.Ytdjeedmiicagcaa.NatW Go.Proofs.Ytdjeedmiicagcaa.PurseW

/-- what an insertion of one leaves -/
def InsPost (base : Nat) (W : World) (es : List Du) (x : Du) (p : Nat) (e : Ending) (w' : World) : Prop :=
  ∃ v', e = .returned v' ∧ w'.ownsRow base 96 3 v' (es.length + 1) (flat Du.enc (es.take p ++ x :: es.drop p)) ∧ Below base W w'
theorem InsPost.mk {base : Nat} {W : World} {es : List Du} {x : Du} {p : Nat} {e : Ending} {w' : World} (v' : Value) (h1 : e = .returned v') (h2 : w'.ownsRow base 96 3 v' (es.length + 1) (flat Du.enc (es.take p ++ x :: es.drop p))) (h3 : Below base W w') : InsPost base W es x p e w' := ⟨v', h1, h2, h3⟩
def InsHolds (x : Du) (es : List Du) (p : Nat) : Prop := ∀ (W : World) (base : Nat) (v : Value), W.ownsRow base 96 3 v es.length (flat Du.enc es) → base ≤ W.heap.size →
  Calls Try.prog 82 #[v, .int .i64 p, .slice (some ⟨W.heap.size, 0, none⟩) 1 1] (W.alloc (.cells #[.int .i64 x.ac, .int .i64 x.ti, .int .u64 x.am] 96)) (InsPost base W es x p)
theorem lit_row (W : World) (x : Du) : SRow (W.alloc (.cells #[.int .i64 x.ac, .int .i64 x.ti, .int .u64 x.am] 96)) (W.alloc (.cells #[.int .i64 x.ac, .int .i64 x.ti, .int .u64 x.am] 96)).heap.size (some ⟨W.heap.size, 0, none⟩) 1 3 (flat Du.enc [x]) :=
  ⟨rfl, fun j hj => ⟨_, rfl, by simp, by
    have h := cells_new W (Du.enc x) 96 W.heap.size rfl j (vat (flat Du.enc [x]) j) (by rw [flat_one]; exact vat_at (by simpa [Du.len] using hj))
    exact h⟩⟩
set_option maxHeartbeats 1000000 in
theorem insert_end (x : Du) (es : List Du) (hn : es.length ≤ 1000) : InsHolds x es es.length := by
  intro W base v ho hb
  obtain ⟨i0, hi0, hz0, hz1, hz2⟩ := info_parts info_due
  obtain ⟨n, hN⟩ : ∃ n, es.length = n := ⟨_, rfl⟩
  have HE := Lib.hid (show flat Du.enc (es.take n ++ x :: es.drop n) = flat Du.enc es ++ flat Du.enc [x] by rw [← hN, List.take_of_length_le (Nat.le_refl _), List.drop_of_length_le (Nat.le_refl _), flat_append])
  have HNl := Lib.hid hN
  rw [hN] at ho hn ⊢
  have hl := lit_row W x
  have ho1 := ho.alloc (.cells #[.int .i64 x.ac, .int .i64 x.ti, .int .u64 x.am] 96)
  have ho0 := ho
  have e1 : ((n : Int) == (n : Int)) = true := by simp
  rcases ho.2 with ⟨rfl, h0⟩ | ⟨g, c, cur, rfl, _, _, hnc, hcm, _⟩
  · subst h0
    clear hN ho ho0
    go_enter Try.func82, Try.ntmps82
    go_wp2_with (at_builtin; refine wpList_append_rows _ rfl _ _ 58 rfl base 96 i0 (.agg #[.int .i64 0, .int .i64 0, .int .u64 0]) 3 24 Try.underlying58 hi0 hz0 hz1 hz2 rfl (by decide) _ _ _ rfl ho1 (some ⟨W.heap.size, 0, none⟩) 1 1 _ rfl hl (Du.one [x]) ?_ ?_ (by simp; omega) ?_)
    · unfold maxLen; omega
    · omega
    intro v' w1 hown hg
    have hb1 : Below base W w1 := ((Below.refl _ _).alloc hb (.cells #[.int .i64 x.ac, .int .i64 x.ti, .int .u64 x.am] 96)).grown hg (by simp; omega) (fun k hk => (ho1.lt k hk).1)
    clear hg ho1 hl
    go_wp2
    go_ret
    exact InsPost.mk _ rfl (by rw [HE.out, HNl.out]; exact hown) hb1
  · unfold maxLen at hcm
    have f0 : decide (n ≤ c) = true := by simpa using hnc
    by_cases hcn : c = n
    · clear hN ho ho0
      go_enter Try.func82, Try.ntmps82
      go_wp2_with (at_builtin; refine wpList_append_rows _ rfl _ _ 58 rfl base 96 i0 (.agg #[.int .i64 0, .int .i64 0, .int .u64 0]) 3 24 Try.underlying58 hi0 hz0 hz1 hz2 rfl (by decide) _ _ _ rfl ho1 (some ⟨W.heap.size, 0, none⟩) 1 1 _ rfl hl (Du.one [x]) ?_ ?_ (by simp; omega) ?_)
      · unfold maxLen; omega
      · omega
      intro v' w1 hown hg
      have hb1 : Below base W w1 := ((Below.refl _ _).alloc hb (.cells #[.int .i64 x.ac, .int .i64 x.ti, .int .u64 x.am] 96)).grown hg (by simp; omega) (fun k hk => (ho1.lt k hk).1)
      clear hg ho1 hl
      go_wp2
      go_ret
      exact InsPost.mk _ rfl (by rw [HE.out, HNl.out]; exact hown) hb1
    · clear hN ho ho0
      go_enter Try.func82, Try.ntmps82
      go_wp2_with (at_builtin; refine wpList_append_rows _ rfl _ _ 58 rfl base 96 i0 (.agg #[.int .i64 0, .int .i64 0, .int .u64 0]) 3 24 Try.underlying58 hi0 hz0 hz1 hz2 rfl (by decide) _ _ _ rfl ho1 (some ⟨W.heap.size, 0, none⟩) 1 1 _ rfl hl (Du.one [x]) ?_ ?_ (by simp; omega) ?_)
      · unfold maxLen; omega
      · omega
      intro v' w1 hown hg
      have hb1 : Below base W w1 := ((Below.refl _ _).alloc hb (.cells #[.int .i64 x.ac, .int .i64 x.ti, .int .u64 x.am] 96)).grown hg (by simp; omega) (fun k hk => (ho1.lt k hk).1)
      clear hg ho1 hl
      go_wp2
      go_ret
      exact InsPost.mk _ rfl (by rw [HE.out, HNl.out]; exact hown) hb1

/-- what Owe hands back -/
def OweOk (w : World) (es : List Du) (e : Ending) (w' : World) : Prop :=
  ∃ v, e = .returned (.tuple #[v, .int .i64 0]) ∧ w'.ownsRow w.heap.size 96 3 v es.length (flat Du.enc es) ∧ Below w.heap.size w w'
theorem OweOk.mk {w : World} {es : List Du} {e : Ending} {w' : World} (v : Value) (h1 : e = .returned (.tuple #[v, .int .i64 0])) (h2 : w'.ownsRow w.heap.size 96 3 v es.length (flat Du.enc es)) (h3 : Below w.heap.size w w') : OweOk w es e w' := ⟨v, h1, h2, h3⟩
/-- an account that is one, a tick that is one -/
def OweArg (d : Du) : Prop := 0 ≤ d.ac ∧ d.ac ≤ 63 ∧ 0 ≤ d.ti

set_option maxHeartbeats 1000000 in
theorem owe_arg (A : Option Addr) (n c : Nat) (d : Du) (w : World) (h : ¬ OweArg d) :
    Calls Try.prog 54 #[.slice A n c, .agg #[.int .i64 d.ac, .int .i64 d.ti, .int .u64 d.am]] w fun e w' => e = .returned (.tuple #[.slice none 0 0, .int .i64 2]) ∧ Below w.heap.size w w' := by
  by_cases h1 : 0 ≤ d.ac ∧ d.ac ≤ 63
  · have HW := Lib.hid (within_yes d.ac 0 63 h1.1 h1.2)
    have d1 : decide (d.ti < 0) = true := by
      rw [decide_eq_true_iff]
      exact Int.not_le.1 (fun h2 => h ⟨h1.1, h1.2, h2⟩)
    clear h h1
    go_enter Try.func54, Try.ntmps54
    go_wp2_with fail
    refine (HW.out _).mono ?_
    rintro e w' ⟨rfl, rfl⟩
    go_wp2
    go_ret2
    exact ⟨rfl, (Below.refl _ _).alloc (Nat.le_refl _) _⟩
  · have HW := Lib.hid (within_no d.ac 0 63 (by omega))
    clear h h1
    go_enter Try.func54, Try.ntmps54
    go_wp2_with fail
    refine (HW.out _).mono ?_
    rintro e w' ⟨rfl, rfl⟩
    go_wp2
    go_ret2
    exact ⟨rfl, (Below.refl _ _).alloc (Nat.le_refl _) _⟩

set_option maxHeartbeats 1000000 in
theorem owe_over (A : Option Addr) (n c : Nat) (d : Du) (w : World) (h : OweArg d) (ho : 4611686018427387904 < d.am) :
    Calls Try.prog 54 #[.slice A n c, .agg #[.int .i64 d.ac, .int .i64 d.ti, .int .u64 d.am]] w fun e w' => e = .returned (.tuple #[.slice none 0 0, .int .i64 10]) ∧ Below w.heap.size w w' := by
  have HW := Lib.hid (within_yes d.ac 0 63 h.1 h.2.1)
  have d1 : decide (d.ti < 0) = false := by rw [decide_eq_false_iff_not]; have := h.2.2; omega
  have d2 : decide ((4611686018427387904 : Int) < d.am) = true := by rw [decide_eq_true_iff]; omega
  clear h ho
  go_enter Try.func54, Try.ntmps54
  go_wp2_with fail
  refine (HW.out _).mono ?_
  rintro e w' ⟨rfl, rfl⟩
  go_wp2
  go_ret2
  exact ⟨rfl, (Below.refl _ _).alloc (Nat.le_refl _) _⟩

set_option maxHeartbeats 1000000 in
theorem owe_zero (A : Option Addr) (n c : Nat) (ds : List Du) (d : Du) (w : World) (hR : SRow w w.heap.size A n 3 (flat Du.enc ds)) (hn : n ≤ 900) (hA : A = none → n = 0 ∧ c = 0) (h : OweArg d) (h0 : d.am = 0) :
    Calls Try.prog 54 #[.slice A n c, .agg #[.int .i64 d.ac, .int .i64 d.ti, .int .u64 d.am]] w (OweOk w ds) := by
  have HW := Lib.hid (within_yes d.ac 0 63 h.1 h.2.1)
  have d1 : decide (d.ti < 0) = false := by rw [decide_eq_false_iff_not]; have := h.2.2; omega
  have d2 : decide ((4611686018427387904 : Int) < d.am) = false := by rw [decide_eq_false_iff_not]; omega
  have d3 : ((d.am : Int) == 0) = true := by rw [h0]; rfl
  have hal : Below w.heap.size w (w.alloc (.cells #[.int .i64 d.ac, .int .i64 d.ti, .int .u64 d.am] 96)) := (Below.refl _ _).alloc (Nat.le_refl _) _
  have HC := Lib.hid (clone_due A n c ds _ (hR.to hal) (by omega) hA)
  have HL := Lib.hid (hR.len Du.len (by omega))
  have hs := hal.size
  clear h h0 hR hA
  go_enter Try.func54, Try.ntmps54
  go_wp2_with fail
  refine (HW.out _).mono ?_
  rintro e w' ⟨rfl, rfl⟩
  go_wp2_with fail
  refine HC.out.mono ?_
  rintro e w2 ⟨v, rfl, ho, hb2⟩
  have hb := hal.trans (hb2.mono hs)
  have HO := Lib.hid (show w2.ownsRow w.heap.size 96 3 v ds.length (flat Du.enc ds) by rw [HL.out]; exact own_low ho hs)
  clear hb2 hal ho HC hs
  go_wp2
  go_ret2
  exact OweOk.mk _ rfl HO.out hb

/-- the list behind one more -/
def upd (ds : List Du) (k : Nat) (s : Nat) : List Du := match ds[k]? with
  | none => ds
  | some x => ds.set k ⟨x.ac, x.ti, s⟩
theorem FirstAt.hit {p : Du → Bool} {ds : List Du} {r : Int} {k : Nat} {x : Du} (h : FirstAt p ds r) (hk : ds[k]? = some x) (hx : p x = true) (hno : ∀ (j : Nat) (y : Du), j < k → ds[j]? = some y → p y = false) : r = (k : Int) := by
  rcases h with ⟨k', x', rfl, h1, h2, h3⟩ | ⟨_, h1⟩
  · rcases Nat.lt_trichotomy k k' with h | h | h
    · have := h3 k x h hk; rw [hx] at this; cases this
    · rw [h]
    · have := hno k' x' h h1; rw [h2] at this; cases this
  · have := h1 k x hk; rw [hx] at this; cases this
theorem FirstAt.miss {p : Du → Bool} {ds : List Du} {r : Int} (h : FirstAt p ds r) (hno : ∀ (j : Nat) (y : Du), ds[j]? = some y → p y = false) : r = -1 := by
  rcases h with ⟨k', x', rfl, h1, h2, h3⟩ | ⟨h0, _⟩
  · have := hno k' x' h1; rw [h2] at this; cases this
  · exact h0
theorem flat_set (ds : List Du) (k : Nat) (x : Du) (s : Nat) (hx : ds[k]? = some x) : (flat Du.enc ds).set (k * 3 + 2) (.int .u64 s) = flat Du.enc (ds.set k ⟨x.ac, x.ti, s⟩) := by
  have hk : k < ds.length := (List.getElem?_eq_some_iff.1 hx).1
  apply List.ext_getElem?
  intro j
  have hl1 := flat_len Du.len ds
  have hl2 := flat_len Du.len (ds.set k ⟨x.ac, x.ti, s⟩)
  rw [List.length_set] at hl2
  by_cases hj : j < ds.length * 3
  · obtain ⟨i, m, hm, rfl⟩ : ∃ i m, m < 3 ∧ j = i * 3 + m := ⟨j / 3, j % 3, Nat.mod_lt _ (by omega), by omega⟩
    have hi : i < ds.length := by omega
    by_cases hik : i = k
    · subst hik
      have h2 := flat_at Du.len (ds.set i ⟨x.ac, x.ti, s⟩) i m ⟨x.ac, x.ti, s⟩ (by rw [List.getElem?_set_self hk]) hm
      rw [h2]
      rcases (show m = 0 ∨ m = 1 ∨ m = 2 by omega) with rfl | rfl | rfl
      · rw [List.getElem?_set_ne (by omega), flat_at Du.len ds i 0 x hx hm]; rfl
      · rw [List.getElem?_set_ne (by omega), flat_at Du.len ds i 1 x hx hm]; rfl
      · rw [List.getElem?_set_self (by omega)]; rfl
    · rw [List.getElem?_set_ne (by omega)]
      have h1 := flat_at Du.len ds i m ds[i] (List.getElem?_eq_getElem hi) hm
      have h2 := flat_at Du.len (ds.set k ⟨x.ac, x.ti, s⟩) i m ds[i] (by rw [List.getElem?_set_ne (by omega), List.getElem?_eq_getElem hi]) hm
      rw [h1, h2]
  · rw [List.getElem?_eq_none (by rw [List.length_set]; omega), List.getElem?_eq_none (by omega)]

set_option maxHeartbeats 2000000 in
set_option maxRecDepth 100000 in
theorem owe_hit_ok (A : Option Addr) (n c : Nat) (ds : List Du) (d : Du) (k : Nat) (x : Du) (w : World) (hR : SRow w w.heap.size A n 3 (flat Du.enc ds)) (hn : n ≤ 900) (hA : A = none → n = 0 ∧ c = 0) (h : OweArg d) (h0 : 0 < d.am ∧ d.am ≤ 4611686018427387904)
    (hk : ds[k]? = some x) (hx : eqv d x = true) (hno : ∀ (j : Nat) (y : Du), j < k → ds[j]? = some y → eqv d y = false) (s : Nat) (hs : s = x.am + d.am) (hlim : s ≤ 4611686018427387904) :
    Calls Try.prog 54 #[.slice A n c, .agg #[.int .i64 d.ac, .int .i64 d.ti, .int .u64 d.am]] w (OweOk w (ds.set k ⟨x.ac, x.ti, s⟩)) := by
  have HKx := Lib.hid hk
  have HXx := Lib.hid hx
  have HNo := Lib.hid hno
  have hkn : k < n := by rw [← hR.len Du.len (by omega)]; exact (List.getElem?_eq_some_iff.1 hk).1
  clear hk hx hno
  have HS := Lib.hid hs
  have HLM := Lib.hid hlim
  clear hs hlim
  have HW := Lib.hid (within_yes d.ac 0 63 h.1 h.2.1)
  have d1 : decide (d.ti < 0) = false := by rw [decide_eq_false_iff_not]; have := h.2.2; omega
  have d2 : decide ((4611686018427387904 : Int) < d.am) = false := by rw [decide_eq_false_iff_not]; omega
  have d3 : ((d.am : Int) == 0) = false := by
    rw [beq_eq_false_iff_ne]; omega
  have hal : Below w.heap.size w (w.alloc (.cells #[.int .i64 d.ac, .int .i64 d.ti, .int .u64 d.am] 96)) := (Below.refl _ _).alloc (Nat.le_refl _) _
  have HC := Lib.hid (clone_due A n c ds _ (hR.to hal) (by omega) hA)
  have HL := Lib.hid (hR.len Du.len (by omega))
  have HH := Lib.hid h
  have hs := hal.size
  obtain ⟨Wd, hWd⟩ : ∃ Wd, Wd = w.alloc (.cells #[.int .i64 d.ac, .int .i64 d.ti, .int .u64 d.am] 96) := ⟨_, rfl⟩
  have hz : w.heap.size < Wd.heap.size := by rw [hWd]; simp
  have b0 : Wd.cell? ⟨w.heap.size, 0, none⟩ = some (.int .i64 d.ac) := by rw [hWd, World.cell?_alloc_at _ _ _ _ rfl]; rfl
  have b1 : Wd.cell? ⟨w.heap.size, 1, none⟩ = some (.int .i64 d.ti) := by rw [hWd, World.cell?_alloc_at _ _ _ _ rfl]; rfl
  have b2 : Wd.cell? ⟨w.heap.size, 2, none⟩ = some (.int .u64 d.am) := by rw [hWd, World.cell?_alloc_at _ _ _ _ rfl]; rfl
  rw [← hWd] at hal HC hs
  have HHD := Lib.hid hWd
  clear h h0 hR hA hWd
  go_enter Try.func54, Try.ntmps54
  go_wp2_with fail
  rw [← HHD.out]
  refine (HW.out _).mono ?_
  rintro e w' ⟨rfl, rfl⟩
  go_wp2_with fail
  refine HC.out.mono ?_
  rintro e w2 ⟨v, rfl, ho, hb2⟩
  have c0 := (hb2.cell (p := ⟨w.heap.size, 0, none⟩) hz).trans b0
  have c1 := (hb2.cell (p := ⟨w.heap.size, 1, none⟩) hz).trans b1
  have c2 := (hb2.cell (p := ⟨w.heap.size, 2, none⟩) hz).trans b2
  have hz2 : w.heap.size < w2.heap.size := Nat.lt_of_lt_of_le hz hb2.size
  obtain ⟨Av, cv, rfl, hncv, hcmv, _, hrv⟩ := SRow.own ho
  have HI := Lib.hid (idxf_any Av n cv ds d w.heap.size w2 hrv (by omega) hz2 c0 c1)
  have hbb := hal.trans (hb2.mono hs)
  clear b0 b1 b2 hb2 hal HC hrv
  go_wp2_with fail
  refine HI.out.mono ?_
  rintro e w3 ⟨r, rfl, hF, hb3⟩
  have ho3 := own_low (own_to' ho hb3) hs
  have hs3 := hb3.size
  have e0 := (hb3.cell (p := ⟨w.heap.size, 0, none⟩) hz2).trans c0
  have e1 := (hb3.cell (p := ⟨w.heap.size, 1, none⟩) hz2).trans c1
  have e2 := (hb3.cell (p := ⟨w.heap.size, 2, none⟩) hz2).trans c2
  have hz3 : w.heap.size < w3.heap.size := Nat.lt_of_lt_of_le hz2 hs3
  have hb4 := hbb.trans (hb3.mono hbb.size)
  clear c0 c1 c2 hbb hb3 ho HI hz2
  obtain rfl := hF.hit HKx.out HXx.out HNo.out
  clear hF
  obtain ⟨g, cv', hv, _⟩ := ho3.form (by omega)
  injection hv with hv1 _ hv2
  subst hv1 hv2
  have q0 : decide ((0 : Int) ≤ k) = true := by simp
  have q1 : decide (k < n) = true := by simpa using hkn
  have hflt : k * 3 + 2 < n * 3 := by omega
  have hc2 : w3.cell? ⟨g, k * 3 + 2, none⟩ = some (.int .u64 x.am) := by
    rw [ho3.cellAt _ hflt, flat_at Du.len ds k 2 x HKx.out (by omega)]; rfl
  have hf2 := ho3.frozenAt (k * 3 + 2)
  have HO3 := Lib.hid ho3
  have HB4 := Lib.hid hb4
  clear ho3 hb4 e0 e1 hs3
  have HM := Lib.hid (fun m => madd_ok x.am d.am s HS.out (by have := HLM.out; omega) (w3.drewN m))
  have p1 : decide ((4611686018427387904 : Int) < s) = false := by rw [decide_eq_false_iff_not]; have := HLM.out; omega
  go_wp2
  go_quiet ((go_at_call 63; with_reducible exact q_left (HM.out _)))
  have HO4 := Lib.hid ((show (w3.drewN nq).ownsRow w.heap.size 96 3 (.slice (some ⟨g, 0, none⟩) n cv) n (flat Du.enc ds) from HO3.out).stored (k * 3 + 2) (.int .u64 s)).1
  have hlo := (HO3.out.lt g rfl).1
  have hb5 := Lib.hid ((below_drewN HB4.out nq).setCell (p := ⟨g, k * 3 + 2, none⟩) hlo (.int .u64 s))
  go_wp2
  go_ret2
  exact OweOk.mk _ rfl (by rw [List.length_set, HL.out, ← flat_set ds k x s HKx.out]; exact HO4.out) hb5.out

set_option maxHeartbeats 2000000 in
set_option maxRecDepth 100000 in
theorem owe_hit_far (A : Option Addr) (n c : Nat) (ds : List Du) (d : Du) (k : Nat) (x : Du) (w : World) (hR : SRow w w.heap.size A n 3 (flat Du.enc ds)) (hn : n ≤ 900) (hA : A = none → n = 0 ∧ c = 0) (h : OweArg d) (h0 : 0 < d.am ∧ d.am ≤ 4611686018427387904)
    (hk : ds[k]? = some x) (hx : eqv d x = true) (hno : ∀ (j : Nat) (y : Du), j < k → ds[j]? = some y → eqv d y = false) (hlim : 4611686018427387904 < x.am + d.am) (hfit : x.am + d.am < 18446744073709551616) :
    Calls Try.prog 54 #[.slice A n c, .agg #[.int .i64 d.ac, .int .i64 d.ti, .int .u64 d.am]] w (fun e w' => e = .returned (.tuple #[.slice none 0 0, .int .i64 10]) ∧ Below w.heap.size w w') := by
  have HKx := Lib.hid hk
  have HXx := Lib.hid hx
  have HNo := Lib.hid hno
  have hkn : k < n := by rw [← hR.len Du.len (by omega)]; exact (List.getElem?_eq_some_iff.1 hk).1
  clear hk hx hno
  have HLF := Lib.hid hfit
  have HLM := Lib.hid hlim
  clear hfit hlim
  have HW := Lib.hid (within_yes d.ac 0 63 h.1 h.2.1)
  have d1 : decide (d.ti < 0) = false := by rw [decide_eq_false_iff_not]; have := h.2.2; omega
  have d2 : decide ((4611686018427387904 : Int) < d.am) = false := by rw [decide_eq_false_iff_not]; omega
  have d3 : ((d.am : Int) == 0) = false := by
    rw [beq_eq_false_iff_ne]; omega
  have hal : Below w.heap.size w (w.alloc (.cells #[.int .i64 d.ac, .int .i64 d.ti, .int .u64 d.am] 96)) := (Below.refl _ _).alloc (Nat.le_refl _) _
  have HC := Lib.hid (clone_due A n c ds _ (hR.to hal) (by omega) hA)
  have HL := Lib.hid (hR.len Du.len (by omega))
  have HH := Lib.hid h
  have hs := hal.size
  obtain ⟨Wd, hWd⟩ : ∃ Wd, Wd = w.alloc (.cells #[.int .i64 d.ac, .int .i64 d.ti, .int .u64 d.am] 96) := ⟨_, rfl⟩
  have hz : w.heap.size < Wd.heap.size := by rw [hWd]; simp
  have b0 : Wd.cell? ⟨w.heap.size, 0, none⟩ = some (.int .i64 d.ac) := by rw [hWd, World.cell?_alloc_at _ _ _ _ rfl]; rfl
  have b1 : Wd.cell? ⟨w.heap.size, 1, none⟩ = some (.int .i64 d.ti) := by rw [hWd, World.cell?_alloc_at _ _ _ _ rfl]; rfl
  have b2 : Wd.cell? ⟨w.heap.size, 2, none⟩ = some (.int .u64 d.am) := by rw [hWd, World.cell?_alloc_at _ _ _ _ rfl]; rfl
  rw [← hWd] at hal HC hs
  have HHD := Lib.hid hWd
  clear h h0 hR hA hWd
  go_enter Try.func54, Try.ntmps54
  go_wp2_with fail
  rw [← HHD.out]
  refine (HW.out _).mono ?_
  rintro e w' ⟨rfl, rfl⟩
  go_wp2_with fail
  refine HC.out.mono ?_
  rintro e w2 ⟨v, rfl, ho, hb2⟩
  have c0 := (hb2.cell (p := ⟨w.heap.size, 0, none⟩) hz).trans b0
  have c1 := (hb2.cell (p := ⟨w.heap.size, 1, none⟩) hz).trans b1
  have c2 := (hb2.cell (p := ⟨w.heap.size, 2, none⟩) hz).trans b2
  have hz2 : w.heap.size < w2.heap.size := Nat.lt_of_lt_of_le hz hb2.size
  obtain ⟨Av, cv, rfl, hncv, hcmv, _, hrv⟩ := SRow.own ho
  have HI := Lib.hid (idxf_any Av n cv ds d w.heap.size w2 hrv (by omega) hz2 c0 c1)
  have hbb := hal.trans (hb2.mono hs)
  clear b0 b1 b2 hb2 hal HC hrv
  go_wp2_with fail
  refine HI.out.mono ?_
  rintro e w3 ⟨r, rfl, hF, hb3⟩
  have ho3 := own_low (own_to' ho hb3) hs
  have hs3 := hb3.size
  have e0 := (hb3.cell (p := ⟨w.heap.size, 0, none⟩) hz2).trans c0
  have e1 := (hb3.cell (p := ⟨w.heap.size, 1, none⟩) hz2).trans c1
  have e2 := (hb3.cell (p := ⟨w.heap.size, 2, none⟩) hz2).trans c2
  have hz3 : w.heap.size < w3.heap.size := Nat.lt_of_lt_of_le hz2 hs3
  have hb4 := hbb.trans (hb3.mono hbb.size)
  clear c0 c1 c2 hbb hb3 ho HI hz2
  obtain rfl := hF.hit HKx.out HXx.out HNo.out
  clear hF
  obtain ⟨g, cv', hv, _⟩ := ho3.form (by omega)
  injection hv with hv1 _ hv2
  subst hv1 hv2
  have q0 : decide ((0 : Int) ≤ k) = true := by simp
  have q1 : decide (k < n) = true := by simpa using hkn
  have hflt : k * 3 + 2 < n * 3 := by omega
  have hc2 : w3.cell? ⟨g, k * 3 + 2, none⟩ = some (.int .u64 x.am) := by
    rw [ho3.cellAt _ hflt, flat_at Du.len ds k 2 x HKx.out (by omega)]; rfl
  have hf2 := ho3.frozenAt (k * 3 + 2)
  have HO3 := Lib.hid ho3
  have HB4 := Lib.hid hb4
  clear ho3 hb4 e0 e1 hs3
  have HM := Lib.hid (fun m => madd_ok x.am d.am (x.am + d.am) rfl HLF.out (w3.drewN m))
  obtain ⟨s, hs⟩ : ∃ s, s = x.am + d.am := ⟨_, rfl⟩
  rw [← hs] at HM
  have p1 : decide ((4611686018427387904 : Int) < s) = true := by rw [decide_eq_true_iff]; have := HLM.out; omega
  clear hs
  go_wp2
  go_quiet ((go_at_call 63; with_reducible exact q_left (HM.out _)))
  have hb5 := Lib.hid (below_drewN HB4.out nq)
  go_wp2
  go_ret2
  exact ⟨rfl, hb5.out⟩

set_option maxHeartbeats 2000000 in
set_option maxRecDepth 100000 in
theorem owe_hit_off (A : Option Addr) (n c : Nat) (ds : List Du) (d : Du) (k : Nat) (x : Du) (w : World) (hR : SRow w w.heap.size A n 3 (flat Du.enc ds)) (hn : n ≤ 900) (hA : A = none → n = 0 ∧ c = 0) (h : OweArg d) (h0 : 0 < d.am ∧ d.am ≤ 4611686018427387904)
    (hk : ds[k]? = some x) (hx : eqv d x = true) (hno : ∀ (j : Nat) (y : Du), j < k → ds[j]? = some y → eqv d y = false) (hlim : 18446744073709551616 ≤ x.am + d.am) (hxw : x.am < 18446744073709551616) :
    Calls Try.prog 54 #[.slice A n c, .agg #[.int .i64 d.ac, .int .i64 d.ti, .int .u64 d.am]] w (fun e w' => e = .returned (.tuple #[.slice none 0 0, .int .i64 10]) ∧ Below w.heap.size w w') := by
  have HKx := Lib.hid hk
  have HXx := Lib.hid hx
  have HNo := Lib.hid hno
  have hkn : k < n := by rw [← hR.len Du.len (by omega)]; exact (List.getElem?_eq_some_iff.1 hk).1
  clear hk hx hno
  have HLF := Lib.hid hxw
  have HLM := Lib.hid hlim
  have HDm := Lib.hid h0.2
  clear hxw hlim
  have HW := Lib.hid (within_yes d.ac 0 63 h.1 h.2.1)
  have d1 : decide (d.ti < 0) = false := by rw [decide_eq_false_iff_not]; have := h.2.2; omega
  have d2 : decide ((4611686018427387904 : Int) < d.am) = false := by rw [decide_eq_false_iff_not]; omega
  have d3 : ((d.am : Int) == 0) = false := by
    rw [beq_eq_false_iff_ne]; omega
  have hal : Below w.heap.size w (w.alloc (.cells #[.int .i64 d.ac, .int .i64 d.ti, .int .u64 d.am] 96)) := (Below.refl _ _).alloc (Nat.le_refl _) _
  have HC := Lib.hid (clone_due A n c ds _ (hR.to hal) (by omega) hA)
  have HL := Lib.hid (hR.len Du.len (by omega))
  have HH := Lib.hid h
  have hs := hal.size
  obtain ⟨Wd, hWd⟩ : ∃ Wd, Wd = w.alloc (.cells #[.int .i64 d.ac, .int .i64 d.ti, .int .u64 d.am] 96) := ⟨_, rfl⟩
  have hz : w.heap.size < Wd.heap.size := by rw [hWd]; simp
  have b0 : Wd.cell? ⟨w.heap.size, 0, none⟩ = some (.int .i64 d.ac) := by rw [hWd, World.cell?_alloc_at _ _ _ _ rfl]; rfl
  have b1 : Wd.cell? ⟨w.heap.size, 1, none⟩ = some (.int .i64 d.ti) := by rw [hWd, World.cell?_alloc_at _ _ _ _ rfl]; rfl
  have b2 : Wd.cell? ⟨w.heap.size, 2, none⟩ = some (.int .u64 d.am) := by rw [hWd, World.cell?_alloc_at _ _ _ _ rfl]; rfl
  rw [← hWd] at hal HC hs
  have HHD := Lib.hid hWd
  clear h h0 hR hA hWd
  go_enter Try.func54, Try.ntmps54
  go_wp2_with fail
  rw [← HHD.out]
  refine (HW.out _).mono ?_
  rintro e w' ⟨rfl, rfl⟩
  go_wp2_with fail
  refine HC.out.mono ?_
  rintro e w2 ⟨v, rfl, ho, hb2⟩
  have c0 := (hb2.cell (p := ⟨w.heap.size, 0, none⟩) hz).trans b0
  have c1 := (hb2.cell (p := ⟨w.heap.size, 1, none⟩) hz).trans b1
  have c2 := (hb2.cell (p := ⟨w.heap.size, 2, none⟩) hz).trans b2
  have hz2 : w.heap.size < w2.heap.size := Nat.lt_of_lt_of_le hz hb2.size
  obtain ⟨Av, cv, rfl, hncv, hcmv, _, hrv⟩ := SRow.own ho
  have HI := Lib.hid (idxf_any Av n cv ds d w.heap.size w2 hrv (by omega) hz2 c0 c1)
  have hbb := hal.trans (hb2.mono hs)
  clear b0 b1 b2 hb2 hal HC hrv
  go_wp2_with fail
  refine HI.out.mono ?_
  rintro e w3 ⟨r, rfl, hF, hb3⟩
  have ho3 := own_low (own_to' ho hb3) hs
  have hs3 := hb3.size
  have e0 := (hb3.cell (p := ⟨w.heap.size, 0, none⟩) hz2).trans c0
  have e1 := (hb3.cell (p := ⟨w.heap.size, 1, none⟩) hz2).trans c1
  have e2 := (hb3.cell (p := ⟨w.heap.size, 2, none⟩) hz2).trans c2
  have hz3 : w.heap.size < w3.heap.size := Nat.lt_of_lt_of_le hz2 hs3
  have hb4 := hbb.trans (hb3.mono hbb.size)
  clear c0 c1 c2 hbb hb3 ho HI hz2
  obtain rfl := hF.hit HKx.out HXx.out HNo.out
  clear hF
  obtain ⟨g, cv', hv, _⟩ := ho3.form (by omega)
  injection hv with hv1 _ hv2
  subst hv1 hv2
  have q0 : decide ((0 : Int) ≤ k) = true := by simp
  have q1 : decide (k < n) = true := by simpa using hkn
  have hflt : k * 3 + 2 < n * 3 := by omega
  have hc2 : w3.cell? ⟨g, k * 3 + 2, none⟩ = some (.int .u64 x.am) := by
    rw [ho3.cellAt _ hflt, flat_at Du.len ds k 2 x HKx.out (by omega)]; rfl
  have hf2 := ho3.frozenAt (k * 3 + 2)
  have HO3 := Lib.hid ho3
  have HB4 := Lib.hid hb4
  clear ho3 hb4 e0 e1 hs3
  have HM := Lib.hid (fun m => madd_bad x.am d.am HLF.out (by have := HDm.out; omega) HLM.out (w3.drewN m))
  go_wp2
  go_quiet ((go_at_call 63; with_reducible exact q_left (HM.out _)))
  have hb5 := Lib.hid (below_drewN HB4.out nq)
  go_wp2
  go_ret2
  exact ⟨rfl, hb5.out⟩
end Go.Proofs.Ytdjeedmiicagcaa.PoolW
