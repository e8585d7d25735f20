/- The walks of the pool, fourth part: within, Clone, a closure, IndexFunc. Conditions: rows are read rightly and are not too long. -/
import Derived.Test.YtdjeedmiicagcaaPool3
import Derived.Lib.SliceRun
namespace Go.Proofs.Ytdjeedmiicagcaa.PoolW
open Go.RowKit
open Go.Proofs.Ytdjeedmiicagcaa.Words Go.Proofs.Ytdjeedmiicagcaa.NatW Go.Proofs.Ytdjeedmiicagcaa.PurseW

theorem within_yes (n lo hi : Int) (h1 : lo ≤ n) (h2 : n ≤ hi) (w : World) : Calls Try.prog 73 #[.int .i64 n, .int .i64 lo, .int .i64 hi] w fun e w' => e = .returned (.bool true) ∧ w = w' := by
  have d1 : decide (lo ≤ n) = true := by simpa using h1
  have d2 : decide (n ≤ hi) = true := by simpa using h2
  go_enter Try.func73, Try.ntmps73
  go_wp2
  go_ret
  exact ⟨by simp, rfl⟩
theorem within_no (n lo hi : Int) (h : n < lo ∨ hi < n) (w : World) : Calls Try.prog 73 #[.int .i64 n, .int .i64 lo, .int .i64 hi] w fun e w' => e = .returned (.bool false) ∧ w = w' := by
  by_cases h1 : lo ≤ n
  · have d1 : decide (lo ≤ n) = true := by simpa using h1
    have d2 : decide (n ≤ hi) = false := by simp; omega
    go_enter Try.func73, Try.ntmps73
    go_wp2
    go_ret
    exact ⟨by simp, rfl⟩
  · have d1 : decide (lo ≤ n) = false := by simpa using h1
    go_enter Try.func73, Try.ntmps73
    go_wp2
    go_ret
    exact ⟨by simp, rfl⟩
theorem info_due : (Try.prog.info? 96).map (fun i => (i.zero, i.size, i.bytes)) = some (some (.agg #[.int .i64 0, .int .i64 0, .int .u64 0]), 3, 24) := by kernel_rfl
theorem info_dep : (Try.prog.info? 80).map (fun i => (i.zero, i.size, i.bytes)) = some (some (.agg #[.int .i64 0, .int .i64 0, .int .u64 0, .bool false]), 4, 32) := by kernel_rfl
theorem own_empty (w : World) (e : TypeId) (base sz : Nat) (hb : base ≤ w.heap.size) : (w.alloc (.cells #[] e)).ownsRow base e sz (.slice (some ⟨w.heap.size, 0, none⟩) 0 0) 0 [] :=
  ⟨by simp, .inr ⟨w.heap.size, 0, #[], rfl, hb, heap_alloc_new _ _, Nat.le_refl _, by unfold maxLen; omega, by simp, by simp⟩⟩
set_option maxRecDepth 100000 in
theorem clone_due (A : Option Addr) (n c : Nat) (ds : List Du) (w : World) (h : SRow w w.heap.size A n 3 (flat Du.enc ds)) (hn : n ≤ 1000) (hA : A = none → n = 0 ∧ c = 0) :
    Calls Try.prog 79 #[.slice A n c] w fun e w' => ∃ v, e = .returned v ∧ w'.ownsRow w.heap.size 96 3 v n (flat Du.enc ds) ∧ Below w.heap.size w w' := by
  obtain ⟨i0, hi0, hz0, hz1, hz2⟩ := info_parts info_due
  rcases A with _ | ad
  · obtain ⟨rfl, rfl⟩ := hA rfl
    have hd : ds = [] := List.eq_nil_of_length_eq_zero (h.len Du.len (by omega))
    subst hd
    have hq := fun w => Lib.run_eql_slice_nil (P := Try.prog) w 58 96 none 0 0 0 0 Try.underlying58
    clear h
    go_enter Try.func79, Try.ntmps79
    go_wp2
    go_ret
    exact ⟨_, rfl, World.ownsRow_nil _ _ _ _, Below.refl _ _⟩
  · have hq := fun w => Lib.run_eql_slice_nil (P := Try.prog) w 58 96 (some ad) n c 0 0 Try.underlying58
    have h2 := h.to (show Below w.heap.size w (w.alloc (.cells #[] 96)) from (Below.refl _ _).alloc (Nat.le_refl _) _)
    clear h
    go_enter Try.func79, Try.ntmps79
    go_wp2_with (at_builtin; refine wpList_append_rows _ rfl _ _ 58 rfl w.heap.size 96 i0 (.agg #[.int .i64 0, .int .i64 0, .int .u64 0]) 3 24 Try.underlying58 hi0 hz0 hz1 hz2 rfl (by decide) _ _ _ rfl (own_empty w 96 w.heap.size 3 (Nat.le_refl _)) (some ad) n c _ rfl h2 (Du.one ds) ?_ ?_ (by simp) ?_)
    · unfold maxLen; omega
    · omega
    intro v w1 hown hg
    have ho : w1.ownsRow w.heap.size 96 3 v n (flat Du.enc ds) := by simpa using hown
    have hb : Below w.heap.size w w1 := ((Below.refl _ _).alloc (Nat.le_refl _) (.cells #[] 96)).grown hg (by simp) (fun k hk => by cases hk; exact Nat.le_refl _)
    clear hown hg h2 hq
    go_wp2
    go_ret
    exact ⟨_, rfl, ho, hb⟩
/-- one and the same: an account, a tick -/
def eqv (d x : Du) : Bool := x.ac == d.ac && x.ti == d.ti
theorem owe1_any (d x : Du) (B : Nat) (w : World) (hB : B < w.heap.size) (h0 : w.cell? ⟨B, 0, none⟩ = some (.int .i64 d.ac)) (h1 : w.cell? ⟨B, 1, none⟩ = some (.int .i64 d.ti)) :
    Calls Try.prog 81 #[.agg #[.int .i64 x.ac, .int .i64 x.ti, .int .u64 x.am], .pointer (some ⟨B, 0, none⟩)] w fun e w' => e = .returned (.bool (eqv d x)) ∧ Below w.heap.size w w' := by
  have hne : B ≠ w.heap.size := by omega
  obtain ⟨b, hb⟩ : ∃ b, eqv d x = b := ⟨_, rfl⟩
  rw [hb]
  unfold eqv at hb
  by_cases e1 : x.ac = d.ac
  · have q1 : (x.ac == d.ac) = true := by simpa using e1
    by_cases e2 : x.ti = d.ti
    · have q2 : (x.ti == d.ti) = true := by simpa using e2
      rw [q1, q2] at hb
      subst hb
      clear e1 e2
      go_enter Try.func81, Try.ntmps81
      go_wp2
      go_ret
      exact ⟨by simp, (Below.refl _ _).alloc (Nat.le_refl _) _⟩
    · have q2 : (x.ti == d.ti) = false := by simpa using e2
      rw [q1, q2] at hb
      subst hb
      clear e1 e2
      go_enter Try.func81, Try.ntmps81
      go_wp2
      go_ret
      exact ⟨by simp, (Below.refl _ _).alloc (Nat.le_refl _) _⟩
  · have q1 : (x.ac == d.ac) = false := by simpa using e1
    rw [q1] at hb
    subst hb
    clear e1
    go_enter Try.func81, Try.ntmps81
    go_wp2
    go_ret
    exact ⟨by simp, (Below.refl _ _).alloc (Nat.le_refl _) _⟩
/-- where the first one is: -1: nowhere -/
def FirstAt (p : Du → Bool) (ds : List Du) (r : Int) : Prop := (∃ (k : Nat) (x : Du), r = (k : Int) ∧ ds[k]? = some x ∧ p x = true ∧ ∀ (j : Nat) (y : Du), j < k → ds[j]? = some y → p y = false) ∨ (r = -1 ∧ ∀ (j : Nat) (y : Du), ds[j]? = some y → p y = false)
set_option maxHeartbeats 1000000 in
theorem idxf_any (A : Option Addr) (n c : Nat) (ds : List Du) (d : Du) (B : Nat) (w : World) (h : SRow w w.heap.size A n 3 (flat Du.enc ds)) (hn : n ≤ 1000) (hB : B < w.heap.size) (h0 : w.cell? ⟨B, 0, none⟩ = some (.int .i64 d.ac)) (h1 : w.cell? ⟨B, 1, none⟩ = some (.int .i64 d.ti)) :
    Calls Try.prog 80 #[.slice A n c, .func (.func 81) #[] #[.pointer (some ⟨B, 0, none⟩)]] w fun e w' => ∃ r, e = .returned (.int .i64 r) ∧ FirstAt (eqv d) ds r ∧ Below w.heap.size w w' := by
  have HL := Lib.hid (h.len Du.len (by omega))
  have HR := Lib.hid h
  have HC := Lib.hid (fun (W : World) (hb : Below w.heap.size w W) (x : Du) => owe1_any d x B W (Nat.lt_of_lt_of_le hB hb.size) ((hb.cell (p := ⟨B, 0, none⟩) hB).trans h0) ((hb.cell (p := ⟨B, 1, none⟩) hB).trans h1))
  clear h h0 h1
  go_enter Try.func80, Try.ntmps80
  go_wp2
  go_loopw [8] (fun kv wr => ∃ k : Nat, kv = .int .i64 k ∧ k ≤ n ∧ (∀ (j : Nat) (y : Du), j < k → ds[j]? = some y → eqv d y = false) ∧ Below w.heap.size w wr) (fun kv _ => n - (intOf kv).toNat)
  case atStart => exact ⟨0, rfl, Nat.zero_le _, fun j y hj => by omega, Below.refl _ _⟩
  case round =>
    obtain ⟨k, rfl, hk, hno, hbr⟩ := hrel
    have HN := Lib.hid hno
    clear hno
    by_cases hlt : k < n
    · have e1 : decide (k < n) = true := by simpa using hlt
      obtain ⟨x, hx⟩ : ∃ x, ds[k]? = some x := ⟨_, List.getElem?_eq_getElem (by rw [HL.out]; exact hlt)⟩
      obtain ⟨ad, rfl, hadl, hcs⟩ := (HR.out.below hbr).cell Du.len hlt hx (by omega)
      have hc0 : wr.cell? (ad.add (k * 3)) = some (.int .i64 x.ac) := by have := hcs 0 _ rfl; rwa [Words.add_zero] at this
      have hc1 : wr.cell? ⟨(ad.add (k * 3)).block, (ad.add (k * 3)).off + 1, none⟩ = some (.int .i64 x.ti) := hcs 1 _ rfl
      have hc2 : wr.cell? ⟨(ad.add (k * 3)).block, (ad.add (k * 3)).off + 2, none⟩ = some (.int .u64 x.am) := hcs 2 _ rfl
      have HX := Lib.hid hx
      have HCx := Lib.hid (HC.out wr hbr x)
      have hs := hbr.size
      clear hcs hx
      obtain ⟨b, hb⟩ : ∃ b, eqv d x = b := ⟨_, rfl⟩
      rw [hb] at HCx
      have HB := Lib.hid hb
      clear hb
      go_wp2_with fail
      refine HCx.out.mono ?_
      rintro e w1 ⟨rfl, hb1⟩
      have hb2 := Lib.hid (hbr.trans (hb1.mono hs))
      clear hbr hb1 HCx
      cases b
      · go_wp2
        exact ⟨⟨k + 1, by go_num, by omega, fun j y hj hy => by
          by_cases h' : j = k
          · subst h'
            rw [HX.out] at hy
            cases hy
            exact HB.out
          · exact HN.out j y (by omega) hy, hb2.out⟩, by simp [intOf]; omega⟩
      · go_wp2
        go_ret
        exact ⟨_, rfl, Or.inl ⟨k, x, rfl, HX.out, HB.out, HN.out⟩, hb2.out⟩
    · have e1 : decide (k < n) = false := by simpa using hlt
      obtain rfl : k = n := by omega
      go_wp2
      go_ret
      exact ⟨_, rfl, Or.inr ⟨rfl, fun j y hy => HN.out j y (by rw [← HL.out]; exact (List.getElem?_eq_some_iff.1 hy).1) hy⟩, hbr⟩
end Go.Proofs.Ytdjeedmiicagcaa.PoolW
