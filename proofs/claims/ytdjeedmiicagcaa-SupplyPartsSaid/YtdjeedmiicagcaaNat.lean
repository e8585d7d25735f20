/- The walks of bullionref01: whole numbers as decimal digits: at, trim, Of, Cmp, Add, Sub, Mul, Uint give what arithmetic says. Conditions: the digits are right and not too many. -/
import Derived.Test.YtdjeedmiicagcaaWords
import Derived.Test.YtdjeedmiicagcaaDec
namespace Go.Proofs.Ytdjeedmiicagcaa.NatW
open Go.RowKit
open Go.Proofs.Ytdjeedmiicagcaa.Words Go.Proofs.Ytdjeedmiicagcaa.Dec

/-- a row of digits in memory -/
def DRow (w : World) (B : Nat) (A : Option Addr) (n : Nat) (ds : List Nat) : Prop := ds.length = n ∧ Rd w B A n (fun j => .int .i64 (dg ds j))

theorem at_any (A : Option Addr) (n c : Nat) (ds : List Nat) (i B : Nat) (w : World) (h : DRow w B A n ds) :
    Calls Try.prog 83 #[.slice A n c, .int .i64 i] w fun e w' => e = .returned (.int .i64 (dg ds i)) ∧ w = w' := by
  obtain ⟨hl, h⟩ := h
  by_cases hi : i < n
  · obtain ⟨ad, rfl, _, hc⟩ := h i hi
    have hd : decide (i < n) = true := by simpa using hi
    clear h hl
    go_enter Try.func83, Try.ntmps83
    go_wp2
    go_ret
    exact ⟨rfl, rfl⟩
  · have hd : decide (i < n) = false := by simpa using hi
    have h0 := Lib.hid (dg_of_ge (ds := ds) (i := i) (by omega))
    clear h hl hi
    go_enter Try.func83, Try.ntmps83
    go_wp2
    go_ret
    exact ⟨by rw [h0.out]; rfl, rfl⟩

set_option maxHeartbeats 1000000 in
theorem trim_any (A : Option Addr) (n c : Nat) (ds : List Nat) (w : World) (h : DRow w w.heap.size A n ds) (hd : Dig ds) (hc : n ≤ c) (hm : n ≤ 2000010) :
    Calls Try.prog 86 #[.slice A n c] w fun e w' => ∃ m, e = .returned (.agg #[.slice A m c]) ∧ m ≤ n ∧ Nrm (ds.take m) ∧ dv (ds.take m) = dv ds ∧ Below w.heap.size w w' := by
  obtain ⟨hl, h⟩ := h
  have hA : Rd (w.alloc (.cells #[.slice none 0 0] 51)) w.heap.size A n (fun j => .int .i64 (dg ds j)) := h.below ((Below.refl _ _).alloc (Nat.le_refl _) _)
  have hlen := Nat.le_of_eq hl
  have hlen' := Nat.le_of_eq hl.symm
  clear h hl
  go_enter Try.func86, Try.ntmps86
  go_wp2
  go_loop [3] (fun v => ∃ m : Nat, m ≤ n ∧ v = .int .i64 m ∧ ∀ i, m ≤ i → i < ds.length → dg ds i = 0) (fun v => (intOf v).toNat)
  case atStart => exact ⟨n, Nat.le_refl _, rfl, fun i h1 h2 => absurd h1 (by omega)⟩
  case round =>
    obtain ⟨m, hmn, rfl, hz⟩ := hrel
    have HZ := Lib.hid hz
    clear hz
    by_cases h0 : m = 0
    · subst h0
      go_wp2
      refine bodyPost_ret (v := .agg #[.slice A 0 c]) (by simp [results, Try.results86, go_sem]) rfl ?_
      exact ⟨0, rfl, by omega, nrm_take hd (by omega) (fun h => by omega), dv_take (by omega) HZ.out, ((Below.refl _ _).alloc (Nat.le_refl _) _)⟩
    · obtain ⟨ad, rfl, _, hcell⟩ := hA (m - 1) (by omega)
      have hp : decide ((0 : Int) < (m : Int)) = true := by simp; omega
      have h1 : 1 ≤ m := by omega
      by_cases hdz : dg ds (m - 1) = 0
      · have hb : ((dg ds (m - 1) : Int) == 0) = true := by simp [hdz]
        have hz' : ∀ i, m - 1 ≤ i → i < ds.length → dg ds i = 0 := fun i h1 h2 => by
          by_cases e : i = m - 1
          · rw [e]; exact hdz
          · exact HZ.out i (by omega) h2
        have HZ' := Lib.hid hz'
        clear hdz hz' HZ hA
        go_wp2
        exact ⟨⟨m - 1, by omega, by go_num, HZ'.out⟩, by simp [intOf]; omega⟩
      · have hb : ((dg ds (m - 1) : Int) == 0) = false := by simp [hdz]
        clear hA
        go_wp2
        refine bodyPost_ret (v := .agg #[.slice (some ad) m c]) (by simp [results, Try.results86, go_sem]) rfl ?_
        exact ⟨m, rfl, by omega, nrm_take hd (by omega) (fun h => by omega), dv_take (by omega) HZ.out, ((Below.refl _ _).alloc (Nat.le_refl _) _)⟩

/-- a whole number as the program holds it; its digits lie at or above block lo -/
def NatAt (lo : Nat) (w : World) (v : Value) (N : Nat) : Prop :=
  ∃ (A : Option Addr) (n c : Nat) (ds : List Nat), v = .agg #[.slice A n c] ∧ n ≤ c ∧ DRow w w.heap.size A n ds ∧ Nrm ds ∧ dv ds = N ∧ ∀ ad, A = some ad → lo ≤ ad.block

def dig (d : Nat) : Value := .int .i64 d
theorem digs_at {ds : List Nat} {j : Nat} (h : j < ds.length) : (ds.map dig)[j]? = some (.int .i64 (dg ds j)) := by
  rw [List.getElem?_map, List.getElem?_eq_getElem h, dg_of_lt h]; rfl
theorem drow_of_own {w : World} {base : Nat} {e : TypeId} {v : Value} {ds : List Nat} (h : w.ownsRow base e 1 v ds.length (ds.map dig)) :
    ∃ A c, v = .slice A ds.length c ∧ ds.length ≤ c ∧ (∀ ad, A = some ad → base ≤ ad.block) ∧ DRow w w.heap.size A ds.length ds := by
  obtain ⟨A, c, hv, hc, _, hlo, hr⟩ := Rd.own h (fun j hj => digs_at hj)
  exact ⟨A, c, hv, hc, hlo, rfl, hr⟩
theorem DRow.set {w : World} {B : Nat} {A : Option Addr} {n : Nat} {ds : List Nat} (h : DRow w B A n ds) {p : Addr} (hne : ∀ ad, A = some ad → ad.block ≠ p.block) (u : Value) : DRow (w.setCell p u) B A n ds := ⟨h.1, h.2.set hne u⟩
theorem DRow.more {w : World} {B B' : Nat} {A : Option Addr} {n : Nat} {ds : List Nat} (h : DRow w B A n ds) (hB : B ≤ B') : DRow w B' A n ds := ⟨h.1, h.2.more hB⟩
theorem DRow.below {w w' : World} {B : Nat} {A : Option Addr} {n : Nat} {ds : List Nat} (h : DRow w B A n ds) (hb : Below B w w') : DRow w' B A n ds := ⟨h.1, h.2.below hb⟩
theorem DRow.to {w w' : World} {A : Option Addr} {n : Nat} {ds : List Nat} (h : DRow w w.heap.size A n ds) (hb : Below w.heap.size w w') : DRow w' w'.heap.size A n ds := ⟨h.1, h.2.to hb⟩
theorem drow_take {w : World} {B : Nat} {A : Option Addr} {n m : Nat} {ds : List Nat} (h : DRow w B A n ds) (hm : m ≤ n) : DRow w B A m (ds.take m) :=
  ⟨by rw [List.length_take, h.1]; omega, (h.2.take hm).congr fun j hj => by rw [dg_take hj]⟩

/-- what holds at the head of each round of Of: the digits so far, and what is left -/
def OfI (a b : Nat) (ds : List Nat) : Prop := Dig ds ∧ dv ds + b * 10 ^ ds.length = a ∧ (b = 0 → Nrm ds)
theorem OfI.start (a : Nat) : OfI a a [] := ⟨dig_nil, by simp [dv, val], fun _ => nrm_nil⟩
theorem OfI.step {a b : Nat} {ds : List Nat} (h : OfI a b ds) (hb : 0 < b) : OfI a (b / 10) (ds ++ [b % 10]) := by
  obtain ⟨h1, h2, _⟩ := h
  refine ⟨dig_snoc h1 (by omega), ?_, fun h0 => nrm_snoc h1 (by omega) (by omega)⟩
  rw [dv_snoc, List.length_append, List.length_singleton, Nat.pow_succ, ← h2]
  have e : b = b % 10 + 10 * (b / 10) := by omega
  have e2 : b * 10 ^ ds.length = b % 10 * 10 ^ ds.length + 10 * (b / 10) * 10 ^ ds.length := by rw [← Nat.add_mul, ← e]
  have e3 : b / 10 * (10 ^ ds.length * 10) = 10 * (b / 10) * 10 ^ ds.length := by rw [Nat.mul_comm (10 ^ ds.length) 10, ← Nat.mul_assoc, Nat.mul_comm (b / 10) 10]
  rw [e2, e3]; omega
theorem OfI.len {a b : Nat} {ds : List Nat} (h : OfI a b ds) (ha : a < 18446744073709551616) (hb : 0 < b) : ds.length < 20 := by
  rcases Nat.lt_or_ge ds.length 20 with h1 | h1
  · exact h1
  · have h2 : 10 ^ 20 ≤ 10 ^ ds.length := Nat.pow_le_pow_right (by omega) h1
    have h3 : 1 * 10 ^ ds.length ≤ b * 10 ^ ds.length := Nat.mul_le_mul_right _ hb
    have h4 := h.2.1
    omega

theorem OfI.le {a b : Nat} {ds : List Nat} (h : OfI a b ds) : b ≤ a := by
  have h3 : b * 1 ≤ b * 10 ^ ds.length := Nat.mul_le_mul_left _ (Nat.pow_pos (by omega))
  have h4 := h.2.1
  omega

theorem info_int : (Try.prog.info? 3).map (fun i => (i.zero, i.size, i.bytes)) = some (some (.int .i64 0), 1, 8) := by kernel_rfl

set_option maxHeartbeats 1000000 in
theorem of_any (a : Nat) (ha : a < 18446744073709551616) (w : World) :
    Calls Try.prog 58 #[.int .u64 a] w fun e w' => ∃ v, e = .returned v ∧ NatAt w.heap.size w' v a ∧ Below w.heap.size w w' := by
  obtain ⟨i0, hi, hz0, hz1, hz2⟩ := info_parts info_int
  obtain ⟨W0, hW0⟩ : ∃ W0, w.alloc (.cells #[.slice none 0 0] 51) = W0 := ⟨_, rfl⟩
  have hbW : Below w.heap.size w W0 := by rw [← hW0]; exact (Below.refl _ _).alloc (Nat.le_refl _) _
  have hsz : w.heap.size < W0.heap.size := by rw [← hW0]; simp
  have hc0 : W0.cell? ⟨w.heap.size, 0, none⟩ = some (.slice none 0 0) := by rw [← hW0]; rw [World.cell?_alloc_at _ _ _ _ rfl]; rfl
  have hf0 : W0.frozen? ⟨w.heap.size, 0, none⟩ = false := by rw [← hW0]; exact World.frozen?_alloc_at _ _ _ _ rfl
  go_enter Try.func58, Try.ntmps58
  go_wp2
  clear hW0
  go_loopw [0, 3] (fun x v wr => ∃ (b : Nat) (ds : List Nat), x = .int .u64 b ∧ OfI a b ds ∧ wr.ownsRow W0.heap.size 3 1 v ds.length (ds.map dig) ∧ Below W0.heap.size W0 wr) (fun x _ _ => (intOf x).toNat)
  case atStart => exact ⟨a, [], rfl, OfI.start a, World.ownsRow_nil _ _ _ _, Below.refl _ _⟩
  case round =>
    obtain ⟨b, ds, rfl, hI, hown, hbw⟩ := hrel
    by_cases hb : 0 < b
    · have hlen := hI.len ha hb
      have hstep := Lib.hid (hI.step hb)
      have hd : decide ((0 : Int) < (b : Int)) = true := by simp; omega
      have hble : b ≤ 18446744073709551615 := by have := hI.le; omega
      clear hI ha
      go_wp2_with (at_builtin; refine wpList_append_own _ rfl _ _ 49 rfl W0.heap.size 3 i0 (.int .i64 0) 1 8 Try.underlying49 hi hz0 hz1 hz2 rfl (by decide) _ _ _ rfl (hown.alloc _) ⟨wr.heap.size, 0, none⟩ 1 1 [.int .i64 ((b % 10 : Nat) : Int)] rfl rfl ?c1 ?c2 ?c3 ?c4 ?c5 ?_)
      case c1 => exact cell_one_new _ _ _
      case c2 => intro u hu; simp at hu; subst hu; rfl
      case c3 => unfold maxLen; omega
      case c4 => omega
      case c5 => have := hbw.size; simp; omega
      intro v' w1 hown' hgrow _
      have hb1 := app_below hbw hown hgrow
      go_wp2
      exact ⟨⟨b / 10, ds ++ [b % 10], by go_num, hstep.out, by rw [List.length_append, List.map_append]; exact hown', hb1⟩, by simp [intOf]; omega⟩
    · obtain rfl : b = 0 := by omega
      have hN := hI.2.2 rfl
      have hV := Lib.hid hI.2.1
      obtain ⟨A, c, rfl, hnc, hlo, hrow⟩ := drow_of_own hown
      have hcr := bcell hbw hsz hc0
      have hfr : wr.frozen? ⟨w.heap.size, 0, none⟩ = false := (hbw.frozen hsz).trans hf0
      clear hI ha hown
      go_wp2
      refine bodyPost_ret (v := .agg #[.slice A ds.length c]) (by simp [results, Try.results58, go_sem, World.cell?_setCell_same _ _ _ hcr]) rfl ?_
      refine ⟨_, rfl, ⟨A, _, c, ds, rfl, hnc, ?_, hN, by have := hV.out; simpa using this, fun ad h => by have := hlo ad h; omega⟩, ?_⟩
      · rw [World.size_setCell]
        exact hrow.set (fun ad h => by have := hlo ad h; show ad.block ≠ w.heap.size; omega) _
      · exact (hbW.trans (hbw.mono (by omega))).setCell (Nat.le_refl _) _

/-- below: -1, the same: 0, above: 1 -/
def cmpN (a b : Nat) : Int := if a < b then -1 else if b < a then 1 else 0
theorem cmpN_lt {a b : Nat} (h : a < b) : cmpN a b = -1 := by unfold cmpN; rw [if_pos h]
theorem cmpN_gt {a b : Nat} (h : b < a) : cmpN a b = 1 := by unfold cmpN; rw [if_neg (by omega), if_pos h]
theorem cmpN_eq {a b : Nat} (h : a = b) : cmpN a b = 0 := by unfold cmpN; rw [if_neg (by omega), if_neg (by omega)]
theorem cmpN_le {a b : Nat} : decide (cmpN a b ≤ 0) = decide (a ≤ b) := by
  unfold cmpN; split
  · simp; omega
  · split <;> simp <;> omega
theorem cmpN_pos {a b : Nat} : decide (0 < cmpN a b) = decide (b < a) := by
  unfold cmpN; split
  · simp; omega
  · split <;> simp <;> omega

theorem DRow.drewN {w : World} {B : Nat} {A : Option Addr} {n : Nat} {ds : List Nat} (h : DRow w B A n ds) (q : Nat) : DRow (w.drewN q) B A n ds := h
theorem cmp_first {ds es : List Nat} (hd : Dig ds) {m k : Nat} (hm : m < k) (hd' : ds.length ≤ k) (he' : es.length ≤ k) (h : ∀ j, m + 1 ≤ j → dg ds j = dg es j) (hlt : dg ds m < dg es m) : dv ds < dv es := by
  rw [← dv_val hd', ← dv_val he']
  exact val_cmp (fun i => hd.dg i) hm (fun j h1 _ => h j h1) hlt
theorem cmp_same {ds es : List Nat} {k : Nat} (hd' : ds.length ≤ k) (he' : es.length ≤ k) (h : ∀ j, 0 ≤ j → dg ds j = dg es j) : dv ds = dv es := by
  rw [← dv_val hd', ← dv_val he']
  exact val_congr fun i _ => h i (Nat.zero_le _)

set_option maxHeartbeats 1000000 in
theorem cmp_any (A A' : Option Addr) (n c n' c' : Nat) (ds es : List Nat) (w : World) (h : DRow w w.heap.size A n ds) (h' : DRow w w.heap.size A' n' es) (hd : Dig ds) (hd' : Dig es) (hn : n ≤ 1000000) (hn' : n' ≤ 1000000) :
    Calls Try.prog 56 #[.agg #[.slice A n c], .agg #[.slice A' n' c']] w fun e w' => e = .returned (.int .i64 (cmpN (dv ds) (dv es))) ∧ Below w.heap.size w w' := by
  obtain ⟨W0, hW0⟩ : ∃ W0, (w.alloc (.cells #[.slice A n c] 51)).alloc (.cells #[.slice A' n' c'] 51) = W0 := ⟨_, rfl⟩
  have hbW : Below w.heap.size w W0 := by rw [← hW0]; exact ((Below.refl _ _).alloc (Nat.le_refl _) _).alloc (by simp) _
  have hc0 : W0.cell? ⟨w.heap.size, 0, none⟩ = some (.slice A n c) := by rw [← hW0, World.cell?_alloc_past _ _ _ (by simp), World.cell?_alloc_at _ _ _ _ rfl]; rfl
  have hc1 : W0.cell? ⟨w.heap.size + 1, 0, none⟩ = some (.slice A' n' c') := by rw [← hW0, World.cell?_alloc_at _ _ _ _ (by simp)]; rfl
  have hA := h.below hbW
  have hA' := h'.below hbW
  clear h h'
  have hl := hA.1
  have hl' := hA'.1
  have HL := Lib.hid hl
  have HL' := Lib.hid hl'
  clear hl hl'
  go_enter Try.func56, Try.ntmps56
  go_wp2
  clear hW0
  all_goals
    go_loopw [5] (fun v wr => ∃ (k q : Nat) (i : Int), v = .int .i64 i ∧ i = (k : Int) - 1 ∧ k ≤ 1000000 ∧ (∀ j, k ≤ j → dg ds j = dg es j) ∧ wr = W0.drewN q) (fun v _ => (intOf v + 1).toNat)
    case atStart =>
      have e1 := HL.out
      have e2 := HL'.out
      first
        | exact ⟨n', 0, _, rfl, rfl, hn', fun j hj => by rw [dg_of_ge (by omega), dg_of_ge (by omega)], rfl⟩
        | exact ⟨n, 0, _, rfl, rfl, hn, fun j hj => by rw [dg_of_ge (by omega), dg_of_ge (by omega)], rfl⟩
    case round =>
      obtain ⟨k, q, i, rfl, hi, hk, heq, rfl⟩ := hrel
      have HE := Lib.hid heq
      clear heq
      rcases Nat.eq_zero_or_pos k with h0 | h0
      · subst h0
        obtain rfl : i = -1 := by omega
        clear hi
        have hv := Lib.hid (cmpN_eq (cmp_same (ds := ds) (es := es) (k := 1000000) (by have := HL.out; omega) (by have := HL'.out; omega) HE.out))
        go_wp2
        go_ret
        exact ⟨by rw [hv.out]; rfl, by repeat (first | exact hbW | refine below_drewN ?_ _)⟩
      · obtain ⟨m, rfl⟩ : ∃ m, k = m + 1 := ⟨k - 1, by omega⟩
        obtain rfl : i = (m : Int) := by omega
        clear hi h0
        rcases Nat.lt_trichotomy (dg ds m) (dg es m) with hlt | heq | hgt
        · have d1 : decide (dg ds m < dg es m) = true := by simpa using hlt
          have hv := Lib.hid (cmpN_lt (cmp_first hd (m := m) (k := 1000000) (by omega) (by have := HL.out; omega) (by have := HL'.out; omega) HE.out hlt))
          clear hlt
          go_wp2
          go_quiet ((go_at_call 83; first | (with_reducible exact q_add (at_any A n c ds _ _ _ (hA.drewN _))) | (with_reducible exact q_add (at_any A' n' c' es _ _ _ (hA'.drewN _)))))
          go_wp2
          go_ret
          exact ⟨by rw [hv.out]; rfl, by repeat (first | exact hbW | refine below_drewN ?_ _)⟩
        · have d1 : decide (dg ds m < dg es m) = false := by simp; omega
          have d2 : decide (dg es m < dg ds m) = false := by simp; omega
          have HE' := Lib.hid (show ∀ j, m ≤ j → dg ds j = dg es j from fun j hj => by
            by_cases e : j = m
            · rw [e]; exact heq
            · exact HE.out j (by omega))
          clear heq
          go_wp2
          go_quiet ((go_at_call 83; first | (with_reducible exact q_add (at_any A n c ds _ _ _ (hA.drewN _))) | (with_reducible exact q_add (at_any A' n' c' es _ _ _ (hA'.drewN _)))))
          go_wp2
          go_quiet ((go_at_call 83; first | (with_reducible exact q_add (at_any A n c ds _ _ _ (hA.drewN _))) | (with_reducible exact q_add (at_any A' n' c' es _ _ _ (hA'.drewN _)))))
          go_wp2
          exact ⟨⟨m, _, _, rfl, by omega, by omega, HE'.out, rfl⟩, by simp [intOf]⟩
        · have d1 : decide (dg ds m < dg es m) = false := by simp; omega
          have d2 : decide (dg es m < dg ds m) = true := by simpa using hgt
          have hv := Lib.hid (cmpN_gt (cmp_first hd' (m := m) (k := 1000000) (by omega) (by have := HL'.out; omega) (by have := HL.out; omega) (fun j hj => (HE.out j hj).symm) hgt))
          clear hgt
          go_wp2
          go_quiet ((go_at_call 83; first | (with_reducible exact q_add (at_any A n c ds _ _ _ (hA.drewN _))) | (with_reducible exact q_add (at_any A' n' c' es _ _ _ (hA'.drewN _)))))
          go_wp2
          go_quiet ((go_at_call 83; first | (with_reducible exact q_add (at_any A n c ds _ _ _ (hA.drewN _))) | (with_reducible exact q_add (at_any A' n' c' es _ _ _ (hA'.drewN _)))))
          go_wp2
          go_ret
          exact ⟨by rw [hv.out]; rfl, by repeat (first | exact hbW | refine below_drewN ?_ _)⟩
end Go.Proofs.Ytdjeedmiicagcaa.NatW
