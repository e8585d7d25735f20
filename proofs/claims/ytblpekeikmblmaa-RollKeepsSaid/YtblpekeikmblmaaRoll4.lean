/- The walks of the roll, fourth part: rings: Turn of both sides, Check, the document's Run, few, two rings compared. Conditions: rings are read rightly. -/
import Derived.Test.YtblpekeikmblmaaRoll3
namespace Go.Proofs.Ytblpekeikmblmaa.BitsW
open Go.RowKit
open Go.Proofs.Ytblpekeikmblmaa.Words Go.Proofs.Ytblpekeikmblmaa.Bit

theorem info_rows : (Try.prog.info? 24).map (fun i => (i.zero, i.size, i.bytes)) = some (some (.slice none 0 0), 1, 24) := by kernel_rfl
/-- the values of a ring's cells -/
theorem RAt.vals {w : World} {B : Nat} {A : Option Addr} {n : Nat} {rs : List (List Nat)} (h : RAt w B A n rs) : ∃ V : Nat → Value, Rd w B A n V ∧ ∀ i, i < n → ∃ Ai ci, V i = .slice Ai (ro rs i).length ci ∧ BRow w B Ai (ro rs i).length (ro rs i) ∧ (ro rs i).length ≤ ci := by
  refine ⟨fun i => match A with | none => .bool false | some ad => (w.cell? (ad.add i)).getD (.bool false), fun i hi => ?_, fun i hi => ?_⟩
  · obtain ⟨ad, Ai, ci, rfl, hl, hc, _⟩ := h.2 i hi
    exact ⟨ad, rfl, hl, by simp only [hc, Option.getD_some]⟩
  · obtain ⟨ad, Ai, ci, rfl, hl, hc, hr, hci⟩ := h.2 i hi
    exact ⟨Ai, ci, by simp only [hc, Option.getD_some], hr, hci⟩
/-- a row of slices that the call made -/
theorem RAt.of_own {w : World} {b n : Nat} {e : TypeId} {v : Value} {xs : List Value} {rs : List (List Nat)} (h : w.ownsRow b e 1 v n xs) (hl : rs.length = n)
    (hx : ∀ i, i < n → ∃ Ai ci, xs[i]? = some (.slice Ai (ro rs i).length ci) ∧ BRow w w.heap.size Ai (ro rs i).length (ro rs i) ∧ (ro rs i).length ≤ ci) :
    ∃ A c, v = .slice A n c ∧ n ≤ c ∧ RAt w w.heap.size A n rs := by
  obtain ⟨A, c, hv, hc, _, _, hr⟩ := Rd.own h (f := fun j => (xs[j]?).getD (.bool false)) (fun j hj => by
    obtain ⟨Ai, ci, hxi, _⟩ := hx j hj
    rw [hxi]; rfl)
  refine ⟨A, c, hv, hc, hl, fun i hi => ?_⟩
  obtain ⟨Ai, ci, hxi, hrow, hci⟩ := hx i hi
  obtain ⟨ad, rfl, hlt, hcell⟩ := hr i hi
  exact ⟨ad, Ai, ci, rfl, hlt, by rw [hcell]; simp only [hxi]; rfl, hrow, hci⟩
/-- a ring that the call made, rows and all -/
def OR (w : World) (b : Nat) (v : Value) (n : Nat) (rs : List (List Nat)) : Prop :=
  rs.length = n ∧ ∃ xs : List Value, w.ownsRow b 24 1 v n xs ∧ ∀ i, i < n → ∃ u, xs[i]? = some u ∧ w.ownsRow b 5 1 u (ro rs i).length ((ro rs i).map byc) ∧ Byt (ro rs i)
theorem OR.ring {w : World} {b n : Nat} {v : Value} {rs : List (List Nat)} (h : OR w b v n rs) : ∃ A c, v = .slice A n c ∧ n ≤ c ∧ RAt w w.heap.size A n rs := by
  obtain ⟨hl, xs, ho, hx⟩ := h
  refine RAt.of_own ho hl fun i hi => ?_
  obtain ⟨u, hu, hou, hb⟩ := hx i hi
  obtain ⟨Ai, ci, rfl, hci, _, _, hr⟩ := brow_of_own rfl hb hou
  exact ⟨Ai, ci, hu, hr, hci⟩
/-- rows of two types lie in two blocks -/
theorem tags {w : World} {b b' s s' n n' : Nat} {e e' : TypeId} {v v' : Value} {xs xs' : List Value} (h : w.ownsRow b e s v n xs) (h' : w.ownsRow b' e' s' v' n' xs') (hne : e ≠ e') : v.ownBlock = none ∨ v.ownBlock ≠ v'.ownBlock := by
  rcases h.2 with ⟨rfl, _⟩ | ⟨g, cap, cur, rfl, _, hg, _⟩
  · exact .inl rfl
  · refine .inr fun e0 => ?_
    rcases h'.2 with ⟨rfl, _⟩ | ⟨g', cap', cur', rfl, _, hg', _⟩
    · cases e0
    · have e1 : g = g' := Option.some.inj e0
      subst e1
      rw [hg] at hg'
      cases hg'
      exact hne rfl
/-- one epoch more -/
def trn (xs : List Nat) (rs : List (List Nat)) : List (List Nat) := xs :: rs.take 7
theorem trn_len (xs : List Nat) (rs : List (List Nat)) : (trn xs rs).length = min rs.length 7 + 1 := by simp [trn]; omega
theorem ro_cons (xs : List Nat) (rs : List (List Nat)) (i : Nat) : ro (xs :: rs) (i + 1) = ro rs i := by simp [ro]
theorem ro_take {rs : List (List Nat)} {i k : Nat} (h : i < k) : ro (rs.take k) i = ro rs i := by simp [ro, h]

set_option maxHeartbeats 1000000 in
theorem rrun_any (A : Option Addr) (n c : Nat) (rs : List (List Nat)) (m : Int) (hm : m ≤ 9223372036854775807) (hlen : ∀ i, i < n → (ro rs i).length ≤ 1000000) (hn : n ≤ 1000000) (w : World) (hR : RAt w w.heap.size A n rs) :
    Calls Try.prog 39 #[.slice A n c, .int .i64 m] w fun e w' => e = .returned (.int .i64 (runN rs m : Nat)) ∧ w = w' := by
  have HR := Lib.hid hR
  have HL := Lib.hid hlen
  clear hR hlen
  go_enter Try.func39, Try.ntmps39
  go_wp2
  go_loop [5] (fun iv => ∃ k : Nat, iv = .int .i64 k ∧ k ≤ n ∧ ∀ i, i < k → bitI (ro rs i) m = true) (fun iv => n - (intOf iv).toNat)
  case atStart => exact ⟨0, rfl, Nat.zero_le _, fun i hi => by omega⟩
  case round =>
    obtain ⟨k, rfl, hk, hall⟩ := hrel
    have HA := Lib.hid hall
    clear hall
    by_cases hlt : k < n
    · have e1 : decide (k < n) = true := by simpa using hlt
      obtain ⟨ad, Ai, ci, rfl, _, hc, hrow, _⟩ := HR.out.2 k hlt
      have HG := Lib.hid (rget_any Ai _ ci w.heap.size m (ro rs k) w hrow (HL.out k hlt) hm)
      have HN := Lib.hid (fun h : bitI (ro rs k) m = true => (show ∀ i, i < k + 1 → bitI (ro rs i) m = true from fun i hi => by
        by_cases h' : i = k
        · rw [h']; exact h
        · exact HA.out i (by omega)))
      have HE := Lib.hid (fun h : bitI (ro rs k) m = false => runN_of rs m k (by rw [HR.out.1]; omega) HA.out (.inr h))
      clear hrow
      generalize (ro rs k).length = nk at hc HG
      generalize bitI (ro rs k) m = x at HG HN HE
      go_wp2_with fail
      refine HG.out.mono ?_
      rintro e w' ⟨rfl, rfl⟩
      cases x
      · have HE' := Lib.hid (HE.out rfl)
        go_wp2
        go_ret
        exact ⟨by rw [HE'.out] <;> rfl, rfl⟩
      · have HN' := Lib.hid (HN.out rfl)
        go_wp2
        exact ⟨⟨k + 1, by go_num, by omega, HN'.out⟩, by simp [intOf]; omega⟩
    · have e1 : decide (k < n) = false := by simpa using hlt
      obtain rfl : k = n := by omega
      have HE := Lib.hid (runN_of rs m k (by rw [HR.out.1]; omega) HA.out (.inl HR.out.1.symm))
      go_wp2
      go_ret
      exact ⟨by rw [HE.out] <;> rfl, rfl⟩
theorem few_yes (A : Option Addr) (n c : Nat) (rs : List (List Nat)) (hlen : ∀ i, i < n → (ro rs i).length ≤ 100) (hn : n ≤ 50) (w : World) (hR : RAt w w.heap.size A n rs) :
    Calls Try.prog 34 #[.slice A n c] w fun e w' => e = .returned (.bool true) ∧ w = w' := by
  have HR := Lib.hid hR
  have HL := Lib.hid hlen
  clear hR hlen
  go_enter Try.func34, Try.ntmps34
  go_wp2
  go_loop [7] (fun iv => ∃ k : Nat, iv = .int .i64 k ∧ k ≤ n) (fun iv => n - (intOf iv).toNat)
  case atStart => exact ⟨0, rfl, Nat.zero_le _⟩
  case round =>
    obtain ⟨k, rfl, hk⟩ := hrel
    by_cases hlt : k < n
    · have e1 : decide (k < n) = true := by simpa using hlt
      obtain ⟨ad, Ai, ci, rfl, _, hc, hrow, _⟩ := HR.out.2 k hlt
      have e2 : decide ((100 : Int) < (ro rs k).length) = false := by have := HL.out k hlt; simp; omega
      clear hrow
      generalize (ro rs k).length = nk at hc e2
      go_wp2
      exact ⟨⟨k + 1, by go_num, by omega⟩, by simp [intOf]; omega⟩
    · have e1 : decide (k < n) = false := by simpa using hlt
      have e2 : decide ((n : Int) ≤ 50) = true := by simp; omega
      go_wp2
      go_ret
      exact ⟨rfl, rfl⟩
theorem few_no (A : Option Addr) (n c : Nat) (rs : List (List Nat)) (hno : ¬ ((∀ i, i < n → (ro rs i).length ≤ 100) ∧ n ≤ 50)) (hm : n ≤ 9223372036854775807) (w : World) (hR : RAt w w.heap.size A n rs) :
    Calls Try.prog 34 #[.slice A n c] w fun e w' => e = .returned (.bool false) ∧ w = w' := by
  have HR := Lib.hid hR
  have HNo := Lib.hid hno
  clear hR hno
  go_enter Try.func34, Try.ntmps34
  go_wp2
  go_loop [7] (fun iv => ∃ k : Nat, iv = .int .i64 k ∧ k ≤ n ∧ ∀ i, i < k → (ro rs i).length ≤ 100) (fun iv => n - (intOf iv).toNat)
  case atStart => exact ⟨0, rfl, Nat.zero_le _, fun i hi => by omega⟩
  case round =>
    obtain ⟨k, rfl, hk, hall⟩ := hrel
    have HA := Lib.hid hall
    clear hall
    by_cases hlt : k < n
    · have e1 : decide (k < n) = true := by simpa using hlt
      obtain ⟨ad, Ai, ci, rfl, _, hc, hrow, _⟩ := HR.out.2 k hlt
      have HN := Lib.hid (fun h : (ro rs k).length ≤ 100 => (show ∀ i, i < k + 1 → (ro rs i).length ≤ 100 from fun i hi => by
        by_cases h' : i = k
        · rw [h']; exact h
        · exact HA.out i (by omega)))
      clear hrow
      generalize (ro rs k).length = nk at hc HN
      by_cases hbig : 100 < nk
      · have e2 : decide ((100 : Int) < nk) = true := by simp; omega
        clear hbig
        go_wp2
        go_ret
        exact ⟨rfl, rfl⟩
      · have e2 : decide ((100 : Int) < nk) = false := by simp; omega
        have HN' := Lib.hid (HN.out (by omega))
        clear hbig
        go_wp2
        exact ⟨⟨k + 1, by go_num, by omega, HN'.out⟩, by simp [intOf]; omega⟩
    · have e1 : decide (k < n) = false := by simpa using hlt
      obtain rfl : k = n := by omega
      have e2 : decide ((k : Int) ≤ 50) = false := by
        rw [decide_eq_false_iff_not]
        intro h
        exact HNo.out ⟨HA.out, by omega⟩
      go_wp2
      go_ret
      exact ⟨rfl, rfl⟩
/-- what Check asks for -/
def COk (xs : List Nat) (rs : List (List Nat)) : Prop := rs.length ≤ 8 ∧ Right xs 128 ∧ ∀ i, i < rs.length → Right (ro rs i) 128
theorem chk_ok (A B : Option Addr) (n c f d : Nat) (rs : List (List Nat)) (xs : List Nat) (h : COk xs rs) (w : World) (hR : RAt w w.heap.size A n rs) (hX : BRow w w.heap.size B f xs) (hf : f ≤ 1000000) :
    Calls Try.prog 40 #[.slice A n c, .slice B f d] w fun e w' => e = .returned (.int .i64 0) ∧ w = w' := by
  obtain ⟨h1, h2, h3⟩ := h
  have hl := hR.1
  have hn : n ≤ 8 := by omega
  have d1 : decide ((8 : Int) < n) = false := by simp; omega
  have HX := Lib.hid (right_yes B f d _ xs w hX h2 hf)
  have HR := Lib.hid hR
  have H3 := Lib.hid (show ∀ i, i < n → Right (ro rs i) 128 by rw [← hl]; exact h3)
  clear hR hX h1 h2 h3 hl
  go_enter Try.func40, Try.ntmps40
  go_wp2_with fail
  refine HX.out.mono ?_
  rintro e w' ⟨rfl, rfl⟩
  go_wp2
  go_loop [17] (fun iv => ∃ k : Nat, iv = .int .i64 k ∧ k ≤ n) (fun iv => n - (intOf iv).toNat)
  case atStart => exact ⟨0, rfl, Nat.zero_le _⟩
  case round =>
    obtain ⟨k, rfl, hk⟩ := hrel
    by_cases hlt : k < n
    · have e1 : decide (k < n) = true := by simpa using hlt
      obtain ⟨ad, Ai, ci, rfl, _, hc, hrow, _⟩ := HR.out.2 k hlt
      have HG := Lib.hid (right_yes Ai _ ci _ (ro rs k) w hrow (H3.out k hlt) (by have := (H3.out k hlt).2.2.1; omega))
      clear hrow
      generalize (ro rs k).length = nk at hc HG
      go_wp2_with fail
      refine HG.out.mono ?_
      rintro e w' ⟨rfl, rfl⟩
      go_wp2
      exact ⟨⟨k + 1, by go_num, by omega⟩, by simp [intOf]; omega⟩
    · have e1 : decide (k < n) = false := by simpa using hlt
      go_wp2
      go_ret
      exact ⟨rfl, rfl⟩
set_option maxHeartbeats 1000000 in
theorem chk_bad (A B : Option Addr) (n c f d : Nat) (rs : List (List Nat)) (xs : List Nat) (h : ¬ COk xs rs) (w : World) (hR : RAt w w.heap.size A n rs) (hX : BRow w w.heap.size B f xs) (hf : f ≤ 1000000) (hlen : ∀ i, i < n → (ro rs i).length ≤ 1000000) :
    Calls Try.prog 40 #[.slice A n c, .slice B f d] w fun e w' => e = .returned (.int .i64 60) ∧ w = w' := by
  have hl := hR.1
  by_cases hn : 8 < n
  · have d1 : decide ((8 : Int) < n) = true := by simp; omega
    clear hR hX h
    go_enter Try.func40, Try.ntmps40
    go_wp2
    go_ret
    exact ⟨rfl, rfl⟩
  have d1 : decide ((8 : Int) < n) = false := by simp; omega
  by_cases hx : Right xs 128
  · have HX := Lib.hid (right_yes B f d _ xs w hX hx hf)
    have HR := Lib.hid hR
    have HL := Lib.hid hlen
    have HNo := Lib.hid (show ¬ ∀ i, i < n → Right (ro rs i) 128 from fun h' => h ⟨by omega, hx, by rw [hl]; exact h'⟩)
    clear hR hX h hl hlen hx
    go_enter Try.func40, Try.ntmps40
    go_wp2_with fail
    refine HX.out.mono ?_
    rintro e w' ⟨rfl, rfl⟩
    go_wp2
    go_loop [17] (fun iv => ∃ k : Nat, iv = .int .i64 k ∧ k ≤ n ∧ ∀ i, i < k → Right (ro rs i) 128) (fun iv => n - (intOf iv).toNat)
    case atStart => exact ⟨0, rfl, Nat.zero_le _, fun i hi => by omega⟩
    case round =>
      obtain ⟨k, rfl, hk, hall⟩ := hrel
      have HA := Lib.hid hall
      clear hall
      by_cases hlt : k < n
      · have e1 : decide (k < n) = true := by simpa using hlt
        obtain ⟨ad, Ai, ci, rfl, _, hc, hrow, _⟩ := HR.out.2 k hlt
        by_cases hr : Right (ro rs k) 128
        · have HG := Lib.hid (right_yes Ai _ ci _ (ro rs k) w hrow hr (HL.out k hlt))
          have HN := Lib.hid (show ∀ i, i < k + 1 → Right (ro rs i) 128 from fun i hi => by
            by_cases h' : i = k
            · rw [h']; exact hr
            · exact HA.out i (by omega))
          clear hrow hr
          generalize (ro rs k).length = nk at hc HG
          go_wp2_with fail
          refine HG.out.mono ?_
          rintro e w' ⟨rfl, rfl⟩
          go_wp2
          exact ⟨⟨k + 1, by go_num, by omega, HN.out⟩, by simp [intOf]; omega⟩
        · have HG := Lib.hid (right_no Ai _ ci _ (ro rs k) w hrow hr (HL.out k hlt))
          clear hrow hr
          generalize (ro rs k).length = nk at hc HG
          go_wp2_with fail
          refine HG.out.mono ?_
          rintro e w' ⟨rfl, rfl⟩
          go_wp2
          go_ret
          exact ⟨rfl, rfl⟩
      · obtain rfl : k = n := by omega
        exact absurd HA.out HNo.out
  · have HX := Lib.hid (right_no B f d _ xs w hX hx hf)
    clear hR hX h hl hlen hx
    go_enter Try.func40, Try.ntmps40
    go_wp2_with fail
    refine HX.out.mono ?_
    rintro e w' ⟨rfl, rfl⟩
    go_wp2
    go_ret
    exact ⟨rfl, rfl⟩
theorem samer_yes (A B : Option Addr) (n c d L : Nat) (rs : List (List Nat)) (w : World) (h : RAt w L A n rs) (h' : RAt w L B n rs) (hlen : ∀ i, i < n → (ro rs i).length ≤ 1000000) (hn : n ≤ 1000000) :
    Calls Try.prog 35 #[.slice A n c, .slice B n d] w fun e w' => e = .returned (.bool true) ∧ ∃ q, w' = w.drewN q := by
  have HL := Lib.hid hlen
  have H1 := Lib.hid h
  have H2 := Lib.hid h'
  clear h h' hlen
  go_enter Try.func35, Try.ntmps35
  go_wp2
  go_loopw [14] (fun v wr => ∃ (k q : Nat), v = .int .i64 k ∧ k ≤ n ∧ wr = w.drewN q) (fun v _ => n - (intOf v).toNat)
  case atStart => exact ⟨0, 0, rfl, Nat.zero_le _, rfl⟩
  case round =>
    obtain ⟨k, q, rfl, hk, rfl⟩ := hrel
    by_cases hlt : k < n
    · have e1 : decide (k < n) = true := by simpa using hlt
      obtain ⟨ad, Ai, ci, rfl, _, hc, hrow, _⟩ := H1.out.2 k hlt
      obtain ⟨bd, Bi, di, rfl, _, hd, hrow2, _⟩ := H2.out.2 k hlt
      have hc' : (w.drewN q).cell? (ad.add k) = some (.slice Ai (ro rs k).length ci) := hc
      have hd' : (w.drewN q).cell? (bd.add k) = some (.slice Bi (ro rs k).length di) := hd
      have HS := Lib.hid (same_yes Ai Bi _ ci di L (ro rs k) (w.drewN q) (hrow.drewN q) (hrow2.drewN q) (HL.out k hlt))
      clear hrow hrow2 hc hd
      generalize (ro rs k).length = nk at hc' hd' HS
      go_wp2_with fail
      refine HS.out.mono ?_
      rintro e w' ⟨rfl, q2, rfl⟩
      go_wp2
      exact ⟨⟨k + 1, _, by go_num, by omega, rfl⟩, by simp [intOf]; omega⟩
    · have e1 : decide (k < n) = false := by simpa using hlt
      go_wp2
      go_ret
      exact ⟨rfl, q, rfl⟩
end Go.Proofs.Ytblpekeikmblmaa.BitsW
