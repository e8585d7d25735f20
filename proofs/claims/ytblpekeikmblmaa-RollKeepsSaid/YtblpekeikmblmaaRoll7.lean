/- The walks of the roll, seventh part: RollKeeps. Conditions: rings are read rightly. -/
import Derived.Test.YtblpekeikmblmaaRoll6
namespace Go.Proofs.Ytblpekeikmblmaa.BitsW
open Go.RowKit
open Go.Proofs.Ytblpekeikmblmaa.Words Go.Proofs.Ytblpekeikmblmaa.Bit

/-- rows of a ring, each of 16 bytes, that may be written over -/
def WRow (b L : Nat) (ys : List Value) (n : Nat) (w : World) : Prop := ∀ i, i < n → ∃ g c xs, ys[i]? = some (.slice (some ⟨g, 0, none⟩) 16 c) ∧ g < L ∧ w.ownsRow b 5 1 (.slice (some ⟨g, 0, none⟩) 16 c) 16 xs
theorem WRow.row {b L n : Nat} {ys : List Value} {w : World} (h : WRow b L ys n w) (i : Nat) (hi : i < n) : ∃ g c xs, ys[i]? = some (.slice (some ⟨g, 0, none⟩) 16 c) ∧ g < L ∧ w.ownsRow b 5 1 (.slice (some ⟨g, 0, none⟩) 16 c) 16 xs := h i hi
theorem WRow.to {b L n : Nat} {ys : List Value} {w w' : World} (h : WRow b L ys n w) (hb : Below w.heap.size w w') : WRow b L ys n w' := fun i hi => by
  obtain ⟨g, c, xs, h1, h2, h3⟩ := h i hi
  exact ⟨g, c, xs, h1, h2, own_to h3 hb⟩
theorem own_any_set {w : World} {b n : Nat} {e : TypeId} {v : Value} {xs : List Value} (h : w.ownsRow b e 1 v n xs) (g k : Nat) (x : Value) : ∃ xs', (w.setCell ⟨g, k, none⟩ x).ownsRow b e 1 v n xs' := by
  rcases h.2 with ⟨rfl, h0⟩ | ⟨g', c, cur, rfl, _⟩
  · exact ⟨xs, h.1, .inl ⟨rfl, h0⟩⟩
  · by_cases e0 : g' = g
    · subst e0
      exact ⟨_, (h.stored k x).1⟩
    · refine ⟨xs, h.kept (row := some g) ⟨rfl, rfl, rfl, by simp [World.setCell], fun i hi hne => Below.heap_setCell w ⟨g, k, none⟩ x i (fun e1 => hne (congrArg some e1))⟩ (.inr ?_)⟩
      intro e1
      exact e0 (Option.some.inj e1)
theorem own_set_tag {w : World} {b b' n n' : Nat} {e e' : TypeId} {v : Value} {xs xs' : List Value} {g c : Nat} (h : w.ownsRow b e 1 v n xs) (h' : w.ownsRow b' e' 1 (.slice (some ⟨g, 0, none⟩) n' c) n' xs') (hne : e ≠ e') (k : Nat) (x : Value) :
    (w.setCell ⟨g, k, none⟩ x).ownsRow b e 1 v n xs :=
  h.kept (row := some g) ⟨rfl, rfl, rfl, by simp [World.setCell], fun i hi hn => Below.heap_setCell w ⟨g, k, none⟩ x i (fun e1 => hn (congrArg some e1))⟩ (tags h h' hne)
theorem WRow.set {b L n : Nat} {ys : List Value} {w : World} (h : WRow b L ys n w) (g k : Nat) (x : Value) : WRow b L ys n (w.setCell ⟨g, k, none⟩ x) := fun i hi => by
  obtain ⟨g', c, xs, h1, hl, h2⟩ := h i hi
  obtain ⟨xs', h3⟩ := own_any_set h2 g k x
  exact ⟨g', c, xs', h1, hl, h3⟩
theorem OR.set {w : World} {b n : Nat} {v : Value} {rs : List (List Nat)} (h : OR w b v n rs) {g : Nat} (hg : g < b) (k : Nat) (x : Value) : OR (w.setCell ⟨g, k, none⟩ x) b v n rs := by
  obtain ⟨hl, xs, ho, hx⟩ := h
  have kp : ∀ {e : TypeId} {u : Value} {m : Nat} {zs : List Value}, w.ownsRow b e 1 u m zs → (w.setCell ⟨g, k, none⟩ x).ownsRow b e 1 u m zs := fun {e u m zs} h1 =>
    h1.kept (row := some g) ⟨rfl, rfl, rfl, by simp [World.setCell], fun i hi hne => Below.heap_setCell w ⟨g, k, none⟩ x i (fun e1 => hne (congrArg some e1))⟩ (by
      rcases hu : u.ownBlock with _ | j
      · exact .inl rfl
      · refine .inr fun e1 => ?_
        have := (h1.lt j hu).1
        have e2 : j = g := Option.some.inj e1
        omega)
  refine ⟨hl, xs, kp ho, fun i hi => ?_⟩
  obtain ⟨u, h1, h2, h3⟩ := hx i hi
  exact ⟨u, h1, kp h2, h3⟩
theorem OR.base {w : World} {b b' n : Nat} {v : Value} {rs : List (List Nat)} (h : OR w b' v n rs) (hb : b ≤ b') : OR w b v n rs := by
  obtain ⟨hl, xs, ho, hx⟩ := h
  refine ⟨hl, xs, own_base ho hb, fun i hi => ?_⟩
  obtain ⟨u, h1, h2, h3⟩ := hx i hi
  exact ⟨u, h1, own_base h2 hb, h3⟩
/-- all rows are marks, and a member is in each -/
def Good (m : Nat) (rs : List (List Nat)) : Prop := ∀ i, i < rs.length → Right (ro rs i) 128 ∧ bit (ro rs i) m = true
theorem Good.trn {m : Nat} {rs : List (List Nat)} {xs : List Nat} (h : Good m rs) (hR : Right xs 128) (hb : bit xs m = true) : Good m (trn xs rs) := by
  intro i hi
  rw [trn_len] at hi
  rcases i with _ | i
  · exact ⟨hR, hb⟩
  · rw [BitsW.trn, ro_cons, ro_take (by omega)]
    exact h i (by omega)
theorem Good.run {m n : Nat} {rs : List (List Nat)} (h : Good m rs) (hl : rs.length = n) : runN rs (m : Int) = n :=
  runN_of rs m n (by omega) (fun k hk => by rw [bitI_nat]; exact (h k (by omega)).2) (.inl hl.symm)
theorem OR.wrow {w : World} {b n m : Nat} {v : Value} {rs : List (List Nat)} (h : OR w b v n rs) (hg : Good m rs) : ∃ ys, w.ownsRow b 24 1 v n ys ∧ WRow b w.heap.size ys n w := by
  obtain ⟨hl, xs, ho, hx⟩ := h
  refine ⟨xs, ho, fun i hi => ?_⟩
  obtain ⟨u, h1, h2, h3⟩ := hx i hi
  have hlen : (ro rs i).length = 16 := by have := (hg i (by omega)).1.2.2.1; exact this
  rw [hlen] at h2
  obtain ⟨g, c, rfl, _⟩ := own_bytes hlen h2 (by omega)
  exact ⟨g, c, _, h1, (h2.lt g rfl).2, h2⟩
theorem bit_p {p m : Nat} (hp : p = 2 ^ m) (hm : m < 8) : bit [p] m = true := by
  subst hp
  unfold bit by_
  have e1 : m / 8 = 0 := by omega
  have e2 : m % 8 = m := by omega
  rw [e1, e2]
  simp
theorem right_p (p : Nat) : Right [p] 8 := ⟨by omega, by omega, rfl, fun i hi => by
  unfold bit by_
  rw [List.getD_eq_getElem?_getD, List.getElem?_eq_none (by simp; omega)]
  simp⟩
set_option maxHeartbeats 20000000 in
set_option maxRecDepth 100000 in
theorem keeps_good (A : Option Addr) (n c : Nat) (m : Nat) (hm : m < 8) (fs : List (List Nat)) (w : World) (hR : RAt w w.heap.size A n fs) (hn : n ≤ 40) :
    Calls Try.prog 10 #[.slice A n c, .int .i64 m] w fun e w' => e = .returned (.bool true) ∧ Below w.heap.size w w' := by
  have d1 : decide ((40 : Int) < n) = false := by simp; omega
  have d2 : decide ((m : Int) < 0) = false := by simp
  have d3 : decide ((7 : Int) < m) = false := by simp; omega
  obtain ⟨p, hp⟩ : ∃ p, p = 2 ^ m := ⟨_, rfl⟩
  have hp8 : p < 256 := by rw [hp]; exact two_pow_lt hm
  have hz : (2 : Int) ^ m % 256 = (p : Int) := by
    have e0 : (2 : Int) ^ m = ((2 ^ m : Nat) : Int) := by rw [Int.natCast_pow]; rfl
    rw [e0, ← hp]
    omega
  have HZ := Lib.hid hz
  have HP := Lib.hid hp
  have HF := Lib.hid hR
  clear hp hz hR
  go_enter Try.func10, Try.ntmps10
  go_wp2_with fail
  refine (awake20 w).mono ?_
  rintro e w1 ⟨rfl, hb1⟩
  go_wp2
  obtain ⟨W1, hW1⟩ : ∃ W1, W1 = w1.alloc (.cells #[.int .u8 (2 ^ m % 256)] 5) := ⟨_, rfl⟩
  have hmine : BRow W1 W1.heap.size (some ⟨w1.heap.size, 0, none⟩) 1 [p] := by rw [hW1]; exact brow1 w1 p _ hp8 HZ.out
  have hbW : Below w.heap.size w W1 := by rw [hW1]; exact hb1.alloc hb1.size _
  rw [← hW1]
  obtain ⟨mb, hmb⟩ : ∃ mb, mb = w1.heap.size := ⟨_, rfl⟩
  rw [← hmb] at hmine ⊢
  have HMi := Lib.hid (fun (W : World) (h : Below W1.heap.size W1 W) => hmine.to h)
  have HFi := Lib.hid (fun (W : World) (h : Below W1.heap.size W1 W) => HF.out.to (hbW.trans (h.mono hbW.size)))
  have HbW := Lib.hid hbW
  have HSm := Lib.hid (mks_right zrs [p])
  have HRp := Lib.hid (right_p p)
  have HBp := Lib.hid (show bit (mks zrs [p]) m = true by rw [bit_mks m (by omega), bit_p HP.out hm, Bool.or_true])
  clear hmine hbW hW1 hmb hb1 HF
  go_loopw [6, 36] (fun sv kv wr => ∃ (k n' : Nat) (rs : List (List Nat)), kv = .int .i64 k ∧ k ≤ n ∧ n' = min k 8 ∧ OR wr W1.heap.size sv n' rs ∧ Good m rs ∧ Below W1.heap.size W1 wr) (fun _ kv _ => n - (intOf kv).toNat)
  case atStart => exact ⟨0, 0, [], rfl, Nat.zero_le _, rfl, ⟨rfl, [], World.ownsRow_nil _ _ _ _, fun i hi => by omega⟩, fun i hi => by simp at hi, Below.refl _ _⟩
  case round =>
    clear d1 d2 d3
    obtain ⟨wo, rfl⟩ : ∃ wo : World, wo = wr := ⟨_, rfl⟩
    obtain ⟨k, n', rs, rfl, hk, hn', hOR, hG, hBr⟩ := hrel
    obtain ⟨Ar, cr, rfl, _, hRA⟩ := hOR.ring
    have HG := Lib.hid hG
    have hn8 : n' ≤ 8 := by omega
    have HN' := Lib.hid hn'
    clear hG hn'
    by_cases hlt : k < n
    · have e1 : decide (k < n) = true := by simpa using hlt
      obtain ⟨ad, Ai, ci, rfl, _, hc, hrow, _⟩ := (HFi.out wo hBr).2 k hlt
      have HRow := Lib.hid hrow
      clear hrow
      generalize hnf : (ro fs k).length = nf at hc HRow
      have HNf := Lib.hid hnf
      clear hnf
      go_wp2_with fail
      refine (empty_any wo).mono ?_
      rintro e w2 ⟨rfl, hoE, hbE⟩
      obtain ⟨A2, c2, hv2, _, _, _, hrE⟩ := brow_of_own (by rfl) zrs_byt hoE
      injection hv2 with hv2 _ hv3
      subst hv2 hv3
      have hb02 := hBr.trans (hbE.mono hBr.size)
      have HM := Lib.hid (show Calls Try.prog 30 #[.slice (some ⟨wo.heap.size, 0, none⟩) 16 16, .slice (some ⟨mb, 0, none⟩) 1 1, .int .i64 8] w2 fun e w' => ∃ v, e = .returned (.tuple #[v, .int .i64 0]) ∧ w'.ownsRow w2.heap.size 5 1 v 16 ((mks zrs [p]).map byc) ∧ Below w2.heap.size w2 w' from
        mark_ok _ _ 16 16 1 1 8 zrs [p] w2 hrE (HMi.out w2 hb02) ⟨zrs_right, by omega, by omega, HRp.out⟩ (by omega) (by omega))
      have hbE2 := hbE.size
      clear hoE hrE
      go_wp2_with fail
      refine HM.out.mono ?_
      rintro e w3 ⟨v3, rfl, hov, hb3⟩
      have hBW := hbE.trans (hb3.mono hbE2)
      have hglo' := hbE2
      clear HM hbE hb3 hbE2 hb02
      have HMl := Lib.hid (mks_len zrs [p])
      have HMb := Lib.hid (mks_byt zrs [p])
      have hWb := Nat.le_trans hBr.size hBW.size
      have HMR := HSm
      have HMB := HBp
      by_cases hnf : nf ≤ 16
      · have e4 : decide ((nf : Int) ≤ 16) = true := by simp; omega
        obtain ⟨q, hq⟩ : ∃ q : Nat, (q : Int) = 8 * (nf : Int) := ⟨8 * nf, by omega⟩
        obtain ⟨A3, c3, rfl, _, _, _, hr3⟩ := brow_of_own HMl.out HMb.out hov
        have hRf : Right (ro fs k) q := ⟨by omega, by omega, by rw [HNf.out]; omega, fun i hi => bit_ge (by rw [HNf.out]; omega)⟩
        have hM2 := mark_ok A3 Ai 16 c3 nf ci q (mks zrs [p]) (ro fs k) w3 hr3 (HRow.out.to hBW) ⟨HSm.out, by omega, by omega, hRf⟩ (by omega) (by omega)
        rw [hq] at hM2
        have HM2 := Lib.hid hM2
        have hs3 := hBW.size
        clear hM2 hRf hr3 hov hq
        go_wp2_with fail
        refine HM2.out.mono ?_
        rintro e w4 ⟨v4, rfl, hov, hb4⟩
        have hBW4 := hBW.trans (hb4.mono hs3)
        have hglo' := hs3
        clear HM2 hb4 hBW hglo'
        have hBW := hBW4
        have hglo' := hs3
        clear hBW4 hs3
        have HMl := Lib.hid (mks_len (mks zrs [p]) (ro fs k))
        have HMb := Lib.hid (mks_byt (mks zrs [p]) (ro fs k))
        have HMR := Lib.hid (mks_right (mks zrs [p]) (ro fs k))
        have HMB := Lib.hid (show bit (mks (mks zrs [p]) (ro fs k)) m = true by rw [bit_mks m (by omega), HBp.out, Bool.true_or])
        have hWb := Nat.le_trans hBr.size hBW.size
        obtain ⟨A4, c4, rfl, _, _, _, hr4⟩ := brow_of_own HMl.out HMb.out hov
        have HGet := Lib.hid (show Calls Try.prog 20 #[.slice A4 16 c4, .int .i64 m] w4 fun e w' => e = .returned (.bool true) ∧ w4 = w' by
          have h := rget_any A4 16 c4 _ m _ w4 hr4 (by omega) (by omega)
          rw [bitI_nat, HMB.out] at h
          exact h)
        clear hr4
        go_wp2_with fail
        refine HGet.out.mono ?_
        rintro e w' ⟨rfl, rfl⟩
        clear HGet
        obtain ⟨g, cg, hvg, hglo, _, _⟩ := own_bytes HMl.out hov (by omega)
        first
          | subst hvg
          | (injection hvg with hvg1 _ hvg3; replace hvg3 := hvg3.symm; subst hvg1; subst hvg3)
        have hgl := (hov.lt g rfl).2
        obtain ⟨A4, c4, hv4, _, _, _, hrow4⟩ := brow_of_own HMl.out HMb.out hov
        injection hv4 with hv4 _ hv5
        subst hv4 hv5
        have HT := Lib.hid (turn_any Ar (some ⟨g, 0, none⟩) n' cr 16 cg rs (mks (mks zrs [p]) (ro fs k)) w4 (hRA.to hBW) hrow4 (by omega) (by omega) (fun i hi => by have := (HG.out i (by rw [hOR.1]; exact hi)).1.2.2.1; omega))
        obtain ⟨ys, hoy, hWy⟩ := hOR.wrow HG.out
        have HOy := Lib.hid hoy
        have HWy := Lib.hid hWy
        have hbs := hBW.size
        clear hrow4 hRA hoy hWy
        go_wp2_with fail
        refine HT.out.mono ?_
        rintro e w5 ⟨v5, rfl, hO5, hb5⟩
        obtain ⟨A5, c5, rfl, _, _⟩ := hO5.ring
        have hov5 := own_to hov hb5
        have hBW5 := hBW.trans (hb5.mono hbs)
        obtain ⟨n5, hn5⟩ : ∃ n5, n5 = min n' 7 + 1 := ⟨_, rfl⟩
        rw [← hn5] at hO5 ⊢
        have HN5 := Lib.hid hn5
        clear HT hov hb5 hn5 hbs
        go_wp2
        go_loopw [75] (fun iv wq => ∃ (j : Nat) (zs : List Value), iv = .int .i64 j ∧ j ≤ 16 ∧ wq.ownsRow wo.heap.size 5 1 (.slice (some ⟨g, 0, none⟩) 16 cg) 16 zs ∧ OR wq w4.heap.size (.slice A5 n5 c5) n5 (trn (mks (mks zrs [p]) (ro fs k)) rs) ∧ Below wo.heap.size wo wq) (fun iv _ => 16 - (intOf iv).toNat)
        case atStart => exact ⟨0, _, rfl, Nat.zero_le _, own_base hov5 hglo', hO5, hBW5⟩
        case round =>
          clear hov5 hO5 hBW5
          obtain ⟨wq, rfl⟩ : ∃ wq : World, wq = wr := ⟨_, rfl⟩
          obtain ⟨j, zs, rfl, hj, hoz, hO6, hB6⟩ := hrel
          by_cases hlt2 : j < 16
          · have e2 : decide ((j : Int) < 16) = true := by simp; omega
            have e2' : decide (j < 16) = true := by simp; omega
            obtain ⟨old, hold⟩ : ∃ old, zs[j]? = some old := ⟨_, List.getElem?_eq_getElem (by have := hoz.1; omega)⟩
            have hck := (hoz.cellAt j (by omega)).trans hold
            have hfk := hoz.frozenAt j
            have HS1 := Lib.hid (hoz.stored j (.int .u8 0)).1
            have HS2 := Lib.hid (hO6.set hgl j (.int .u8 0))
            have HS3 := Lib.hid (hB6.setCell (p := ⟨g, j, none⟩) (by show wo.heap.size ≤ g; omega) (.int .u8 0))
            clear hoz hO6 hB6 hold
            go_wp2
            exact ⟨⟨j + 1, _, by go_num, by omega, HS1.out, HS2.out, HS3.out⟩, by simp [intOf]; omega⟩
          · have e2 : decide ((j : Int) < 16) = false := by simp; omega
            have e2' : decide (j < 16) = false := by simp; omega
            have HB7 := Lib.hid (hBr.trans (hB6.mono hBr.size))
            have HO7 := Lib.hid hO6
            have hoy7 := own_to HOy.out hB6
            have hWy7 := HWy.out.to hB6
            clear hoz hO6 hB6 hj hlt2
            go_wp2
            go_loopw [84] (fun iv wp => ∃ i : Nat, iv = .int .i64 i ∧ i ≤ n' ∧ wp.ownsRow W1.heap.size 24 1 (.slice Ar n' cr) n' ys ∧ WRow W1.heap.size wo.heap.size ys n' wp ∧ OR wp w4.heap.size (.slice A5 n5 c5) n5 (trn (mks (mks zrs [p]) (ro fs k)) rs) ∧ Below W1.heap.size W1 wp) (fun iv _ => n' - (intOf iv).toNat)
            case atStart => exact ⟨0, rfl, Nat.zero_le _, hoy7, hWy7, HO7.out, HB7.out⟩
            case round =>
              clear hoy7 hWy7 HO7 HB7 e2 e2'
              obtain ⟨wp, rfl⟩ : ∃ wp : World, wp = wr := ⟨_, rfl⟩
              obtain ⟨i, rfl, hi, ho8, hW8, hO8, hB8⟩ := hrel
              by_cases hlt3 : i < n'
              · have e3 : decide (i < n') = true := by simpa using hlt3
                obtain ⟨gi, cgi, xi, hyi, hgi, hoi⟩ := hW8.row i hlt3
                obtain ⟨gr, cr', hvr, _⟩ := ho8.form (by omega)
                injection hvr with hvr1 _ hvr3
                subst hvr1 hvr3
                have hcr := (ho8.cellAt i (by omega)).trans hyi
                have HYI := Lib.hid hyi
                have Ho8 := Lib.hid ho8
                have HW8 := Lib.hid hW8
                have HO8 := Lib.hid hO8
                have HB8 := Lib.hid hB8
                have HOi := Lib.hid hoi
                clear hoi ho8 hW8 hO8 hB8 hyi
                go_wp2
                go_loopw [90] (fun jv wz => ∃ (j : Nat) (zs : List Value), jv = .int .i64 j ∧ j ≤ 16 ∧ wz.ownsRow W1.heap.size 5 1 (.slice (some ⟨gi, 0, none⟩) 16 cgi) 16 zs ∧ wz.ownsRow W1.heap.size 24 1 (.slice (some ⟨gr, 0, none⟩) n' cr) n' ys ∧ WRow W1.heap.size wo.heap.size ys n' wz ∧ OR wz w4.heap.size (.slice A5 n5 c5) n5 (trn (mks (mks zrs [p]) (ro fs k)) rs) ∧ Below W1.heap.size W1 wz) (fun jv _ => 16 - (intOf jv).toNat)
                case atStart => exact ⟨0, _, rfl, Nat.zero_le _, HOi.out, Ho8.out, HW8.out, HO8.out, HB8.out⟩
                case round =>
                  clear hcr e3
                  obtain ⟨wz, rfl⟩ : ∃ wz : World, wz = wr := ⟨_, rfl⟩
                  obtain ⟨j, zs, rfl, hj, hoz, hoy9, hW9, hO9, hB9⟩ := hrel
                  by_cases hlt4 : j < 16
                  · have e2 : decide ((j : Int) < 16) = true := by simp; omega
                    have e2' : decide (j < 16) = true := by simp; omega
                    obtain ⟨old, hold⟩ : ∃ old, zs[j]? = some old := ⟨_, List.getElem?_eq_getElem (by have := hoz.1; omega)⟩
                    have hck := (hoz.cellAt j (by omega)).trans hold
                    have hfk := hoz.frozenAt j
                    have hgW := (hoz.lt gi rfl).1
                    have HS1 := Lib.hid (hoz.stored j (.int .u8 0)).1
                    have HS2 := Lib.hid (hO9.set (show gi < w4.heap.size by omega) j (.int .u8 0))
                    have HS3 := Lib.hid (hB9.setCell (p := ⟨gi, j, none⟩) hgW (.int .u8 0))
                    have HS4 := Lib.hid (own_set_tag hoy9 hoz (by decide) j (.int .u8 0))
                    have HS5 := Lib.hid (hW9.set gi j (.int .u8 0))
                    clear hoz hO9 hB9 hold hoy9 hW9 hgW
                    go_wp2
                    exact ⟨⟨j + 1, _, by go_num, by omega, HS1.out, HS4.out, HS5.out, HS2.out, HS3.out⟩, by simp [intOf]; omega⟩
                  · have e2 : decide ((j : Int) < 16) = false := by simp; omega
                    have e2' : decide (j < 16) = false := by simp; omega
                    have H1 := Lib.hid hoy9
                    have H2 := Lib.hid hW9
                    have H3 := Lib.hid hO9
                    have H4 := Lib.hid hB9
                    clear hoz hoy9 hW9 hO9 hB9 hj hlt4
                    go_wp2
                    exact ⟨⟨i + 1, by go_num, by omega, H1.out, H2.out, H3.out, H4.out⟩, by simp [intOf]; omega⟩
              · have e3 : decide (i < n') = false := by simpa using hlt3
                obtain ⟨A6, c6, hv6, _, hRA6⟩ := hO8.ring
                injection hv6 with hv6 _ hv7
                subst hv6 hv7
                have hgood := HG.out.trn HMR.out HMB.out
                have hl6 := hRA6.1
                have hn58 : n5 ≤ 8 := by have := HN5.out; omega
                have HRu := Lib.hid (run_any A5 n5 c5 (trn (mks (mks zrs [p]) (ro fs k)) rs) m (by omega) (fun i hi => by have := (hgood i (by omega)).1.2.2.1; omega) (by omega) wp hRA6)
                have HRN := Lib.hid (hgood.run hl6)
                have hmin : ((n5 : Int) != min ((k : Int) + 1) 8) = false := by
                  have h1 := HN5.out
                  have h2 := HN'.out
                  rw [show min ((k : Int) + 1) 8 = (n5 : Int) by omega]
                  simp
                have hmin2 : ((n5 : Int) != (n5 : Int)) = false := by simp
                have HG6 := Lib.hid hgood
                have HL6 := Lib.hid hl6
                have HOR6 := Lib.hid hO8
                have HRA6 := Lib.hid hRA6
                have hkm : (k : Int) + 1 ≤ 100 := by omega
                clear ho8 hW8 hO8 hRA6 hgood hl6 hi hlt3
                go_wp2_with fail
                refine HRu.out.mono ?_
                rintro e wx ⟨rfl, hbx⟩
                rw [HRN.out]
                have hBx := hB8.trans (hbx.mono hB8.size)
                clear hB8
                go_wp2_with fail
                refine (empty_any wx).mono ?_
                rintro e wy ⟨rfl, hoE, hbE⟩
                obtain ⟨A2, c2, hv2, _, _, _, hrE⟩ := brow_of_own (by rfl) zrs_byt hoE
                injection hv2 with hv2 _ hv3
                subst hv2 hv3
                have hBy := hBx.trans (hbE.mono hBx.size)
                have HC := Lib.hid (chk_ok A5 (some ⟨wx.heap.size, 0, none⟩) n5 c5 16 16 (trn (mks (mks zrs [p]) (ro fs k)) rs) zrs ⟨by rw [HL6.out]; exact hn58, zrs_right, fun i hi => (HG6.out i hi).1⟩ wy ((HRA6.out.to hbx).to hbE) hrE (by omega))
                have HOR7 := Lib.hid (((HOR6.out.to hbx).to hbE).base hWb)
                clear hoE hrE hbE hbx hBx
                go_wp2_with fail
                refine HC.out.mono ?_
                rintro e w' ⟨rfl, rfl⟩
                go_wp2
                exact ⟨⟨k + 1, n5, trn (mks (mks zrs [p]) (ro fs k)) rs, by go_num, by omega, by have h1 := HN5.out; have h2 := HN'.out; omega, HOR7.out, HG6.out, hBy⟩, by simp [intOf]; omega⟩
      · have e4 : decide ((nf : Int) ≤ 16) = false := by simp; omega
        obtain ⟨g, cg, hvg, hglo, _, _⟩ := own_bytes HMl.out hov (by omega)
        first
          | subst hvg
          | (injection hvg with hvg1 _ hvg3; replace hvg3 := hvg3.symm; subst hvg1; subst hvg3)
        have hgl := (hov.lt g rfl).2
        obtain ⟨A4, c4, hv4, _, _, _, hrow4⟩ := brow_of_own HMl.out HMb.out hov
        injection hv4 with hv4 _ hv5
        subst hv4 hv5
        have HT := Lib.hid (turn_any Ar (some ⟨g, 0, none⟩) n' cr 16 cg rs (mks zrs [p]) w3 (hRA.to hBW) hrow4 (by omega) (by omega) (fun i hi => by have := (HG.out i (by rw [hOR.1]; exact hi)).1.2.2.1; omega))
        obtain ⟨ys, hoy, hWy⟩ := hOR.wrow HG.out
        have HOy := Lib.hid hoy
        have HWy := Lib.hid hWy
        have hbs := hBW.size
        clear hrow4 hRA hoy hWy
        go_wp2_with fail
        refine HT.out.mono ?_
        rintro e w5 ⟨v5, rfl, hO5, hb5⟩
        obtain ⟨A5, c5, rfl, _, _⟩ := hO5.ring
        have hov5 := own_to hov hb5
        have hBW5 := hBW.trans (hb5.mono hbs)
        obtain ⟨n5, hn5⟩ : ∃ n5, n5 = min n' 7 + 1 := ⟨_, rfl⟩
        rw [← hn5] at hO5 ⊢
        have HN5 := Lib.hid hn5
        clear HT hov hb5 hn5 hbs
        go_wp2
        go_loopw [75] (fun iv wq => ∃ (j : Nat) (zs : List Value), iv = .int .i64 j ∧ j ≤ 16 ∧ wq.ownsRow wo.heap.size 5 1 (.slice (some ⟨g, 0, none⟩) 16 cg) 16 zs ∧ OR wq w3.heap.size (.slice A5 n5 c5) n5 (trn (mks zrs [p]) rs) ∧ Below wo.heap.size wo wq) (fun iv _ => 16 - (intOf iv).toNat)
        case atStart => exact ⟨0, _, rfl, Nat.zero_le _, own_base hov5 hglo', hO5, hBW5⟩
        case round =>
          clear hov5 hO5 hBW5
          obtain ⟨wq, rfl⟩ : ∃ wq : World, wq = wr := ⟨_, rfl⟩
          obtain ⟨j, zs, rfl, hj, hoz, hO6, hB6⟩ := hrel
          by_cases hlt2 : j < 16
          · have e2 : decide ((j : Int) < 16) = true := by simp; omega
            have e2' : decide (j < 16) = true := by simp; omega
            obtain ⟨old, hold⟩ : ∃ old, zs[j]? = some old := ⟨_, List.getElem?_eq_getElem (by have := hoz.1; omega)⟩
            have hck := (hoz.cellAt j (by omega)).trans hold
            have hfk := hoz.frozenAt j
            have HS1 := Lib.hid (hoz.stored j (.int .u8 0)).1
            have HS2 := Lib.hid (hO6.set hgl j (.int .u8 0))
            have HS3 := Lib.hid (hB6.setCell (p := ⟨g, j, none⟩) (by show wo.heap.size ≤ g; omega) (.int .u8 0))
            clear hoz hO6 hB6 hold
            go_wp2
            exact ⟨⟨j + 1, _, by go_num, by omega, HS1.out, HS2.out, HS3.out⟩, by simp [intOf]; omega⟩
          · have e2 : decide ((j : Int) < 16) = false := by simp; omega
            have e2' : decide (j < 16) = false := by simp; omega
            have HB7 := Lib.hid (hBr.trans (hB6.mono hBr.size))
            have HO7 := Lib.hid hO6
            have hoy7 := own_to HOy.out hB6
            have hWy7 := HWy.out.to hB6
            clear hoz hO6 hB6 hj hlt2
            go_wp2
            go_loopw [84] (fun iv wp => ∃ i : Nat, iv = .int .i64 i ∧ i ≤ n' ∧ wp.ownsRow W1.heap.size 24 1 (.slice Ar n' cr) n' ys ∧ WRow W1.heap.size wo.heap.size ys n' wp ∧ OR wp w3.heap.size (.slice A5 n5 c5) n5 (trn (mks zrs [p]) rs) ∧ Below W1.heap.size W1 wp) (fun iv _ => n' - (intOf iv).toNat)
            case atStart => exact ⟨0, rfl, Nat.zero_le _, hoy7, hWy7, HO7.out, HB7.out⟩
            case round =>
              clear hoy7 hWy7 HO7 HB7 e2 e2'
              obtain ⟨wp, rfl⟩ : ∃ wp : World, wp = wr := ⟨_, rfl⟩
              obtain ⟨i, rfl, hi, ho8, hW8, hO8, hB8⟩ := hrel
              by_cases hlt3 : i < n'
              · have e3 : decide (i < n') = true := by simpa using hlt3
                obtain ⟨gi, cgi, xi, hyi, hgi, hoi⟩ := hW8.row i hlt3
                obtain ⟨gr, cr', hvr, _⟩ := ho8.form (by omega)
                injection hvr with hvr1 _ hvr3
                subst hvr1 hvr3
                have hcr := (ho8.cellAt i (by omega)).trans hyi
                have HYI := Lib.hid hyi
                have Ho8 := Lib.hid ho8
                have HW8 := Lib.hid hW8
                have HO8 := Lib.hid hO8
                have HB8 := Lib.hid hB8
                have HOi := Lib.hid hoi
                clear hoi ho8 hW8 hO8 hB8 hyi
                go_wp2
                go_loopw [90] (fun jv wz => ∃ (j : Nat) (zs : List Value), jv = .int .i64 j ∧ j ≤ 16 ∧ wz.ownsRow W1.heap.size 5 1 (.slice (some ⟨gi, 0, none⟩) 16 cgi) 16 zs ∧ wz.ownsRow W1.heap.size 24 1 (.slice (some ⟨gr, 0, none⟩) n' cr) n' ys ∧ WRow W1.heap.size wo.heap.size ys n' wz ∧ OR wz w3.heap.size (.slice A5 n5 c5) n5 (trn (mks zrs [p]) rs) ∧ Below W1.heap.size W1 wz) (fun jv _ => 16 - (intOf jv).toNat)
                case atStart => exact ⟨0, _, rfl, Nat.zero_le _, HOi.out, Ho8.out, HW8.out, HO8.out, HB8.out⟩
                case round =>
                  clear hcr e3
                  obtain ⟨wz, rfl⟩ : ∃ wz : World, wz = wr := ⟨_, rfl⟩
                  obtain ⟨j, zs, rfl, hj, hoz, hoy9, hW9, hO9, hB9⟩ := hrel
                  by_cases hlt4 : j < 16
                  · have e2 : decide ((j : Int) < 16) = true := by simp; omega
                    have e2' : decide (j < 16) = true := by simp; omega
                    obtain ⟨old, hold⟩ : ∃ old, zs[j]? = some old := ⟨_, List.getElem?_eq_getElem (by have := hoz.1; omega)⟩
                    have hck := (hoz.cellAt j (by omega)).trans hold
                    have hfk := hoz.frozenAt j
                    have hgW := (hoz.lt gi rfl).1
                    have HS1 := Lib.hid (hoz.stored j (.int .u8 0)).1
                    have HS2 := Lib.hid (hO9.set (show gi < w3.heap.size by omega) j (.int .u8 0))
                    have HS3 := Lib.hid (hB9.setCell (p := ⟨gi, j, none⟩) hgW (.int .u8 0))
                    have HS4 := Lib.hid (own_set_tag hoy9 hoz (by decide) j (.int .u8 0))
                    have HS5 := Lib.hid (hW9.set gi j (.int .u8 0))
                    clear hoz hO9 hB9 hold hoy9 hW9 hgW
                    go_wp2
                    exact ⟨⟨j + 1, _, by go_num, by omega, HS1.out, HS4.out, HS5.out, HS2.out, HS3.out⟩, by simp [intOf]; omega⟩
                  · have e2 : decide ((j : Int) < 16) = false := by simp; omega
                    have e2' : decide (j < 16) = false := by simp; omega
                    have H1 := Lib.hid hoy9
                    have H2 := Lib.hid hW9
                    have H3 := Lib.hid hO9
                    have H4 := Lib.hid hB9
                    clear hoz hoy9 hW9 hO9 hB9 hj hlt4
                    go_wp2
                    exact ⟨⟨i + 1, by go_num, by omega, H1.out, H2.out, H3.out, H4.out⟩, by simp [intOf]; omega⟩
              · have e3 : decide (i < n') = false := by simpa using hlt3
                obtain ⟨A6, c6, hv6, _, hRA6⟩ := hO8.ring
                injection hv6 with hv6 _ hv7
                subst hv6 hv7
                have hgood := HG.out.trn HMR.out HMB.out
                have hl6 := hRA6.1
                have hn58 : n5 ≤ 8 := by have := HN5.out; omega
                have HRu := Lib.hid (run_any A5 n5 c5 (trn (mks zrs [p]) rs) m (by omega) (fun i hi => by have := (hgood i (by omega)).1.2.2.1; omega) (by omega) wp hRA6)
                have HRN := Lib.hid (hgood.run hl6)
                have hmin : ((n5 : Int) != min ((k : Int) + 1) 8) = false := by
                  have h1 := HN5.out
                  have h2 := HN'.out
                  rw [show min ((k : Int) + 1) 8 = (n5 : Int) by omega]
                  simp
                have hmin2 : ((n5 : Int) != (n5 : Int)) = false := by simp
                have HG6 := Lib.hid hgood
                have HL6 := Lib.hid hl6
                have HOR6 := Lib.hid hO8
                have HRA6 := Lib.hid hRA6
                have hkm : (k : Int) + 1 ≤ 100 := by omega
                clear ho8 hW8 hO8 hRA6 hgood hl6 hi hlt3
                go_wp2_with fail
                refine HRu.out.mono ?_
                rintro e wx ⟨rfl, hbx⟩
                rw [HRN.out]
                have hBx := hB8.trans (hbx.mono hB8.size)
                clear hB8
                go_wp2_with fail
                refine (empty_any wx).mono ?_
                rintro e wy ⟨rfl, hoE, hbE⟩
                obtain ⟨A2, c2, hv2, _, _, _, hrE⟩ := brow_of_own (by rfl) zrs_byt hoE
                injection hv2 with hv2 _ hv3
                subst hv2 hv3
                have hBy := hBx.trans (hbE.mono hBx.size)
                have HC := Lib.hid (chk_ok A5 (some ⟨wx.heap.size, 0, none⟩) n5 c5 16 16 (trn (mks zrs [p]) rs) zrs ⟨by rw [HL6.out]; exact hn58, zrs_right, fun i hi => (HG6.out i hi).1⟩ wy ((HRA6.out.to hbx).to hbE) hrE (by omega))
                have HOR7 := Lib.hid (((HOR6.out.to hbx).to hbE).base hWb)
                clear hoE hrE hbE hbx hBx
                go_wp2_with fail
                refine HC.out.mono ?_
                rintro e w' ⟨rfl, rfl⟩
                go_wp2
                exact ⟨⟨k + 1, n5, trn (mks zrs [p]) rs, by go_num, by omega, by have h1 := HN5.out; have h2 := HN'.out; omega, HOR7.out, HG6.out, hBy⟩, by simp [intOf]; omega⟩
    · have e1 : decide (k < n) = false := by simpa using hlt
      have hbb := HbW.out.trans (hBr.mono HbW.out.size)
      clear hOR hRA
      go_wp2
      go_ret
      exact ⟨rfl, hbb⟩
theorem keeps_out (A : Option Addr) (n c : Nat) (m : Int) (w : World) (h : 40 < n ∨ m < 0 ∨ 7 < m) :
    Calls Try.prog 10 #[.slice A n c, .int .i64 m] w fun e w' => e = .returned (.bool true) ∧ Below w.heap.size w w' := by
  by_cases hn : 40 < n
  · have d1 : decide ((40 : Int) < n) = true := by simp; omega
    go_enter Try.func10, Try.ntmps10
    go_wp2_with fail
    refine (awake20 w).mono ?_
    rintro e w1 ⟨rfl, hb1⟩
    go_wp2
    go_ret
    exact ⟨rfl, hb1⟩
  have d1 : decide ((40 : Int) < n) = false := by simp; omega
  by_cases h0 : m < 0
  · have d2 : decide (m < 0) = true := by simp; omega
    go_enter Try.func10, Try.ntmps10
    go_wp2_with fail
    refine (awake20 w).mono ?_
    rintro e w1 ⟨rfl, hb1⟩
    go_wp2
    go_ret
    exact ⟨rfl, hb1⟩
  have d2 : decide (m < 0) = false := by simp; omega
  have d3 : decide (7 < m) = true := by simp; omega
  go_enter Try.func10, Try.ntmps10
  go_wp2_with fail
  refine (awake20 w).mono ?_
  rintro e w1 ⟨rfl, hb1⟩
  go_wp2
  go_ret
  exact ⟨rfl, hb1⟩
theorem keeps_law (A : Option Addr) (n c : Nat) (m : Int) (fs : List (List Nat)) (w : World) (hR : RAt w w.heap.size A n fs) :
    Calls Try.prog 10 #[.slice A n c, .int .i64 m] w fun e w' => e = .returned (.bool true) ∧ Below w.heap.size w w' := by
  by_cases h : 40 < n ∨ m < 0 ∨ 7 < m
  · exact keeps_out A n c m w h
  · obtain ⟨k, rfl⟩ : ∃ k : Nat, m = k := ⟨m.toNat, by omega⟩
    exact keeps_good A n c k (by omega) fs w hR (by omega)
end Go.Proofs.Ytblpekeikmblmaa.BitsW
