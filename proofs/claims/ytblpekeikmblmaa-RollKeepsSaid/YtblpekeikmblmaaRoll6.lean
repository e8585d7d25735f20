/- The walks of the roll, sixth part: how a ring that came in reads; RollTurns. Conditions: rings are read rightly. Printed by gen_roll6.py. -/
import Derived.Test.YtblpekeikmblmaaRoll5
import Derived.Test.YtblpekeikmblmaaOpen
namespace Go.Proofs.Ytblpekeikmblmaa.BitsW
open Go.RowKit Go.Deep
open Go.Proofs.Ytblpekeikmblmaa.Words Go.Proofs.Ytblpekeikmblmaa.Bit

section
variable {H : Type} {enc : TypeId × Value → H} {P : Program} {w : World} {base : Nat} {spare : Nat → Bool} {held : Bool}
theorem open_ring {t e f : TypeId} {A : Option Addr} {n c : Nat} {d : DataW H} {p : List MemPlace} (ht : P.underlying t = some (.slice e)) (he : P.underlying e = some (.slice f)) (hf : P.underlying f = some (.int .u8)) (hce : P.cellsOf e = 1) (hcf : P.cellsOf f = 1)
    (h : DataW.Trod enc P w base spare held t (.slice A n c) d p) : n ≤ c ∧ c ≤ maxLen ∧ ∃ rs, RAt w w.heap.size A n rs := by
  obtain ⟨h1, h2, _, V, hr, hv⟩ := Opens.open_row ht hce h
  refine ⟨h1, h2, ?_⟩
  have hex : ∀ i, ∃ l : List Nat, i < n → ∃ Ai ci, V i = .slice Ai l.length ci ∧ BRow w w.heap.size Ai l.length l ∧ l.length ≤ ci := by
    intro i
    by_cases hi : i < n
    · obtain ⟨m, y, hy⟩ := hv i hi
      have hsl : ∃ a len cap, V i = .slice a len cap := by
        rcases open_slice1 he hcf hy with ⟨hcs, _⟩ | ⟨a, len, cap, m', k, V', D, Pl, hcs, _⟩
        · exact ⟨none, 0, 0, by simpa using hcs⟩
        · exact ⟨some a, len, cap, by simpa using hcs⟩
      obtain ⟨a, len, cap, hV⟩ := hsl
      rw [hV] at hy
      obtain ⟨g1, g2, l, hl, hb, hrd⟩ := Opens.open_bytes (d := y.1) (p := y.2) he hf hcf ⟨m, hy⟩
      subst hl
      exact ⟨l, fun _ => ⟨a, cap, hV, ⟨rfl, hb, hrd⟩, g1⟩⟩
    · exact ⟨[], fun h => absurd h hi⟩
  obtain ⟨F, hF⟩ := Classical.axiomOfChoice hex
  refine ⟨(List.range n).map F, by simp, fun i hi => ?_⟩
  obtain ⟨Ai, ci, hV, hrow, hci⟩ := hF i hi
  obtain ⟨ad, hA, hl, hc⟩ := hr i hi
  have e : ro ((List.range n).map F) i = F i := by simp [ro, hi]
  rw [e]
  exact ⟨ad, Ai, ci, hA, hl, by rw [hc, hV], hrow, hci⟩
end

theorem turns_few (A B : Option Addr) (n c f d : Nat) (m : Int) (rs : List (List Nat)) (w : World) (hR : RAt w w.heap.size A n rs) (hn : n ≤ 9223372036854775807) (h : ¬ ((∀ i, i < n → (ro rs i).length ≤ 100) ∧ n ≤ 50)) :
    Calls Try.prog 9 #[.slice A n c, .slice B f d, .int .i64 m] w fun e w' => e = .returned (.bool true) ∧ Below w.heap.size w w' := by
  have HF := Lib.hid (fun (W : World) (hb : Below w.heap.size w W) => few_no A n c rs h hn W (hR.to hb))
  clear hR h
  go_enter Try.func9, Try.ntmps9
  go_wp2_with fail
  refine (awake20 w).mono ?_
  rintro e w1 ⟨rfl, hb1⟩
  go_wp2_with fail
  refine (HF.out w1 hb1).mono ?_
  rintro e w' ⟨rfl, rfl⟩
  go_wp2
  go_ret
  exact ⟨rfl, hb1⟩
theorem turns_big (A B : Option Addr) (n c f d : Nat) (m : Int) (rs : List (List Nat)) (w : World) (hR : RAt w w.heap.size A n rs) (h : (∀ i, i < n → (ro rs i).length ≤ 100) ∧ n ≤ 50) (hf : 100 < f) :
    Calls Try.prog 9 #[.slice A n c, .slice B f d, .int .i64 m] w fun e w' => e = .returned (.bool true) ∧ Below w.heap.size w w' := by
  have d1 : decide ((100 : Int) < f) = true := by simp; omega
  have HF := Lib.hid (fun (W : World) (hb : Below w.heap.size w W) => few_yes A n c rs h.1 h.2 W (hR.to hb))
  clear hR h
  go_enter Try.func9, Try.ntmps9
  go_wp2_with fail
  refine (awake20 w).mono ?_
  rintro e w1 ⟨rfl, hb1⟩
  go_wp2_with fail
  refine (HF.out w1 hb1).mono ?_
  rintro e w' ⟨rfl, rfl⟩
  go_wp2
  go_ret
  exact ⟨rfl, hb1⟩
/-- as far as rows k: is all right? -/
def Ck (xs : List Nat) (rs : List (List Nat)) (k : Nat) : Prop := rs.length ≤ 8 ∧ Right xs 128 ∧ ∀ i, i < k → Right (ro rs i) 128
theorem Ck.yes {xs : List Nat} {rs : List (List Nat)} {k : Nat} {b : Bool} (h : b = true ↔ Ck xs rs k) (hr : Right (ro rs k) 128) : b = true ↔ Ck xs rs (k + 1) := by
  rw [h]
  constructor
  · rintro ⟨h1, h2, h3⟩
    exact ⟨h1, h2, fun i hi => by
      by_cases e : i = k
      · rw [e]; exact hr
      · exact h3 i (by omega)⟩
  · rintro ⟨h1, h2, h3⟩
    exact ⟨h1, h2, fun i hi => h3 i (by omega)⟩
theorem Ck.no {xs : List Nat} {rs : List (List Nat)} {k : Nat} (hr : ¬ Right (ro rs k) 128) : false = true ↔ Ck xs rs (k + 1) :=
  ⟨fun h => (by cases h), fun h => absurd (h.2.2 k (by omega)) hr⟩
theorem Ck.off {xs : List Nat} {rs : List (List Nat)} {k : Nat} (h : false = true ↔ Ck xs rs k) : false = true ↔ Ck xs rs (k + 1) :=
  ⟨fun h => (by cases h), fun ⟨h1, h2, h3⟩ => h.2 ⟨h1, h2, fun i hi => h3 i (by omega)⟩⟩
set_option maxHeartbeats 4000000 in
set_option maxRecDepth 100000 in
theorem turns_good (A B : Option Addr) (n c f d : Nat) (m : Int) (hm : m ≤ 9223372036854775807) (rs : List (List Nat)) (xs : List Nat) (w : World) (hR : RAt w w.heap.size A n rs) (hX : BRow w w.heap.size B f xs) (hfd : f ≤ d) (h : (∀ i, i < n → (ro rs i).length ≤ 100) ∧ n ≤ 50) (hf : f ≤ 100) :
    Calls Try.prog 9 #[.slice A n c, .slice B f d, .int .i64 m] w fun e w' => e = .returned (.bool true) ∧ Below w.heap.size w w' := by
  have d1 : decide ((100 : Int) < f) = false := by simp; omega
  have hn := h.2
  have HF := Lib.hid (fun (W : World) (hR : RAt W W.heap.size A n rs) => few_yes A n c rs h.1 h.2 W hR)
  have HL := Lib.hid (show ∀ i, i < n → (ro rs i).length ≤ 1000000 from fun i hi => by have := h.1 i hi; omega)
  clear h
  go_enter Try.func9, Try.ntmps9
  go_wp2_with fail
  refine (awake20 w).mono ?_
  rintro e w1 ⟨rfl, hb1⟩
  have hR1 := hR.to hb1
  have hX1 := hX.to hb1
  clear hR hX
  go_wp2_with fail
  refine (HF.out w1 hR1).mono ?_
  rintro e w' ⟨rfl, rfl⟩
  have HR := Lib.hid hR1
  have HX := Lib.hid hX1
  clear hR1 hX1 HF
  by_cases h8 : n ≤ 8
  · have d2 : decide ((n : Int) ≤ 8) = true := by simp; omega
    by_cases hx : Right xs 128
    · have HY := Lib.hid (rr_yes B f d _ xs w1 HX.out hx)
      have HB0 := Lib.hid (show true = true ↔ Ck xs rs 0 from ⟨fun _ => ⟨by rw [HR.out.1]; exact h8, hx, fun i hi => by omega⟩, fun _ => rfl⟩)
      clear hx h8
      go_wp2_with fail
      refine HY.out.mono ?_
      rintro e w' ⟨rfl, rfl⟩
      clear HY
      go_wp2
      go_loop [7, 29] (fun rv kv => ∃ (k : Nat) (b : Bool), kv = .int .i64 k ∧ rv = .bool b ∧ k ≤ n ∧ (b = true ↔ Ck xs rs k)) (fun _ kv => n - (intOf kv).toNat)
      case atStart => exact ⟨0, _, rfl, rfl, Nat.zero_le _, by first | exact HB0.out | simpa using HB0.out⟩
      case round =>
        clear HB0
        obtain ⟨k, b, rfl, rfl, hk, hb⟩ := hrel
        have HB := Lib.hid hb
        clear hb
        by_cases hlt : k < n
        · have e1 : decide (k < n) = true := by simpa using hlt
          obtain ⟨ad, Ai, ci, rfl, _, hc, hrow, _⟩ := HR.out.2 k hlt
          cases b
          · clear hrow
            have HB1 := Lib.hid (Ck.off HB.out)
            generalize (ro rs k).length = nk at hc
            go_wp2
            exact ⟨⟨k + 1, false, by go_num, rfl, by omega, by first | exact HB1.out | simpa using HB1.out⟩, by simp [intOf]; omega⟩
          · by_cases hr : Right (ro rs k) 128
            · have HG := Lib.hid (rr_yes Ai _ ci _ (ro rs k) w1 hrow hr)
              have HB1 := Lib.hid (Ck.yes HB.out hr)
              clear hrow hr
              generalize (ro rs k).length = nk at hc HG
              go_wp2_with fail
              refine HG.out.mono ?_
              rintro e w' ⟨rfl, rfl⟩
              go_wp2
              exact ⟨⟨k + 1, true, by go_num, rfl, by omega, by first | exact HB1.out | simpa using HB1.out⟩, by simp [intOf]; omega⟩
            · have HG := Lib.hid (rr_no Ai _ ci _ (ro rs k) w1 hrow hr)
              have HB1 := Lib.hid (Ck.no (xs := xs) hr)
              clear hrow hr
              generalize (ro rs k).length = nk at hc HG
              go_wp2_with fail
              refine HG.out.mono ?_
              rintro e w' ⟨rfl, rfl⟩
              go_wp2
              exact ⟨⟨k + 1, false, by go_num, rfl, by omega, by first | exact HB1.out | simpa using HB1.out⟩, by simp [intOf]; omega⟩
        · have e1 : decide (k < n) = false := by simpa using hlt
          obtain rfl : k = n := by omega
          have HB1 := Lib.hid (show b = true ↔ COk xs rs by rw [HB.out, ← HR.out.1]; exact Iff.rfl)
          have HT := Lib.hid (turn_any A B k c f d rs xs w1 HR.out HX.out (by omega) (by omega) HL.out)
          clear HB
          go_wp2_with fail
          refine HT.out.mono ?_
          rintro e w2 ⟨v2, rfl, hO2, hb2⟩
          obtain ⟨A2, c2, rfl, _, hA2⟩ := hO2.ring
          have HR2 := Lib.hid (HR.out.to hb2)
          have HX2 := Lib.hid (HX.out.to hb2)
          have hbb2 := hb1.trans (hb2.mono hb1.size)
          have HT2 := Lib.hid (rturn_any A B k c f d rs xs w2 HR2.out HX2.out hfd (by omega))
          clear HT hb2 hO2
          go_wp2_with fail
          refine HT2.out.mono ?_
          rintro e w3 ⟨A3, c3, rfl, hA3, hb3⟩
          have HR3 := Lib.hid (HR2.out.to hb3)
          have HX3 := Lib.hid (HX2.out.to hb3)
          have hbb3 := hbb2.trans (hb3.mono hbb2.size)
          have HS := Lib.hid (samer_yes A2 A3 _ c2 c3 _ (trn xs rs) w3 (hA2.to hb3) hA3 (fun i hi => by
            rcases i with _ | i
            · show xs.length ≤ _; rw [HX.out.1]; omega
            · rw [trn, ro_cons, ro_take (by omega)]; exact HL.out i (by omega)) (by omega))
          clear HT2 hb3 hA2 hA3 HR2 HX2 hbb2
          generalize min k 7 + 1 = n3 at HS ⊢
          go_wp2_with fail
          refine HS.out.mono ?_
          rintro e w4 ⟨rfl, q4, rfl⟩
          have hbb4 := below_drewN hbb3 q4
          have HR4 := Lib.hid (show RAt (w3.drewN q4) (w3.drewN q4).heap.size A k rs from HR3.out)
          have HX4 := Lib.hid (show BRow (w3.drewN q4) (w3.drewN q4).heap.size B f xs from HX3.out)
          clear HS hbb3 HR3 HX3
          generalize w3.drewN q4 = w4 at hbb4 HR4 HX4 ⊢
          have HRu := Lib.hid (run_any A k c rs m hm HL.out (by omega) w4 HR4.out)
          go_wp2_with fail
          refine HRu.out.mono ?_
          rintro e w5 ⟨rfl, hb5⟩
          have HR5 := Lib.hid (HR4.out.to hb5)
          have HX5 := Lib.hid (HX4.out.to hb5)
          have hbb5 := hbb4.trans (hb5.mono hbb4.size)
          have HRR := Lib.hid (rrun_any A k c rs m hm HL.out (by omega) w5 HR5.out)
          clear HRu hb5 hbb4 HR4 HX4
          generalize runN rs m = r at HRR ⊢
          go_wp2_with fail
          refine HRR.out.mono ?_
          rintro e w' ⟨rfl, rfl⟩
          clear HRR
          cases b
          · have HC := Lib.hid (chk_bad A B k c f d rs xs (fun h => by cases HB1.out.2 h) w5 HR5.out HX5.out (by omega) HL.out)
            go_wp2_with fail
            refine HC.out.mono ?_
            rintro e w' ⟨rfl, rfl⟩
            go_wp2_with fail
            refine HC.out.mono ?_
            rintro e w' ⟨rfl, rfl⟩
            go_wp2
            go_ret
            exact ⟨by simp, hbb5⟩
          · have HC := Lib.hid (chk_ok A B k c f d rs xs (HB1.out.1 rfl) w5 HR5.out HX5.out (by omega))
            go_wp2_with fail
            refine HC.out.mono ?_
            rintro e w' ⟨rfl, rfl⟩
            go_wp2
            go_ret
            exact ⟨by simp, hbb5⟩
    · have HY := Lib.hid (rr_no B f d _ xs w1 HX.out hx)
      have HB0 := Lib.hid (show false = true ↔ Ck xs rs 0 from ⟨fun h => (by cases h), fun h => absurd h.2.1 hx⟩)
      clear hx h8
      go_wp2_with fail
      refine HY.out.mono ?_
      rintro e w' ⟨rfl, rfl⟩
      clear HY
      go_wp2
      go_loop [7, 29] (fun rv kv => ∃ (k : Nat) (b : Bool), kv = .int .i64 k ∧ rv = .bool b ∧ k ≤ n ∧ (b = true ↔ Ck xs rs k)) (fun _ kv => n - (intOf kv).toNat)
      case atStart => exact ⟨0, _, rfl, rfl, Nat.zero_le _, by first | exact HB0.out | simpa using HB0.out⟩
      case round =>
        clear HB0
        obtain ⟨k, b, rfl, rfl, hk, hb⟩ := hrel
        have HB := Lib.hid hb
        clear hb
        by_cases hlt : k < n
        · have e1 : decide (k < n) = true := by simpa using hlt
          obtain ⟨ad, Ai, ci, rfl, _, hc, hrow, _⟩ := HR.out.2 k hlt
          cases b
          · clear hrow
            have HB1 := Lib.hid (Ck.off HB.out)
            generalize (ro rs k).length = nk at hc
            go_wp2
            exact ⟨⟨k + 1, false, by go_num, rfl, by omega, by first | exact HB1.out | simpa using HB1.out⟩, by simp [intOf]; omega⟩
          · by_cases hr : Right (ro rs k) 128
            · have HG := Lib.hid (rr_yes Ai _ ci _ (ro rs k) w1 hrow hr)
              have HB1 := Lib.hid (Ck.yes HB.out hr)
              clear hrow hr
              generalize (ro rs k).length = nk at hc HG
              go_wp2_with fail
              refine HG.out.mono ?_
              rintro e w' ⟨rfl, rfl⟩
              go_wp2
              exact ⟨⟨k + 1, true, by go_num, rfl, by omega, by first | exact HB1.out | simpa using HB1.out⟩, by simp [intOf]; omega⟩
            · have HG := Lib.hid (rr_no Ai _ ci _ (ro rs k) w1 hrow hr)
              have HB1 := Lib.hid (Ck.no (xs := xs) hr)
              clear hrow hr
              generalize (ro rs k).length = nk at hc HG
              go_wp2_with fail
              refine HG.out.mono ?_
              rintro e w' ⟨rfl, rfl⟩
              go_wp2
              exact ⟨⟨k + 1, false, by go_num, rfl, by omega, by first | exact HB1.out | simpa using HB1.out⟩, by simp [intOf]; omega⟩
        · have e1 : decide (k < n) = false := by simpa using hlt
          obtain rfl : k = n := by omega
          have HB1 := Lib.hid (show b = true ↔ COk xs rs by rw [HB.out, ← HR.out.1]; exact Iff.rfl)
          have HT := Lib.hid (turn_any A B k c f d rs xs w1 HR.out HX.out (by omega) (by omega) HL.out)
          clear HB
          go_wp2_with fail
          refine HT.out.mono ?_
          rintro e w2 ⟨v2, rfl, hO2, hb2⟩
          obtain ⟨A2, c2, rfl, _, hA2⟩ := hO2.ring
          have HR2 := Lib.hid (HR.out.to hb2)
          have HX2 := Lib.hid (HX.out.to hb2)
          have hbb2 := hb1.trans (hb2.mono hb1.size)
          have HT2 := Lib.hid (rturn_any A B k c f d rs xs w2 HR2.out HX2.out hfd (by omega))
          clear HT hb2 hO2
          go_wp2_with fail
          refine HT2.out.mono ?_
          rintro e w3 ⟨A3, c3, rfl, hA3, hb3⟩
          have HR3 := Lib.hid (HR2.out.to hb3)
          have HX3 := Lib.hid (HX2.out.to hb3)
          have hbb3 := hbb2.trans (hb3.mono hbb2.size)
          have HS := Lib.hid (samer_yes A2 A3 _ c2 c3 _ (trn xs rs) w3 (hA2.to hb3) hA3 (fun i hi => by
            rcases i with _ | i
            · show xs.length ≤ _; rw [HX.out.1]; omega
            · rw [trn, ro_cons, ro_take (by omega)]; exact HL.out i (by omega)) (by omega))
          clear HT2 hb3 hA2 hA3 HR2 HX2 hbb2
          generalize min k 7 + 1 = n3 at HS ⊢
          go_wp2_with fail
          refine HS.out.mono ?_
          rintro e w4 ⟨rfl, q4, rfl⟩
          have hbb4 := below_drewN hbb3 q4
          have HR4 := Lib.hid (show RAt (w3.drewN q4) (w3.drewN q4).heap.size A k rs from HR3.out)
          have HX4 := Lib.hid (show BRow (w3.drewN q4) (w3.drewN q4).heap.size B f xs from HX3.out)
          clear HS hbb3 HR3 HX3
          generalize w3.drewN q4 = w4 at hbb4 HR4 HX4 ⊢
          have HRu := Lib.hid (run_any A k c rs m hm HL.out (by omega) w4 HR4.out)
          go_wp2_with fail
          refine HRu.out.mono ?_
          rintro e w5 ⟨rfl, hb5⟩
          have HR5 := Lib.hid (HR4.out.to hb5)
          have HX5 := Lib.hid (HX4.out.to hb5)
          have hbb5 := hbb4.trans (hb5.mono hbb4.size)
          have HRR := Lib.hid (rrun_any A k c rs m hm HL.out (by omega) w5 HR5.out)
          clear HRu hb5 hbb4 HR4 HX4
          generalize runN rs m = r at HRR ⊢
          go_wp2_with fail
          refine HRR.out.mono ?_
          rintro e w' ⟨rfl, rfl⟩
          clear HRR
          cases b
          · have HC := Lib.hid (chk_bad A B k c f d rs xs (fun h => by cases HB1.out.2 h) w5 HR5.out HX5.out (by omega) HL.out)
            go_wp2_with fail
            refine HC.out.mono ?_
            rintro e w' ⟨rfl, rfl⟩
            go_wp2_with fail
            refine HC.out.mono ?_
            rintro e w' ⟨rfl, rfl⟩
            go_wp2
            go_ret
            exact ⟨by simp, hbb5⟩
          · have HC := Lib.hid (chk_ok A B k c f d rs xs (HB1.out.1 rfl) w5 HR5.out HX5.out (by omega))
            go_wp2_with fail
            refine HC.out.mono ?_
            rintro e w' ⟨rfl, rfl⟩
            go_wp2
            go_ret
            exact ⟨by simp, hbb5⟩
  · have d2 : decide ((n : Int) ≤ 8) = false := by simp; omega
    have HB0 := Lib.hid (show false = true ↔ Ck xs rs 0 from ⟨fun h => (by cases h), fun h => absurd h.1 (by rw [HR.out.1]; exact h8)⟩)
    clear h8
    go_wp2
    go_loop [7, 29] (fun rv kv => ∃ (k : Nat) (b : Bool), kv = .int .i64 k ∧ rv = .bool b ∧ k ≤ n ∧ (b = true ↔ Ck xs rs k)) (fun _ kv => n - (intOf kv).toNat)
    case atStart => exact ⟨0, _, rfl, rfl, Nat.zero_le _, by first | exact HB0.out | simpa using HB0.out⟩
    case round =>
      clear HB0
      obtain ⟨k, b, rfl, rfl, hk, hb⟩ := hrel
      have HB := Lib.hid hb
      clear hb
      by_cases hlt : k < n
      · have e1 : decide (k < n) = true := by simpa using hlt
        obtain ⟨ad, Ai, ci, rfl, _, hc, hrow, _⟩ := HR.out.2 k hlt
        cases b
        · clear hrow
          have HB1 := Lib.hid (Ck.off HB.out)
          generalize (ro rs k).length = nk at hc
          go_wp2
          exact ⟨⟨k + 1, false, by go_num, rfl, by omega, by first | exact HB1.out | simpa using HB1.out⟩, by simp [intOf]; omega⟩
        · by_cases hr : Right (ro rs k) 128
          · have HG := Lib.hid (rr_yes Ai _ ci _ (ro rs k) w1 hrow hr)
            have HB1 := Lib.hid (Ck.yes HB.out hr)
            clear hrow hr
            generalize (ro rs k).length = nk at hc HG
            go_wp2_with fail
            refine HG.out.mono ?_
            rintro e w' ⟨rfl, rfl⟩
            go_wp2
            exact ⟨⟨k + 1, true, by go_num, rfl, by omega, by first | exact HB1.out | simpa using HB1.out⟩, by simp [intOf]; omega⟩
          · have HG := Lib.hid (rr_no Ai _ ci _ (ro rs k) w1 hrow hr)
            have HB1 := Lib.hid (Ck.no (xs := xs) hr)
            clear hrow hr
            generalize (ro rs k).length = nk at hc HG
            go_wp2_with fail
            refine HG.out.mono ?_
            rintro e w' ⟨rfl, rfl⟩
            go_wp2
            exact ⟨⟨k + 1, false, by go_num, rfl, by omega, by first | exact HB1.out | simpa using HB1.out⟩, by simp [intOf]; omega⟩
      · have e1 : decide (k < n) = false := by simpa using hlt
        obtain rfl : k = n := by omega
        have HB1 := Lib.hid (show b = true ↔ COk xs rs by rw [HB.out, ← HR.out.1]; exact Iff.rfl)
        have HT := Lib.hid (turn_any A B k c f d rs xs w1 HR.out HX.out (by omega) (by omega) HL.out)
        clear HB
        go_wp2_with fail
        refine HT.out.mono ?_
        rintro e w2 ⟨v2, rfl, hO2, hb2⟩
        obtain ⟨A2, c2, rfl, _, hA2⟩ := hO2.ring
        have HR2 := Lib.hid (HR.out.to hb2)
        have HX2 := Lib.hid (HX.out.to hb2)
        have hbb2 := hb1.trans (hb2.mono hb1.size)
        have HT2 := Lib.hid (rturn_any A B k c f d rs xs w2 HR2.out HX2.out hfd (by omega))
        clear HT hb2 hO2
        go_wp2_with fail
        refine HT2.out.mono ?_
        rintro e w3 ⟨A3, c3, rfl, hA3, hb3⟩
        have HR3 := Lib.hid (HR2.out.to hb3)
        have HX3 := Lib.hid (HX2.out.to hb3)
        have hbb3 := hbb2.trans (hb3.mono hbb2.size)
        have HS := Lib.hid (samer_yes A2 A3 _ c2 c3 _ (trn xs rs) w3 (hA2.to hb3) hA3 (fun i hi => by
          rcases i with _ | i
          · show xs.length ≤ _; rw [HX.out.1]; omega
          · rw [trn, ro_cons, ro_take (by omega)]; exact HL.out i (by omega)) (by omega))
        clear HT2 hb3 hA2 hA3 HR2 HX2 hbb2
        generalize min k 7 + 1 = n3 at HS ⊢
        go_wp2_with fail
        refine HS.out.mono ?_
        rintro e w4 ⟨rfl, q4, rfl⟩
        have hbb4 := below_drewN hbb3 q4
        have HR4 := Lib.hid (show RAt (w3.drewN q4) (w3.drewN q4).heap.size A k rs from HR3.out)
        have HX4 := Lib.hid (show BRow (w3.drewN q4) (w3.drewN q4).heap.size B f xs from HX3.out)
        clear HS hbb3 HR3 HX3
        generalize w3.drewN q4 = w4 at hbb4 HR4 HX4 ⊢
        have HRu := Lib.hid (run_any A k c rs m hm HL.out (by omega) w4 HR4.out)
        go_wp2_with fail
        refine HRu.out.mono ?_
        rintro e w5 ⟨rfl, hb5⟩
        have HR5 := Lib.hid (HR4.out.to hb5)
        have HX5 := Lib.hid (HX4.out.to hb5)
        have hbb5 := hbb4.trans (hb5.mono hbb4.size)
        have HRR := Lib.hid (rrun_any A k c rs m hm HL.out (by omega) w5 HR5.out)
        clear HRu hb5 hbb4 HR4 HX4
        generalize runN rs m = r at HRR ⊢
        go_wp2_with fail
        refine HRR.out.mono ?_
        rintro e w' ⟨rfl, rfl⟩
        clear HRR
        cases b
        · have HC := Lib.hid (chk_bad A B k c f d rs xs (fun h => by cases HB1.out.2 h) w5 HR5.out HX5.out (by omega) HL.out)
          go_wp2_with fail
          refine HC.out.mono ?_
          rintro e w' ⟨rfl, rfl⟩
          go_wp2_with fail
          refine HC.out.mono ?_
          rintro e w' ⟨rfl, rfl⟩
          go_wp2
          go_ret
          exact ⟨by simp, hbb5⟩
        · have HC := Lib.hid (chk_ok A B k c f d rs xs (HB1.out.1 rfl) w5 HR5.out HX5.out (by omega))
          go_wp2_with fail
          refine HC.out.mono ?_
          rintro e w' ⟨rfl, rfl⟩
          go_wp2
          go_ret
          exact ⟨by simp, hbb5⟩

theorem turns_law (A B : Option Addr) (n c f d : Nat) (m : Int) (hm : m ≤ 9223372036854775807) (rs : List (List Nat)) (xs : List Nat) (w : World) (hR : RAt w w.heap.size A n rs) (hX : BRow w w.heap.size B f xs) (hfd : f ≤ d) (hn : n ≤ 9223372036854775807) :
    Calls Try.prog 9 #[.slice A n c, .slice B f d, .int .i64 m] w fun e w' => e = .returned (.bool true) ∧ Below w.heap.size w w' := by
  by_cases h : (∀ i, i < n → (ro rs i).length ≤ 100) ∧ n ≤ 50
  · by_cases hf : 100 < f
    · exact turns_big A B n c f d m rs w hR h hf
    · exact turns_good A B n c f d m hm rs xs w hR hX hfd h (by omega)
  · exact turns_few A B n c f d m rs w hR hn h
end Go.Proofs.Ytblpekeikmblmaa.BitsW
