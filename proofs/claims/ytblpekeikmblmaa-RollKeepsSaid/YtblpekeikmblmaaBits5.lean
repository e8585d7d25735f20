/- The walks of the laws of layer 6, third part: Join, BitsJoins. Conditions: rows are read rightly. -/
import Derived.Test.YtblpekeikmblmaaBits3
namespace Go.Proofs.Ytblpekeikmblmaa.BitsW
open Go.RowKit
open Go.Proofs.Ytblpekeikmblmaa.Words Go.Proofs.Ytblpekeikmblmaa.Bit

/-- two fields joined, the first k bytes -/
def JnI (xs bs cs : List Nat) (k : Nat) : Prop := cs.length = xs.length ∧ Byt cs ∧ ∀ j, by_ cs j = if j < k then by_ xs j ||| by_ bs j else by_ xs j
theorem JnI.start {xs bs : List Nat} (h : Byt xs) : JnI xs bs xs 0 := ⟨rfl, h, fun j => by simp⟩
theorem JnI.step {xs bs cs : List Nat} {k : Nat} (h : JnI xs bs cs k) (hb : Byt bs) (hk : k < xs.length) : JnI xs bs (cs.set k (by_ cs k ||| by_ bs k)) (k + 1) := by
  obtain ⟨h1, h2, h3⟩ := h
  refine ⟨by rw [List.length_set, h1], byt_set h2 (or_lt (h2.by_ _) (hb.by_ _)), fun j => ?_⟩
  rw [by_set (by omega)]
  by_cases e : j = k
  · subst e; rw [if_pos rfl, if_pos (by omega), h3, if_neg (by omega)]
  · rw [if_neg e, h3]
    by_cases h' : j < k
    · rw [if_pos h', if_pos (by omega)]
    · rw [if_neg h', if_neg (by omega)]
theorem JnI.bits {xs bs cs : List Nat} {k : Nat} (h : JnI xs bs cs k) (hl : bs.length ≤ k) (i : Nat) : bit cs i = (bit xs i || bit bs i) := by
  unfold bit
  rw [h.2.2]
  by_cases h' : i / 8 < k
  · rw [if_pos h', Nat.testBit_or]
  · rw [if_neg h', by_ge (bs := bs) (by omega)]; simp
theorem JnI.right {xs bs cs : List Nat} {k : Nat} {n : Int} (h : JnI xs bs cs k) (hl : bs.length ≤ k) (ha : Right xs n) (hb : Right bs n) : Right cs n := by
  obtain ⟨a1, a2, a3, a4⟩ := ha
  exact ⟨a1, a2, h.1.trans a3, fun i hi => by rw [h.bits hl, a4 i hi, hb.2.2.2 i hi]; rfl⟩

/-- a list of two slices that the call has built -/
def Two (w : World) (g : Nat) (u v : Value) : Prop := w.cell? ⟨g, 0, none⟩ = some u ∧ w.cell? ⟨g, 1, none⟩ = some v

theorem fields_yes (g : Nat) (A B : Option Addr) (n c m d L i : Nat) (xs bs : List Nat) (w : World) (ht : Two w g (.slice A n c) (.slice B m d)) (ha : BRow w L A n xs) (hb : BRow w L B m bs) (hRa : Right xs i) (hRb : Right bs i) (hn : n ≤ 100) (hm : m ≤ 100) :
    Calls Try.prog 57 #[.int .i64 i, .slice (some ⟨g, 0, none⟩) 2 2] w fun e w' => e = .returned (.bool true) ∧ w = w' := by
  have hA := Lib.hid (check_ok A n c i L xs w ha hRa (by omega))
  have hB := Lib.hid (check_ok B m d i L bs w hb hRb (by omega))
  obtain ⟨c0, c1⟩ := ht
  clear ha hb hRa hRb
  go_enter Try.func57, Try.ntmps57
  go_wp2
  go_loop [9] (fun v => ∃ k : Nat, v = .int .i64 k ∧ k ≤ 2) (fun v => 2 - (intOf v).toNat)
  case atStart => exact ⟨0, rfl, by omega⟩
  case round =>
    obtain ⟨k, rfl, hk⟩ := hrel
    have h3 : k = 0 ∨ k = 1 ∨ k = 2 := by omega
    clear hk
    rcases h3 with rfl | rfl | rfl
    · go_wp2_with fail
      refine hA.out.mono ?_
      rintro e w' ⟨rfl, rfl⟩
      go_wp2
      exact ⟨⟨1, by go_num, by omega⟩, by simp [intOf]⟩
    · go_wp2_with fail
      refine hB.out.mono ?_
      rintro e w' ⟨rfl, rfl⟩
      go_wp2
      exact ⟨⟨2, by go_num, by omega⟩, by simp [intOf]⟩
    · go_wp2
      go_ret
      exact ⟨rfl, rfl⟩
theorem fields_no (g : Nat) (A B : Option Addr) (n c m d L : Nat) (i : Int) (xs bs : List Nat) (w : World) (ht : Two w g (.slice A n c) (.slice B m d)) (ha : BRow w L A n xs) (hb : BRow w L B m bs) (hR : ¬ (Right xs i ∧ Right bs i)) (hn : n ≤ 100) (hm : m ≤ 100) :
    Calls Try.prog 57 #[.int .i64 i, .slice (some ⟨g, 0, none⟩) 2 2] w fun e w' => e = .returned (.bool false) ∧ w = w' := by
  obtain ⟨c0, c1⟩ := ht
  by_cases hRa : Right xs i
  · have hi0 := hRa.1
    obtain ⟨j, rfl⟩ : ∃ j : Nat, i = j := ⟨i.toNat, by omega⟩
    have hA := Lib.hid (check_ok A n c j L xs w ha hRa (by omega))
    have hB := Lib.hid (check_bad B m d L j bs w hb (fun h => hR ⟨hRa, h⟩) (by omega))
    clear ha hb hRa hR hi0
    go_enter Try.func57, Try.ntmps57
    go_wp2
    refine wp_loop_rounds 2 ?_
    rw [rounds_succ]
    go_wp2_with fail
    refine hA.out.mono ?_
    rintro e w' ⟨rfl, rfl⟩
    go_wp2
    rw [rounds_succ]
    go_wp2_with fail
    refine hB.out.mono ?_
    rintro e w' ⟨rfl, rfl⟩
    go_wp2
    go_ret
    exact ⟨rfl, rfl⟩
  · have hA := Lib.hid (check_bad A n c L i xs w ha hRa (by omega))
    clear ha hb hRa hR
    go_enter Try.func57, Try.ntmps57
    go_wp2
    refine wp_loop_rounds 1 ?_
    rw [rounds_succ]
    go_wp2_with fail
    refine hA.out.mono ?_
    rintro e w' ⟨rfl, rfl⟩
    go_wp2
    go_ret
    exact ⟨rfl, rfl⟩
/-! ### Join -/
theorem two_new (w : World) (u v : Value) : Two (w.alloc (.cells #[u, v] 24)) w.heap.size u v :=
  ⟨by rw [World.cell?_alloc_at _ _ _ _ rfl]; rfl, by rw [World.cell?_alloc_at _ _ _ _ rfl]; rfl⟩

theorem join_no (A B : Option Addr) (n c m d : Nat) (i : Int) (xs bs : List Nat) (w : World) (ha : BRow w w.heap.size A n xs) (hb : BRow w w.heap.size B m bs) (hR : ¬ (Right xs i ∧ Right bs i)) (hn : n ≤ 100) (hm : m ≤ 100) :
    Calls Try.prog 21 #[.slice A n c, .slice B m d, .int .i64 i] w fun e w' => e = .returned (.tuple #[.slice none 0 0, .int .i64 60]) ∧ Below w.heap.size w w' := by
  have hb0 : Below w.heap.size w (w.alloc (.cells #[.slice A n c, .slice B m d] 24)) := (Below.refl _ _).alloc (Nat.le_refl _) _
  have hF := Lib.hid (fields_no w.heap.size A B n c m d _ i xs bs _ (two_new w _ _) (ha.below hb0) (hb.below hb0) hR hn hm)
  clear ha hb hR
  go_enter Try.func21, Try.ntmps21
  go_wp2_with fail
  refine hF.out.mono ?_
  rintro e w' ⟨rfl, rfl⟩
  go_wp2
  go_ret2
  exact ⟨rfl, hb0⟩

def JoinPost (n : Nat) (xs bs : List Nat) (w : World) (e : Ending) (w' : World) : Prop :=
  ∃ A' c' cs, e = .returned (.tuple #[.slice A' n c', .int .i64 0]) ∧ JnI xs bs cs n ∧ BRow w' w'.heap.size A' n cs ∧ Below w.heap.size w w'
theorem JoinPost.mk {n : Nat} {xs bs : List Nat} {w w' : World} {e : Ending} (A' : Option Addr) (c' : Nat) (cs : List Nat) (h1 : e = .returned (.tuple #[.slice A' n c', .int .i64 0])) (h2 : JnI xs bs cs n) (h3 : BRow w' w'.heap.size A' n cs) (h4 : Below w.heap.size w w') : JoinPost n xs bs w e w' := ⟨A', c', cs, h1, h2, h3, h4⟩

set_option maxHeartbeats 1000000 in
set_option maxRecDepth 100000 in
theorem join_yes (A B : Option Addr) (n c d i : Nat) (xs bs : List Nat) (w : World) (ha : BRow w w.heap.size A n xs) (hb : BRow w w.heap.size B n bs) (hRa : Right xs i) (hRb : Right bs i) (hn : n ≤ 100) :
    Calls Try.prog 21 #[.slice A n c, .slice B n d, .int .i64 i] w (JoinPost n xs bs w) := by
  have hb0 : Below w.heap.size w (w.alloc (.cells #[.slice A n c, .slice B n d] 24)) := (Below.refl _ _).alloc (Nat.le_refl _) _
  have hF := Lib.hid (fields_yes w.heap.size A B n c n d _ i xs bs _ (two_new w _ _) (ha.below hb0) (hb.below hb0) hRa hRb hn hn)
  have hO := Lib.hid (own_any A n c xs _ (ha.to hb0) (by omega))
  have hst := Lib.hid (JnI.start (bs := bs) ha.2.1)
  have hl := Lib.hid ha.1
  have hlb := Lib.hid hb.1
  have hbb := hb.2.1
  have hrb := hb.2.2
  clear ha hb hRa hRb
  go_enter Try.func21, Try.ntmps21
  go_wp2_with fail
  refine hF.out.mono ?_
  rintro e w' ⟨rfl, rfl⟩
  go_wp2_with fail
  refine hO.out.mono ?_
  rintro e w1 ⟨v, rfl, hown, hb1⟩
  have hbw1 := hb0.trans (hb1.mono hb0.size)
  simp only [World.size_alloc] at hown
  clear hF hO hb0 hb1
  go_wp2
  have hv : ∃ A' c', v = .slice A' n c' := by
    obtain ⟨A', c', hv, _⟩ := Rd.own hown (f := fun j => (xs.map byc).getD j .nilIface) (fun j hj => by simp [List.getD_eq_getElem?_getD, hl.out, hj])
    exact ⟨A', c', hv⟩
  obtain ⟨A', c', hv⟩ := hv
  rw [hv] at hown ⊢
  clear hv
  go_loopw [21] (fun iv wr => ∃ (k : Nat) (cs : List Nat), iv = .int .i64 k ∧ k ≤ n ∧ JnI xs bs cs k ∧ wr.ownsRow (w.heap.size + 1) 5 1 (.slice A' n c') n (cs.map byc) ∧ Below w.heap.size w wr) (fun iv _ => n - (intOf iv).toNat)
  case atStart => exact ⟨0, xs, rfl, Nat.zero_le _, hst.out, hown, hbw1⟩
  case round =>
    clear hown hbw1
    obtain ⟨k, cs, rfl, hk, hI, hown, hbw⟩ := hrel
    have hlc : cs.length = n := by rw [hI.1]; exact hl.out
    by_cases hlt : k < n
    · have d2 : decide (k < n) = true := by simpa using hlt
      obtain ⟨ad, rfl, _, hc⟩ := hrb k hlt
      have hcb : wr.cell? (ad.add k) = some (.int .u8 (by_ bs k)) := (hbw.cell (p := ad.add k) (by rw [block_add]; assumption)).trans hc
      obtain ⟨g, c2, hv, hlo, hcs, hfs⟩ := own_bytes hlc hown (by omega)
      injection hv with hv1 hv2 hv3
      have hcell := hcs k hlt
      have hfz := hfs k
      have hby1 := hI.2.1.by_ k
      have hby2 := hbb.by_ k
      have hor := u8_or_nat (by_ cs k) (by_ bs k) hby1 hby2
      have hS := Lib.hid (hI.step hbb (by rw [hl.out]; exact hlt))
      have hlo2 := hlo
      subst hv1
      have hST := Lib.hid (hown.stored k (.int .u8 ((by_ cs k ||| by_ bs k : Nat) : Int))).1
      clear hrb hc hcs hfs hI hlo hst hown hv2 hv3
      go_wp2
      exact ⟨⟨k + 1, _, by go_num, by omega, hS.out, by rw [List.map_set]; exact hST.out, hbw.setCell (by show w.heap.size ≤ g; omega) _⟩, by simp [intOf]; omega⟩
    · have d2 : decide (k < n) = false := by simpa using hlt
      obtain rfl : k = n := by omega
      obtain ⟨A2, c2, hv, _, _, _, hrow⟩ := brow_of_own hlc hI.2.1 hown
      injection hv with hv1 _ hv3
      subst hv1 hv3
      have HI := Lib.hid hI
      clear hI hown
      go_wp2
      go_ret2
      exact JoinPost.mk _ _ cs rfl HI.out hrow hbw

set_option maxHeartbeats 2000000 in
set_option maxRecDepth 100000 in
theorem joins_neg (A B : Option Addr) (n c m d : Nat) (i : Int) (hi : i < 0) (xs bs : List Nat) (w : World) (ha : BRow w w.heap.size A n xs) (hb : BRow w w.heap.size B m bs) (hn : n ≤ 100) (hm : m ≤ 100) :
    Calls Try.prog 5 #[.slice A n c, .slice B m d, .int .i64 i] w fun e w' => e = .returned (.bool true) ∧ Below w.heap.size w w' := by
  have dn : decide ((100 : Int) < n) = false := by simp; omega
  have dm : decide ((100 : Int) < m) = false := by simp; omega
  have d1 : decide (i < 0) = true := by simpa using hi
  have hNR := Lib.hid (show ¬ (Right xs i ∧ Right bs i) from fun h => by have := h.1.1; omega)
  go_enter Try.func5, Try.ntmps5
  go_wp2_with fail
  refine (awake6 _).mono ?_
  rintro e w1 ⟨rfl, hb1⟩
  have ha1 := ha.to hb1
  have hbr1 := hb.to hb1
  go_wp2_with fail
  refine (join_no A B n c m d _ xs bs _ ha1 hbr1 hNR.out hn hm).mono ?_
  rintro e w2 ⟨rfl, hb2⟩
  have ha2 := ha1.to hb2
  have hbr2 := hbr1.to hb2
  have hbb := hb1.trans (hb2.mono hb1.size)
  go_wp2
  go_ret
  exact ⟨by first | rfl | simp, hbb⟩

set_option maxHeartbeats 2000000 in
set_option maxRecDepth 100000 in
theorem joins_far (A B : Option Addr) (n c m d : Nat) (i : Int) (hi : 256 < i) (xs bs : List Nat) (w : World) (ha : BRow w w.heap.size A n xs) (hb : BRow w w.heap.size B m bs) (hn : n ≤ 100) (hm : m ≤ 100) :
    Calls Try.prog 5 #[.slice A n c, .slice B m d, .int .i64 i] w fun e w' => e = .returned (.bool true) ∧ Below w.heap.size w w' := by
  have dn : decide ((100 : Int) < n) = false := by simp; omega
  have dm : decide ((100 : Int) < m) = false := by simp; omega
  have d1 : decide (i < 0) = false := by simp; omega
  have d2 : decide (256 < i) = true := by simpa using hi
  have hNR := Lib.hid (show ¬ (Right xs i ∧ Right bs i) from fun h => by have := h.1.2.1; omega)
  go_enter Try.func5, Try.ntmps5
  go_wp2_with fail
  refine (awake6 _).mono ?_
  rintro e w1 ⟨rfl, hb1⟩
  have ha1 := ha.to hb1
  have hbr1 := hb.to hb1
  go_wp2_with fail
  refine (join_no A B n c m d _ xs bs _ ha1 hbr1 hNR.out hn hm).mono ?_
  rintro e w2 ⟨rfl, hb2⟩
  have ha2 := ha1.to hb2
  have hbr2 := hbr1.to hb2
  have hbb := hb1.trans (hb2.mono hb1.size)
  go_wp2
  go_ret
  exact ⟨by first | rfl | simp, hbb⟩

set_option maxHeartbeats 2000000 in
set_option maxRecDepth 100000 in
theorem joins_one (A B : Option Addr) (n c m d : Nat) (i : Nat) (hi : i ≤ 256) (xs bs : List Nat) (w : World) (ha : BRow w w.heap.size A n xs) (hb : BRow w w.heap.size B m bs) (hn : n ≤ 100) (hm : m ≤ 100) (hR : ¬ Right xs i) :
    Calls Try.prog 5 #[.slice A n c, .slice B m d, .int .i64 i] w fun e w' => e = .returned (.bool true) ∧ Below w.heap.size w w' := by
  have dn : decide ((100 : Int) < n) = false := by simp; omega
  have dm : decide ((100 : Int) < m) = false := by simp; omega
  have d1 : decide ((i : Int) < 0) = false := by simp
  have d2 : decide ((256 : Int) < i) = false := by simp; omega
  have hNR := Lib.hid (show ¬ (Right xs i ∧ Right bs i) from fun h => hR h.1)
  have HR := Lib.hid hR
  clear hR
  go_enter Try.func5, Try.ntmps5
  go_wp2_with fail
  refine (awake6 _).mono ?_
  rintro e w1 ⟨rfl, hb1⟩
  have ha1 := ha.to hb1
  have hbr1 := hb.to hb1
  go_wp2_with fail
  refine (join_no A B n c m d _ xs bs _ ha1 hbr1 hNR.out hn hm).mono ?_
  rintro e w2 ⟨rfl, hb2⟩
  have ha2 := ha1.to hb2
  have hbr2 := hbr1.to hb2
  have hbb := hb1.trans (hb2.mono hb1.size)
  go_wp2_with fail
  refine (rright_no A n c _ _ xs _ ha2 HR.out).mono ?_
  rintro e w3 ⟨rfl, rfl⟩
  go_wp2
  go_ret
  exact ⟨by first | rfl | simp, hbb⟩

set_option maxHeartbeats 2000000 in
set_option maxRecDepth 100000 in
theorem joins_two (A B : Option Addr) (n c m d : Nat) (i : Nat) (hi : i ≤ 256) (xs bs : List Nat) (w : World) (ha : BRow w w.heap.size A n xs) (hb : BRow w w.heap.size B m bs) (hn : n ≤ 100) (hm : m ≤ 100) (hRa : Right xs i) (hR : ¬ Right bs i) :
    Calls Try.prog 5 #[.slice A n c, .slice B m d, .int .i64 i] w fun e w' => e = .returned (.bool true) ∧ Below w.heap.size w w' := by
  have dn : decide ((100 : Int) < n) = false := by simp; omega
  have dm : decide ((100 : Int) < m) = false := by simp; omega
  have d1 : decide ((i : Int) < 0) = false := by simp
  have d2 : decide ((256 : Int) < i) = false := by simp; omega
  have hNR := Lib.hid (show ¬ (Right xs i ∧ Right bs i) from fun h => hR h.2)
  have HR := Lib.hid hR
  have HRa := Lib.hid hRa
  clear hR hRa
  go_enter Try.func5, Try.ntmps5
  go_wp2_with fail
  refine (awake6 _).mono ?_
  rintro e w1 ⟨rfl, hb1⟩
  have ha1 := ha.to hb1
  have hbr1 := hb.to hb1
  go_wp2_with fail
  refine (join_no A B n c m d _ xs bs _ ha1 hbr1 hNR.out hn hm).mono ?_
  rintro e w2 ⟨rfl, hb2⟩
  have ha2 := ha1.to hb2
  have hbr2 := hbr1.to hb2
  have hbb := hb1.trans (hb2.mono hb1.size)
  go_wp2_with fail
  refine (rright_yes A n c i _ xs _ ha2 HRa.out).mono ?_
  rintro e w3 ⟨rfl, rfl⟩
  go_wp2_with fail
  refine (rright_no B m d _ _ bs _ hbr2 HR.out).mono ?_
  rintro e w3 ⟨rfl, rfl⟩
  go_wp2
  go_ret
  exact ⟨by first | rfl | simp, hbb⟩

set_option maxHeartbeats 2000000 in
set_option maxRecDepth 100000 in
theorem joins_both (A B : Option Addr) (n c m d : Nat) (i : Nat) (hi : i ≤ 256) (xs bs : List Nat) (w : World) (ha : BRow w w.heap.size A n xs) (hb : BRow w w.heap.size B m bs) (hn : n ≤ 100) (hm : m ≤ 100) (hRa : Right xs i) (hRb : Right bs i) :
    Calls Try.prog 5 #[.slice A n c, .slice B m d, .int .i64 i] w fun e w' => e = .returned (.bool true) ∧ Below w.heap.size w w' := by
  have dn : decide ((100 : Int) < n) = false := by simp; omega
  have dm : decide ((100 : Int) < m) = false := by simp; omega
  have d1 : decide ((i : Int) < 0) = false := by simp
  have d2 : decide ((256 : Int) < i) = false := by simp; omega
  have hnl : n = (i + 7) / 8 := by rw [← ha.1, hRa.2.2.1]; simp
  have hml : m = (i + 7) / 8 := by rw [← hb.1, hRb.2.2.1]; simp
  obtain rfl : m = n := by omega
  have HRa := Lib.hid hRa
  have HRb := Lib.hid hRb
  have hlb := Lib.hid hb.1
  clear hRa hRb hnl hml
  go_enter Try.func5, Try.ntmps5
  go_wp2_with fail
  refine (awake6 _).mono ?_
  rintro e w1 ⟨rfl, hb1⟩
  have ha1 := ha.to hb1
  have hbr1 := hb.to hb1
  go_wp2_with fail
  refine (join_yes A B m c d i xs bs _ ha1 hbr1 HRa.out HRb.out hn).mono ?_
  rintro e w2 ⟨A2, c2, cs, rfl, hI, hrow, hb2⟩
  have ha2 := ha1.to hb2
  have hbr2 := hbr1.to hb2
  have hbb := hb1.trans (hb2.mono hb1.size)
  have HI := Lib.hid hI
  have HRc := Lib.hid (hI.right (by rw [hlb.out]; exact Nat.le_refl _) HRa.out HRb.out)
  clear ha hb ha1 hbr1 hb1 hb2 hI
  go_wp2_with fail
  refine (rright_yes A m c i _ xs _ ha2 HRa.out).mono ?_
  rintro e w3 ⟨rfl, rfl⟩
  go_wp2_with fail
  refine (rright_yes B m d i _ bs _ hbr2 HRb.out).mono ?_
  rintro e w3 ⟨rfl, rfl⟩
  go_wp2_with fail
  refine (rright_yes A2 m c2 i _ cs _ hrow HRc.out).mono ?_
  rintro e w3 ⟨rfl, rfl⟩
  go_wp2
  go_loop [61] (fun v => ∃ k : Nat, v = .int .i64 k ∧ k ≤ i) (fun v => i - (intOf v).toNat)
  case atStart => exact ⟨0, rfl, Nat.zero_le _⟩
  case round =>
    obtain ⟨k, rfl, hk⟩ := hrel
    by_cases hlt : k < i
    · have d9 : decide (k < i) = true := by simpa using hlt
      have g1 := rget_any A2 m c2 _ k cs _ hrow (by omega) (by omega)
      have g2 := rget_any A m c _ k xs _ ha2 (by omega) (by omega)
      have g3 := rget_any B m d _ k bs _ hbr2 (by omega) (by omega)
      rw [bitI_nat] at g1 g2 g3
      rw [HI.out.bits (by rw [hlb.out]; exact Nat.le_refl _)] at g1
      have G1 := Lib.hid g1
      have G2 := Lib.hid g2
      have G3 := Lib.hid g3
      clear g1 g2 g3
      cases e1 : bit xs k
      · rw [e1] at G1 G2
        clear e1
        cases e2 : bit bs k
        all_goals
          rw [e2] at G1 G3
          clear e2
          go_wp2_with fail
          refine G1.out.mono ?_
          rintro e w' ⟨rfl, rfl⟩
          go_wp2_with fail
          refine G2.out.mono ?_
          rintro e w' ⟨rfl, rfl⟩
          go_wp2_with fail
          refine G3.out.mono ?_
          rintro e w' ⟨rfl, rfl⟩
          go_wp2
          exact ⟨⟨k + 1, by go_num, by omega⟩, by simp [intOf]; omega⟩
      · rw [e1] at G1 G2
        clear e1
        go_wp2_with fail
        refine G1.out.mono ?_
        rintro e w' ⟨rfl, rfl⟩
        go_wp2_with fail
        refine G2.out.mono ?_
        rintro e w' ⟨rfl, rfl⟩
        go_wp2
        exact ⟨⟨k + 1, by go_num, by omega⟩, by simp [intOf]; omega⟩
    · have d9 : decide (k < i) = false := by simpa using hlt
      go_wp2
      go_ret
      exact ⟨rfl, hbb⟩

theorem joins_law (A B : Option Addr) (n c m d : Nat) (i : Int) (xs bs : List Nat) (w : World) (ha : BRow w w.heap.size A n xs) (hb : BRow w w.heap.size B m bs) (hn : n ≤ 9223372036854775807) (hm : m ≤ 9223372036854775807) :
    Calls Try.prog 5 #[.slice A n c, .slice B m d, .int .i64 i] w fun e w' => e = .returned (.bool true) ∧ Below w.heap.size w w' := by
  by_cases h1 : 100 < n
  · have d1 : decide ((100 : Int) < n) = true := by simp; omega
    clear ha hb
    go_enter Try.func5, Try.ntmps5
    go_wp2_with fail
    refine (awake6 _).mono ?_
    rintro e w1 ⟨rfl, hb⟩
    go_wp2
    go_ret
    exact ⟨rfl, hb⟩
  by_cases h2 : 100 < m
  · have d1 : decide ((100 : Int) < n) = false := by simp; omega
    have d2 : decide ((100 : Int) < m) = true := by simp; omega
    clear ha hb
    go_enter Try.func5, Try.ntmps5
    go_wp2_with fail
    refine (awake6 _).mono ?_
    rintro e w1 ⟨rfl, hb⟩
    go_wp2
    go_ret
    exact ⟨rfl, hb⟩
  by_cases h3 : i < 0
  · exact joins_neg A B n c m d i h3 xs bs w ha hb (by omega) (by omega)
  by_cases h4 : 256 < i
  · exact joins_far A B n c m d i h4 xs bs w ha hb (by omega) (by omega)
  obtain ⟨j, rfl⟩ : ∃ j : Nat, i = j := ⟨i.toNat, by omega⟩
  by_cases h5 : Right xs j
  · by_cases h6 : Right bs j
    · exact joins_both A B n c m d j (by omega) xs bs w ha hb (by omega) (by omega) h5 h6
    · exact joins_two A B n c m d j (by omega) xs bs w ha hb (by omega) (by omega) h5 h6
  · exact joins_one A B n c m d j (by omega) xs bs w ha hb (by omega) (by omega) h5
end Go.Proofs.Ytblpekeikmblmaa.BitsW
