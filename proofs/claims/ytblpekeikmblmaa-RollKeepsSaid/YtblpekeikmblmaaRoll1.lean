/- The walks of the roll, first part: own, right, Empty, Mark; the document's Right and Mark. Conditions: rows are read rightly and are not too long. Printed by gen_roll1.py. -/
import Derived.Test.YtblpekeikmblmaaBits8
import Derived.Test.YtblpekeikmblmaaBits5
namespace Go.Proofs.Ytblpekeikmblmaa.BitsW
open Go.RowKit
open Go.Proofs.Ytblpekeikmblmaa.Words Go.Proofs.Ytblpekeikmblmaa.Bit

/-- what is marked with what, as the document has it -/
def mkl (xs bs : List Nat) : List Bool := (List.range 128).map fun i => bit xs i || bit bs i
def mks (xs bs : List Nat) : List Nat := pks (mkl xs bs)
theorem mkl_len (xs bs : List Nat) : (mkl xs bs).length = 128 := by simp [mkl]
theorem bo_mkl (xs bs : List Nat) (i : Nat) : bo (mkl xs bs) i = if i < 128 then (bit xs i || bit bs i) else false := by
  by_cases h : i < 128
  · rw [if_pos h, bo_lt (by rw [mkl_len]; exact h)]; simp [mkl]
  · rw [if_neg h]
    unfold bo
    rw [List.getD_eq_getElem?_getD, List.getElem?_eq_none (by rw [mkl_len]; omega)]; rfl
theorem mks_len (xs bs : List Nat) : (mks xs bs).length = 16 := by rw [mks, (packs_pks _).1, mkl_len]
theorem mks_byt (xs bs : List Nat) : Byt (mks xs bs) := (packs_pks _).2.1
theorem bit_mks {xs bs : List Nat} (i : Nat) (hi : i < 128) : bit (mks xs bs) i = (bit xs i || bit bs i) := by
  rw [mks, (packs_pks _).2.2, bo_mkl, if_pos hi]
theorem mks_right (xs bs : List Nat) : Right (mks xs bs) 128 := by
  have := right_pks (l := mkl xs bs) (n := 128) (mkl_len _ _) (by omega)
  exact this
theorem mks_of {xs bs cs : List Nat} {k : Nat} {m : Int} (h : JnI xs bs cs k) (hl : bs.length ≤ k) (hx : Right xs 128) (hb : Right bs m) (hm : m ≤ 128) : cs = mks xs bs := by
  refine Packs.one (l := mkl xs bs) ⟨?_, h.2.1, fun i => ?_⟩ (packs_pks _)
  · rw [mkl_len, h.1, hx.2.2.1]; rfl
  · rw [h.bits hl, bo_mkl]
    by_cases hi : i < 128
    · rw [if_pos hi]
    · rw [if_neg hi, hx.2.2.2 i (by omega), hb.2.2.2 i (by omega)]; rfl
def zrs : List Nat := List.replicate 16 0
theorem zrs_bit (i : Nat) : bit zrs i = false := by
  unfold bit by_ zrs
  rw [List.getD_eq_getElem?_getD, List.getElem?_replicate]
  split <;> simp
theorem zrs_byt : Byt zrs := fun b hb => by rw [zrs, List.mem_replicate] at hb; omega
theorem zrs_right : Right zrs 128 := ⟨by omega, by omega, rfl, fun i _ => zrs_bit i⟩

theorem rown_any (A : Option Addr) (n c : Nat) (bs : List Nat) (w : World) (h : BRow w w.heap.size A n bs) (hn : n ≤ 1000000) :
    Calls Try.prog 60 #[.slice A n c] w fun e w' => ∃ v, e = .returned v ∧ w'.ownsRow w.heap.size 5 1 v n (bs.map byc) ∧ Below w.heap.size w w' := by
  obtain ⟨i0, hi0, hz0, hz1, hz2⟩ := info_parts info_u8
  obtain ⟨hl, hb, hr⟩ := h
  have hx : (List.range n).map (fun j => Value.int .u8 (by_ bs j)) = bs.map byc := by
    apply List.ext_getElem (by simp [hl])
    intro j h1 h2
    simp at h1 h2
    simp [byc, by_lt h2]
  have HX := Lib.hid hx
  clear hl hb hx
  go_enter Try.func60, Try.ntmps60
  go_wp2_with (at_builtin; refine wpList_append_whole _ rfl _ _ 24 rfl w.heap.size 5 i0 (.int .u8 0) 1 Try.underlying24 hi0 hz0 hz1 hz2 rfl _ _ _ rfl (World.ownsRow_nil _ _ _ _) A n c _ rfl hr (fun _ => rfl) ?_ ?_ (Nat.le_refl _) ?_)
  · unfold maxLen; omega
  · omega
  intro v' w1 hown hg
  rw [HX.out] at hown
  have hown' : w1.ownsRow w.heap.size 5 1 v' n (bs.map byc) := by simpa using hown
  have hb1 : Below w.heap.size w w1 := (Below.refl _ _).grown hg (Nat.le_refl _) (fun _ h => by cases h)
  clear hg hown
  go_wp2
  go_ret
  exact ⟨_, rfl, hown', hb1⟩
theorem right_yes (A : Option Addr) (n c L : Nat) (bs : List Nat) (w : World) (h : BRow w L A n bs) (hR : Right bs 128) (hn : n ≤ 1000000) :
    Calls Try.prog 59 #[.slice A n c] w fun e w' => e = .returned (.bool true) ∧ w = w' := by
  have HC := Lib.hid (show Calls Try.prog 24 #[.slice A n c, .int .i64 128] w fun e w' => e = .returned (.int .i64 0) ∧ w = w' from check_ok A n c 128 L bs w h hR hn)
  clear h hR
  go_enter Try.func59, Try.ntmps59
  go_wp2_with fail
  refine HC.out.mono ?_
  rintro e w' ⟨rfl, rfl⟩
  go_wp2
  go_ret
  exact ⟨rfl, rfl⟩
theorem right_no (A : Option Addr) (n c L : Nat) (bs : List Nat) (w : World) (h : BRow w L A n bs) (hR : ¬ Right bs 128) (hn : n ≤ 1000000) :
    Calls Try.prog 59 #[.slice A n c] w fun e w' => e = .returned (.bool false) ∧ w = w' := by
  have HC := Lib.hid (check_bad A n c L 128 bs w h hR hn)
  clear h hR
  go_enter Try.func59, Try.ntmps59
  go_wp2_with fail
  refine HC.out.mono ?_
  rintro e w' ⟨rfl, rfl⟩
  go_wp2
  go_ret
  exact ⟨rfl, rfl⟩
theorem rr_yes (A : Option Addr) (n c L : Nat) (bs : List Nat) (w : World) (h : BRow w L A n bs) (hR : Right bs 128) :
    Calls Try.prog 33 #[.slice A n c] w fun e w' => e = .returned (.bool true) ∧ w = w' := by
  have HC := Lib.hid (show Calls Try.prog 22 #[.slice A n c, .int .i64 128] w fun e w' => e = .returned (.bool true) ∧ w = w' from rright_yes A n c 128 L bs w h hR)
  clear h hR
  go_enter Try.func33, Try.ntmps33
  go_wp2_with fail
  refine HC.out.mono ?_
  rintro e w' ⟨rfl, rfl⟩
  go_wp2
  go_ret
  exact ⟨rfl, rfl⟩
theorem rr_no (A : Option Addr) (n c L : Nat) (bs : List Nat) (w : World) (h : BRow w L A n bs) (hR : ¬ Right bs 128) :
    Calls Try.prog 33 #[.slice A n c] w fun e w' => e = .returned (.bool false) ∧ w = w' := by
  have HC := Lib.hid (rright_no A n c L 128 bs w h hR)
  clear h hR
  go_enter Try.func33, Try.ntmps33
  go_wp2_with fail
  refine HC.out.mono ?_
  rintro e w' ⟨rfl, rfl⟩
  go_wp2
  go_ret
  exact ⟨rfl, rfl⟩
theorem empty_any (w : World) : Calls Try.prog 32 #[] w fun e w' => e = .returned (.slice (some ⟨w.heap.size, 0, none⟩) 16 16) ∧ w'.ownsRow w.heap.size 5 1 (.slice (some ⟨w.heap.size, 0, none⟩) 16 16) 16 (zrs.map byc) ∧ Below w.heap.size w w' := by
  obtain ⟨i0, hi0, hz0, hz1, hz2⟩ := info_parts info_u8
  have HS := Lib.hid (show Calls Try.prog 18 #[.int .i64 128] w fun e w' => e = .returned (.int .i64 (16 : Nat)) ∧ w = w' from size_any 128 (by omega) w)
  go_enter Try.func32, Try.ntmps32
  go_wp2_with fail
  refine HS.out.mono ?_
  rintro e w' ⟨rfl, rfl⟩
  go_wp2_with (at_make; refine wpList_make_full _ rfl _ _ 24 rfl w.heap.size 5 i0 (.int .u8 0) 1 Try.underlying24 hi0 hz0 hz1 _ _ _ _ 16 rfl rfl (by omega) (by omega) ?_ (by unfold maxLen; omega) (Nat.le_refl _) ?_)
  · rw [hz2]; omega
  intro w1 hown hgrow
  have hb1 : Below w.heap.size w w1 := (Below.refl _ _).grown hgrow (Nat.le_refl _) (fun _ h => by cases h)
  have hown1 : w1.ownsRow w.heap.size 5 1 (.slice (some ⟨w.heap.size, 0, none⟩) 16 16) 16 (zrs.map byc) := by
    have e : (madeCells #[Value.int .u8 0] 16).toList = zrs.map byc := by
      rw [zrs, List.map_replicate]; exact toList_madeCells_one _ _
    rw [← e]; exact hown
  clear hown hgrow
  go_wp2
  go_ret
  exact ⟨rfl, hown1, hb1⟩

/-- all that Mark asks for -/
def MOk (xs bs : List Nat) (m : Int) : Prop := Right xs 128 ∧ 0 ≤ m ∧ m ≤ 128 ∧ Right bs m
set_option maxHeartbeats 1000000 in
set_option maxRecDepth 100000 in
theorem mark_ok (A B : Option Addr) (n c f d : Nat) (m : Nat) (xs bs : List Nat) (w : World) (ha : BRow w w.heap.size A n xs) (hb : BRow w w.heap.size B f bs) (hR : MOk xs bs m) (hn : n ≤ 1000000) (hf : f ≤ 1000000) :
    Calls Try.prog 30 #[.slice A n c, .slice B f d, .int .i64 m] w fun e w' => ∃ v, e = .returned (.tuple #[v, .int .i64 0]) ∧ w'.ownsRow w.heap.size 5 1 v 16 ((mks xs bs).map byc) ∧ Below w.heap.size w w' := by
  obtain ⟨hx, h0, h1, hbR⟩ := hR
  have hn16 : n = 16 := by rw [← ha.1, hx.2.2.1]; rfl
  have hf16 : f ≤ 16 := by have := hb.1; have := hbR.2.2.1; omega
  have d1 : decide ((m : Int) < 0) = false := by simp
  have d2 : decide ((128 : Int) < m) = false := by simp; omega
  have HR := Lib.hid (right_yes A n c _ xs w ha hx hn)
  have HC := Lib.hid (check_ok B f d m _ bs w hb hbR hf)
  have HO := Lib.hid (rown_any A n c xs w ha hn)
  have HM := Lib.hid (fun (cs : List Nat) (h : JnI xs bs cs f) => mks_of h (by rw [hb.1]; exact Nat.le_refl _) hx hbR h1)
  have hst := Lib.hid (JnI.start (bs := bs) ha.2.1)
  have HL := Lib.hid (show xs.length = 16 by rw [ha.1, hn16])
  have hbb := hb.2.1
  have hrb := hb.2.2
  obtain rfl := hn16
  clear ha hb hx h0 h1 hbR
  go_enter Try.func30, Try.ntmps30
  go_wp2_with fail
  refine HR.out.mono ?_
  rintro e w' ⟨rfl, rfl⟩
  go_wp2_with fail
  refine HC.out.mono ?_
  rintro e w' ⟨rfl, rfl⟩
  go_wp2_with fail
  refine HO.out.mono ?_
  rintro e w1 ⟨v, rfl, hown, hb1⟩
  clear HR HC HO
  go_wp2
  have hv : ∃ A' c', v = .slice A' 16 c' := by
    obtain ⟨A', c', hv, _⟩ := Rd.own hown (f := fun j => (xs.map byc).getD j .nilIface) (fun j hj => by simp [List.getD_eq_getElem?_getD, HL.out, hj])
    exact ⟨A', c', hv⟩
  obtain ⟨A', c', hv⟩ := hv
  rw [hv] at hown ⊢
  clear hv
  go_loopw [32] (fun iv wr => ∃ (k : Nat) (cs : List Nat), iv = .int .i64 k ∧ k ≤ f ∧ JnI xs bs cs k ∧ wr.ownsRow w.heap.size 5 1 (.slice A' 16 c') 16 (cs.map byc) ∧ Below w.heap.size w wr) (fun iv _ => f - (intOf iv).toNat)
  case atStart => exact ⟨0, xs, rfl, Nat.zero_le _, hst.out, hown, hb1⟩
  case round =>
    clear hown hb1
    obtain ⟨k, cs, rfl, hk, hI, hown, hbw⟩ := hrel
    have hlc : cs.length = 16 := by rw [hI.1]; exact HL.out
    by_cases hlt : k < f
    · have d3 : decide (k < f) = true := by simpa using hlt
      have d4 : decide (k < 16) = true := by simp; omega
      obtain ⟨ad, rfl, _, hc⟩ := hrb k hlt
      have hcb : wr.cell? (ad.add k) = some (.int .u8 (by_ bs k)) := (hbw.cell (p := ad.add k) (by rw [block_add]; assumption)).trans hc
      obtain ⟨g, c2, hv, hlo, hcs, hfs⟩ := own_bytes hlc hown (by omega)
      injection hv with hv1 hv2 hv3
      have hcell := hcs k (by omega)
      have hfz := hfs k
      have hby1 := hI.2.1.by_ k
      have hby2 := hbb.by_ k
      have hor := u8_or_nat (by_ cs k) (by_ bs k) hby1 hby2
      have hS := Lib.hid (hI.step hbb (by rw [HL.out]; omega))
      have hlo2 := hlo
      subst hv1
      have hST := Lib.hid (hown.stored k (.int .u8 ((by_ cs k ||| by_ bs k : Nat) : Int))).1
      clear hrb hc hcs hfs hI hlo hst hown hv2 hv3 HM
      go_wp2
      exact ⟨⟨k + 1, _, by go_num, by omega, hS.out, by rw [List.map_set]; exact hST.out, hbw.setCell (by show w.heap.size ≤ g; omega) _⟩, by simp [intOf]; omega⟩
    · have d3 : decide (k < f) = false := by simpa using hlt
      obtain rfl : k = f := by omega
      obtain rfl := HM.out _ hI
      have HO := Lib.hid hown
      clear hI hown HM hlc
      go_wp2
      go_ret2
      exact ⟨_, rfl, HO.out, hbw⟩

theorem mark_bad (A B : Option Addr) (n c f d : Nat) (m : Int) (xs bs : List Nat) (w : World) (ha : BRow w w.heap.size A n xs) (hb : BRow w w.heap.size B f bs) (hR : ¬ MOk xs bs m) (hn : n ≤ 1000000) (hf : f ≤ 1000000) :
    Calls Try.prog 30 #[.slice A n c, .slice B f d, .int .i64 m] w fun e w' => e = .returned (.tuple #[.slice none 0 0, .int .i64 60]) ∧ w = w' := by
  by_cases hx : Right xs 128
  · have HR := Lib.hid (right_yes A n c _ xs w ha hx (by omega))
    by_cases h0 : m < 0
    · have d1 : decide (m < 0) = true := by simpa using h0
      clear ha hb hx h0 hR
      go_enter Try.func30, Try.ntmps30
      go_wp2_with fail
      refine HR.out.mono ?_
      rintro e w' ⟨rfl, rfl⟩
      go_wp2
      go_ret2
      exact ⟨rfl, rfl⟩
    · have d1 : decide (m < 0) = false := by simpa using h0
      by_cases h1 : 128 < m
      · have d2 : decide (128 < m) = true := by simpa using h1
        clear ha hb hx h0 hR h1
        go_enter Try.func30, Try.ntmps30
        go_wp2_with fail
        refine HR.out.mono ?_
        rintro e w' ⟨rfl, rfl⟩
        go_wp2
        go_ret2
        exact ⟨rfl, rfl⟩
      · have d2 : decide (128 < m) = false := by simpa using h1
        have HC := Lib.hid (check_bad B f d _ m bs w hb (fun h => hR ⟨hx, by omega, by omega, h⟩) (by omega))
        clear ha hb hx h0 hR h1
        go_enter Try.func30, Try.ntmps30
        go_wp2_with fail
        refine HR.out.mono ?_
        rintro e w' ⟨rfl, rfl⟩
        go_wp2_with fail
        refine HC.out.mono ?_
        rintro e w' ⟨rfl, rfl⟩
        go_wp2
        go_ret2
        exact ⟨rfl, rfl⟩
  · have HR := Lib.hid (right_no A n c _ xs w ha hx (by omega))
    clear ha hb hx hR
    go_enter Try.func30, Try.ntmps30
    go_wp2_with fail
    refine HR.out.mono ?_
    rintro e w' ⟨rfl, rfl⟩
    go_wp2
    go_ret2
    exact ⟨rfl, rfl⟩

theorem rmark_bad (A B : Option Addr) (n c f d : Nat) (m : Int) (xs bs : List Nat) (w : World) (ha : BRow w w.heap.size A n xs) (hb : BRow w w.heap.size B f bs) (hR : ¬ MOk xs bs m) :
    Calls Try.prog 31 #[.slice A n c, .slice B f d, .int .i64 m] w fun e w' => e = .returned (.tuple #[.slice none 0 0, .int .i64 60]) ∧ w = w' := by
  by_cases hx : Right xs 128
  · have HR := Lib.hid (rr_yes A n c _ xs w ha hx)
    by_cases h0 : m < 0
    · have d1 : decide (m < 0) = true := by simpa using h0
      clear ha hb hx h0 hR
      go_enter Try.func31, Try.ntmps31
      go_wp2_with fail
      refine HR.out.mono ?_
      rintro e w' ⟨rfl, rfl⟩
      go_wp2
      go_ret2
      exact ⟨rfl, rfl⟩
    · have d1 : decide (m < 0) = false := by simpa using h0
      by_cases h1 : 128 < m
      · have d2 : decide (128 < m) = true := by simpa using h1
        clear ha hb hx h0 hR h1
        go_enter Try.func31, Try.ntmps31
        go_wp2_with fail
        refine HR.out.mono ?_
        rintro e w' ⟨rfl, rfl⟩
        go_wp2
        go_ret2
        exact ⟨rfl, rfl⟩
      · have d2 : decide (128 < m) = false := by simpa using h1
        have HC := Lib.hid (rright_no B f d _ m bs w hb (fun h => hR ⟨hx, by omega, by omega, h⟩))
        clear ha hb hx h0 hR h1
        go_enter Try.func31, Try.ntmps31
        go_wp2_with fail
        refine HR.out.mono ?_
        rintro e w' ⟨rfl, rfl⟩
        go_wp2_with fail
        refine HC.out.mono ?_
        rintro e w' ⟨rfl, rfl⟩
        go_wp2
        go_ret2
        exact ⟨rfl, rfl⟩
  · have HR := Lib.hid (rr_no A n c _ xs w ha hx)
    clear ha hb hx hR
    go_enter Try.func31, Try.ntmps31
    go_wp2_with fail
    refine HR.out.mono ?_
    rintro e w' ⟨rfl, rfl⟩
    go_wp2
    go_ret2
    exact ⟨rfl, rfl⟩

theorem mkl_take {xs bs : List Nat} {k : Nat} (hk : k < 128) : (mkl xs bs).take (k + 1) = (mkl xs bs).take k ++ [bit xs k || bit bs k] := by
  rw [List.take_add_one, List.getElem?_eq_getElem (by rw [mkl_len]; exact hk)]
  simp [mkl]
set_option maxHeartbeats 1000000 in
set_option maxRecDepth 100000 in
theorem rmark_ok (A B : Option Addr) (n c f d : Nat) (m : Nat) (xs bs : List Nat) (w : World) (ha : BRow w w.heap.size A n xs) (hb : BRow w w.heap.size B f bs) (hR : MOk xs bs m) (hn : n ≤ 1000000) (hf : f ≤ 1000000) :
    Calls Try.prog 31 #[.slice A n c, .slice B f d, .int .i64 m] w fun e w' => ∃ g, e = .returned (.tuple #[.slice (some ⟨g, 0, none⟩) 16 16, .int .i64 0]) ∧ w.heap.size ≤ g ∧ BRow w' w'.heap.size (some ⟨g, 0, none⟩) 16 (mks xs bs) ∧ Below w.heap.size w w' := by
  obtain ⟨i0, hi0, hz0, hz1, hz2⟩ := info_parts info_bool
  obtain ⟨hx, h0, h1, hbR⟩ := hR
  have d1 : decide ((m : Int) < 0) = false := by simp
  have d2 : decide ((128 : Int) < m) = false := by simp; omega
  have HR := Lib.hid (rr_yes A n c _ xs w ha hx)
  have HC := Lib.hid (rright_yes B f d m _ bs w hb hbR)
  have HA := Lib.hid (fun (W : World) (h : Below w.heap.size w W) (i : Nat) (hi : i < 128) => rget_any A n c _ i xs W (ha.to h) hn (by omega))
  have HB := Lib.hid (fun (W : World) (h : Below w.heap.size w W) (i : Nat) (hi : i < 128) => rget_any B f d _ i bs W (hb.to h) hf (by omega))
  clear ha hb hx h0 h1 hbR hn hf
  go_enter Try.func31, Try.ntmps31
  go_wp2_with fail
  refine HR.out.mono ?_
  rintro e w' ⟨rfl, rfl⟩
  go_wp2_with fail
  refine HC.out.mono ?_
  rintro e w' ⟨rfl, rfl⟩
  clear HR HC
  go_wp2
  go_loopw [8, 9] (fun sv iv wr => ∃ k : Nat, iv = .int .i64 k ∧ k ≤ 128 ∧ wr.ownsRow w.heap.size 4 1 sv k (((mkl xs bs).take k).map boc) ∧ Below w.heap.size w wr) (fun _ iv _ => 128 - (intOf iv).toNat)
  case atStart => exact ⟨0, rfl, Nat.zero_le _, World.ownsRow_nil _ _ _ _, Below.refl _ _⟩
  case round =>
    obtain ⟨k, rfl, hk, hown, hbr⟩ := hrel
    have hs := hbr.size
    by_cases hlt : k < 128
    · have e1 : decide ((k : Int) < 128) = true := by simp; omega
      have e1' : decide (k < 128) = true := by simpa using hlt
      have HA1 := Lib.hid (HA.out wr hbr k hlt)
      have HB1 := Lib.hid (HB.out wr hbr k hlt)
      have HT := Lib.hid (mkl_take (xs := xs) (bs := bs) hlt)
      rw [bitI_nat] at HA1 HB1
      generalize (mkl xs bs).take k = L at hown HT
      have hbx : bit xs k = true ∨ bit xs k = false := by cases bit xs k <;> simp
      clear HA HB
      rcases hbx with hbx | hbx
      · rw [hbx] at HA1 HT
        clear HB1 hbx
        simp only [Bool.true_or] at HT
        go_wp2_with fail
        refine HA1.out.mono ?_
        rintro e w' ⟨rfl, rfl⟩
        go_wp2_with (at_builtin; refine wpList_append_own _ rfl _ _ 22 rfl w.heap.size 4 i0 (.bool false) 1 1 Try.underlying22 hi0 hz0 hz1 hz2 rfl (by decide) _ _ _ rfl (hown.alloc _) ⟨wr.heap.size, 0, none⟩ 1 1 [.bool true] rfl rfl (cell_one_new _ _ _) ?_ ?_ ?_ ?_ ?_)
        · intro u hu; simp at hu; subst hu; rfl
        · unfold maxLen; omega
        · omega
        · simp; omega
        intro v' w7 hown' hgrow _
        have hb7 := app_below hbr hown hgrow
        clear hgrow hown hbr
        have HO := Lib.hid hown'
        clear hown'
        go_wp2
        exact ⟨⟨k + 1, by go_num, by omega, by rw [HT.out, List.map_append]; exact HO.out, hb7⟩, by simp [intOf]; omega⟩
      · rw [hbx] at HA1 HT
        clear hbx
        simp only [Bool.false_or] at HT
        generalize bit bs k = y at HB1 HT
        go_wp2_with fail
        refine HA1.out.mono ?_
        rintro e w' ⟨rfl, rfl⟩
        go_wp2_with fail
        refine HB1.out.mono ?_
        rintro e w' ⟨rfl, rfl⟩
        go_wp2_with (at_builtin; refine wpList_append_own _ rfl _ _ 22 rfl w.heap.size 4 i0 (.bool false) 1 1 Try.underlying22 hi0 hz0 hz1 hz2 rfl (by decide) _ _ _ rfl (hown.alloc _) ⟨wr.heap.size, 0, none⟩ 1 1 [.bool y] rfl rfl (cell_one_new _ _ _) ?_ ?_ ?_ ?_ ?_)
        · intro u hu; simp at hu; subst hu; rfl
        · unfold maxLen; omega
        · omega
        · simp; omega
        intro v' w7 hown' hgrow _
        have hb7 := app_below hbr hown hgrow
        clear hgrow hown hbr
        have HO := Lib.hid hown'
        clear hown'
        go_wp2
        exact ⟨⟨k + 1, by go_num, by omega, by rw [HT.out, List.map_append]; exact HO.out, hb7⟩, by simp [intOf]; omega⟩
    · have e1 : decide ((k : Int) < 128) = false := by simp; omega
      have e1' : decide (k < 128) = false := by simpa using hlt
      obtain rfl : k = 128 := by omega
      rw [List.take_of_length_le (by rw [mkl_len]; exact Nat.le_refl _)] at hown
      obtain ⟨A2, c2, hv, _, _, _, hrow⟩ := lrow_of_own (mkl_len xs bs) hown
      subst hv
      have HP := Lib.hid (show Calls Try.prog 17 #[.slice A2 128 c2] wr fun e w' => ∃ g, e = .returned (.slice (some ⟨g, 0, none⟩) 16 16) ∧ wr.heap.size ≤ g ∧ BRow w' w'.heap.size (some ⟨g, 0, none⟩) 16 (mks xs bs) ∧ Below wr.heap.size wr w' from rpack_any A2 128 c2 (mkl xs bs) wr hrow (by omega))
      clear hown hrow HA HB hlt
      go_wp2_with fail
      refine HP.out.mono ?_
      rintro e w5 ⟨g, rfl, hg, hrow, hb5⟩
      have hb6 := hbr.trans (hb5.mono hs)
      clear HP hb5 hbr
      have HR := Lib.hid hrow
      clear hrow
      go_wp2
      go_ret2
      exact ⟨g, rfl, by omega, HR.out, hb6⟩
end Go.Proofs.Ytblpekeikmblmaa.BitsW
