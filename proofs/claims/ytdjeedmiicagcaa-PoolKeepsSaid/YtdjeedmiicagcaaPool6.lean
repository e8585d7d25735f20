/- The walks of the pool, sixth part: Owe of a new due. Conditions: rows are read rightly and are not too long. Printed by gen_pool6.py. -/
import Derived.Test.YtdjeedmiicagcaaPool5
namespace Go.Proofs.Ytdjeedmiicagcaa.PoolW
open Go.RowKit
open Go.Proofs.Ytdjeedmiicagcaa.Words Go.Proofs.Ytdjeedmiicagcaa.NatW Go.Proofs.Ytdjeedmiicagcaa.PurseW

/-- the place behind all that are not later -/
def Place (ds : List Du) (d : Du) (p : Nat) : Prop := p ≤ ds.length ∧ (∀ (j : Nat) (y : Du), p ≤ j → ds[j]? = some y → d.ti < y.ti) ∧ (p = 0 ∨ ∃ y, ds[p - 1]? = some y ∧ y.ti ≤ d.ti)
set_option maxHeartbeats 4000000 in
set_option maxRecDepth 100000 in
theorem owe_new (A : Option Addr) (n c : Nat) (ds : List Du) (d : Du) (p : Nat) (w : World) (hR : SRow w w.heap.size A n 3 (flat Du.enc ds)) (hn : n ≤ 900) (hA : A = none → n = 0 ∧ c = 0) (h : OweArg d) (h0 : 0 < d.am ∧ d.am ≤ 4611686018427387904)
    (hno : ∀ (j : Nat) (y : Du), ds[j]? = some y → eqv d y = false) (hp : Place ds d p) (hi : InsHolds d ds p) :
    Calls Try.prog 54 #[.slice A n c, .agg #[.int .i64 d.ac, .int .i64 d.ti, .int .u64 d.am]] w (OweOk w (ds.take p ++ d :: ds.drop p)) := by
  have HNo := Lib.hid hno
  have HIn := Lib.hid hi
  have hpn : p ≤ n := by rw [← hR.len Du.len (by omega)]; exact hp.1
  have HP := Lib.hid hp
  clear hno hp hi
  have HW := Lib.hid (within_yes d.ac 0 63 h.1 h.2.1)
  have d1 : decide (d.ti < 0) = false := by rw [decide_eq_false_iff_not]; have := h.2.2; omega
  have d2 : decide ((4611686018427387904 : Int) < d.am) = false := by rw [decide_eq_false_iff_not]; omega
  have d3 : ((d.am : Int) == 0) = false := by
    rw [beq_eq_false_iff_ne]; omega
  have hal : Below w.heap.size w (w.alloc (.cells #[.int .i64 d.ac, .int .i64 d.ti, .int .u64 d.am] 96)) := (Below.refl _ _).alloc (Nat.le_refl _) _
  have HC := Lib.hid (clone_due A n c ds _ (hR.to hal) (by omega) hA)
  have HL := Lib.hid (hR.len Du.len (by omega))
  have HH := Lib.hid h
  have hs := hal.size
  obtain ⟨Wd, hWd⟩ : ∃ Wd, Wd = w.alloc (.cells #[.int .i64 d.ac, .int .i64 d.ti, .int .u64 d.am] 96) := ⟨_, rfl⟩
  have hz : w.heap.size < Wd.heap.size := by rw [hWd]; simp
  have b0 : Wd.cell? ⟨w.heap.size, 0, none⟩ = some (.int .i64 d.ac) := by rw [hWd, World.cell?_alloc_at _ _ _ _ rfl]; rfl
  have b1 : Wd.cell? ⟨w.heap.size, 1, none⟩ = some (.int .i64 d.ti) := by rw [hWd, World.cell?_alloc_at _ _ _ _ rfl]; rfl
  have b2 : Wd.cell? ⟨w.heap.size, 2, none⟩ = some (.int .u64 d.am) := by rw [hWd, World.cell?_alloc_at _ _ _ _ rfl]; rfl
  rw [← hWd] at hal HC hs
  have HHD := Lib.hid hWd
  clear h h0 hR hA hWd
  go_enter Try.func54, Try.ntmps54
  go_wp2_with fail
  rw [← HHD.out]
  refine (HW.out _).mono ?_
  rintro e w' ⟨rfl, rfl⟩
  go_wp2_with fail
  refine HC.out.mono ?_
  rintro e w2 ⟨v, rfl, ho, hb2⟩
  have c0 := (hb2.cell (p := ⟨w.heap.size, 0, none⟩) hz).trans b0
  have c1 := (hb2.cell (p := ⟨w.heap.size, 1, none⟩) hz).trans b1
  have c2 := (hb2.cell (p := ⟨w.heap.size, 2, none⟩) hz).trans b2
  have hz2 : w.heap.size < w2.heap.size := Nat.lt_of_lt_of_le hz hb2.size
  obtain ⟨Av, cv, rfl, hncv, hcmv, _, hrv⟩ := SRow.own ho
  have HI := Lib.hid (idxf_any Av n cv ds d w.heap.size w2 hrv (by omega) hz2 c0 c1)
  have hbb := hal.trans (hb2.mono hs)
  clear b0 b1 b2 hb2 hal HC hrv
  go_wp2_with fail
  refine HI.out.mono ?_
  rintro e w3 ⟨r, rfl, hF, hb3⟩
  have ho3 := own_low (own_to' ho hb3) hs
  have hs3 := hb3.size
  have e0 := (hb3.cell (p := ⟨w.heap.size, 0, none⟩) hz2).trans c0
  have e1 := (hb3.cell (p := ⟨w.heap.size, 1, none⟩) hz2).trans c1
  have e2 := (hb3.cell (p := ⟨w.heap.size, 2, none⟩) hz2).trans c2
  have hz3 : w.heap.size < w3.heap.size := Nat.lt_of_lt_of_le hz2 hs3
  have hb4 := hbb.trans (hb3.mono hbb.size)
  clear c0 c1 c2 hbb hb3 ho HI hz2
  obtain rfl := hF.miss HNo.out
  clear hF
  have q0 : decide ((0 : Int) ≤ -1) = false := by decide
  obtain ⟨Av', cv', hv', hncv', _, _, hrv⟩ := SRow.own ho3
  injection hv' with hv1 _ hv2
  subst hv1 hv2
  have HRV := Lib.hid hrv
  have HO3 := Lib.hid ho3
  have HB4 := Lib.hid hb4
  have HE0 := Lib.hid e0
  have HE1 := Lib.hid e1
  have HE2 := Lib.hid e2
  clear ho3 hb4 e0 e1 e2 hrv hs3
  go_wp2
  go_loopw [10] (fun iv wr => ∃ k : Nat, iv = .int .i64 k ∧ p ≤ k ∧ k ≤ n ∧ ∃ q, wr = w3.drewN q) (fun iv _ => (intOf iv).toNat)
  case atStart => exact ⟨n, rfl, hpn, Nat.le_refl _, 0, rfl⟩
  case round =>
    obtain ⟨k, rfl, hpk, hk, hQ⟩ := hrel
    have c1 : wr.cell? ⟨w.heap.size, 1, none⟩ = some (.int .i64 d.ti) := by obtain ⟨q, rfl⟩ := hQ; exact HE1.out
    have hrw : SRow wr w3.heap.size Av n 3 (flat Du.enc ds) := by obtain ⟨q, rfl⟩ := hQ; exact HRV.out
    have HQ := Lib.hid hQ
    clear hQ
    by_cases hgt : p < k
    · obtain ⟨j, rfl⟩ : ∃ j, k = j + 1 := ⟨k - 1, by omega⟩
      have hjn : j < n := by omega
      obtain ⟨y, hy⟩ : ∃ y, ds[j]? = some y := ⟨_, List.getElem?_eq_getElem (by rw [HL.out]; exact hjn)⟩
      obtain ⟨ad, rfl, hadl, hcs⟩ := hrw.cell Du.len hjn hy (by omega)
      have hc1 : wr.cell? ⟨(ad.add (j * 3)).block, (ad.add (j * 3)).off + 1, none⟩ = some (.int .i64 y.ti) := hcs 1 _ rfl
      have t1 : decide (d.ti < y.ti) = true := by rw [decide_eq_true_iff]; exact HP.out.2.1 j y (by omega) hy
      have t2 : decide ((0 : Int) < (j : Int) + 1) = true := by rw [decide_eq_true_iff]; omega
      have t3 : IntKind.i64.wrap ((j : Int)) = j := IntWalk.i64_in _ (by omega)
      have t4 : decide (j < n) = true := by simpa using hjn
      clear hcs hy hrw
      go_wp2
      go_quiet (fail)
      go_wp2
      exact ⟨⟨j, by first | rfl | go_num | simp, by omega, by omega, by obtain ⟨q, hq⟩ := HQ.out; exact ⟨_, by rw [hq, World.drewN_drewN]⟩⟩, by simp [intOf]⟩
    · obtain rfl : k = p := by omega
      rcases k with _ | j
      · clear hrw
        go_wp2
        go_quiet (fail)
        obtain ⟨q, hq⟩ := HQ.out
        have HOW := Lib.hid (show (wr.drewN nq).ownsRow w.heap.size 96 3 (.slice Av n cv) ds.length (flat Du.enc ds) by rw [HL.out, hq]; exact HO3.out)
        have HBW := Lib.hid (show Below w.heap.size w (wr.drewN nq) by rw [hq]; exact below_drewN (below_drewN HB4.out q) nq)
        have g0 : (wr.drewN nq).cell? ⟨w.heap.size, 0, none⟩ = some (.int .i64 d.ac) := by rw [hq]; exact HE0.out
        have g1 : (wr.drewN nq).cell? ⟨w.heap.size, 1, none⟩ = some (.int .i64 d.ti) := by rw [hq]; exact HE1.out
        have g2 : (wr.drewN nq).cell? ⟨w.heap.size, 2, none⟩ = some (.int .u64 d.am) := by rw [hq]; exact HE2.out
        clear hq c1
        generalize wr.drewN nq = W at *
        have HINS := Lib.hid (HIn.out W w.heap.size (.slice Av n cv) HOW.out HBW.out.size)
        go_wp2_with fail
        refine HINS.out.mono ?_
        rintro e w6 ⟨v6, rfl, ho6, hb6⟩
        have hb7 := Lib.hid (HBW.out.trans hb6)
        have HO6 := Lib.hid (show w6.ownsRow w.heap.size 96 3 v6 (ds.take 0 ++ d :: ds.drop 0).length (flat Du.enc (ds.take 0 ++ d :: ds.drop 0)) by
          have e : (ds.take 0 ++ d :: ds.drop 0).length = ds.length + 1 := by
            rw [List.length_append, List.length_cons, List.length_take, List.length_drop]; have := HP.out.1; omega
          rw [e]; exact ho6)
        clear hb6 ho6
        go_wp2
        go_ret2
        exact OweOk.mk _ rfl HO6.out hb7.out
      · have hjn : j < n := by omega
        obtain ⟨y, hy, hle⟩ : ∃ y, ds[j]? = some y ∧ y.ti ≤ d.ti := by
          rcases HP.out.2.2 with h | ⟨y, h1, h2⟩
          · omega
          · exact ⟨y, h1, h2⟩
        obtain ⟨ad, rfl, hadl, hcs⟩ := hrw.cell Du.len hjn hy (by omega)
        have hc1 : wr.cell? ⟨(ad.add (j * 3)).block, (ad.add (j * 3)).off + 1, none⟩ = some (.int .i64 y.ti) := hcs 1 _ rfl
        have t1 : decide (d.ti < y.ti) = false := by rw [decide_eq_false_iff_not]; omega
        have t2 : decide ((0 : Int) < (j : Int) + 1) = true := by rw [decide_eq_true_iff]; omega
        have t3 : IntKind.i64.wrap ((j : Int)) = j := IntWalk.i64_in _ (by omega)
        have t4 : decide (j < n) = true := by simpa using hjn
        clear hcs hy hrw hle
        go_wp2
        go_quiet (fail)
        clear hc1
        obtain ⟨q, hq⟩ := HQ.out
        have HOW := Lib.hid (show (wr.drewN nq).ownsRow w.heap.size 96 3 (.slice (some ad) n cv) ds.length (flat Du.enc ds) by rw [HL.out, hq]; exact HO3.out)
        have HBW := Lib.hid (show Below w.heap.size w (wr.drewN nq) by rw [hq]; exact below_drewN (below_drewN HB4.out q) nq)
        have g0 : (wr.drewN nq).cell? ⟨w.heap.size, 0, none⟩ = some (.int .i64 d.ac) := by rw [hq]; exact HE0.out
        have g1 : (wr.drewN nq).cell? ⟨w.heap.size, 1, none⟩ = some (.int .i64 d.ti) := by rw [hq]; exact HE1.out
        have g2 : (wr.drewN nq).cell? ⟨w.heap.size, 2, none⟩ = some (.int .u64 d.am) := by rw [hq]; exact HE2.out
        clear hq c1
        generalize wr.drewN nq = W at *
        have HINS := Lib.hid (HIn.out W w.heap.size (.slice (some ad) n cv) HOW.out HBW.out.size)
        go_wp2_with fail
        refine HINS.out.mono ?_
        rintro e w6 ⟨v6, rfl, ho6, hb6⟩
        have hb7 := Lib.hid (HBW.out.trans hb6)
        have HO6 := Lib.hid (show w6.ownsRow w.heap.size 96 3 v6 (ds.take (j + 1) ++ d :: ds.drop (j + 1)).length (flat Du.enc (ds.take (j + 1) ++ d :: ds.drop (j + 1))) by
          have e : (ds.take (j + 1) ++ d :: ds.drop (j + 1)).length = ds.length + 1 := by
            rw [List.length_append, List.length_cons, List.length_take, List.length_drop]; have := HP.out.1; omega
          rw [e]; exact ho6)
        clear hb6 ho6
        go_wp2
        go_ret2
        exact OweOk.mk _ rfl HO6.out hb7.out
end Go.Proofs.Ytdjeedmiicagcaa.PoolW
