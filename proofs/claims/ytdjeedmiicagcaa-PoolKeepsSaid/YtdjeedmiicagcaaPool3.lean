/- The walks of the pool, third part: the document's Sum. Conditions: rows are read rightly and are not too long. Printed by gen_pool3.py. -/
import Derived.Test.YtdjeedmiicagcaaPool2
import Derived.Deep.RegionWith
namespace Go.Proofs.Ytdjeedmiicagcaa.PoolW
open Go.RowKit
open Go.Proofs.Ytdjeedmiicagcaa.Words Go.Proofs.Ytdjeedmiicagcaa.NatW Go.Proofs.Ytdjeedmiicagcaa.PurseW

theorem sm_take {us vs : List Nat} : ∀ k, k ≤ us.length → sm (us ++ vs) k = sm us k
  | 0, _ => rfl
  | k + 1, h => by
    rw [sm, sm, sm_take k (by omega), un, un, List.getD_eq_getElem?_getD, List.getD_eq_getElem?_getD, List.getElem?_append_left (by omega)]
theorem sm_append (us vs : List Nat) : ∀ k, sm (us ++ vs) (us.length + k) = sm us us.length + sm vs k
  | 0 => by rw [Nat.add_zero, sm_take _ (Nat.le_refl _)]; rfl
  | k + 1 => by
    rw [← Nat.add_assoc, sm, sm_append us vs k, sm, un, un, List.getD_eq_getElem?_getD, List.getD_eq_getElem?_getD, List.getElem?_append_right (by omega), show us.length + k - us.length = k by omega]; omega
set_option maxHeartbeats 4000000 in
set_option maxRecDepth 100000 in
theorem rsum18 (A B : Option Addr) (n c m d : Nat) (ds : List Dep) (es : List Du) (w : World) (h : SRow w w.heap.size A n 4 (flat Dep.enc ds)) (h' : SRow w w.heap.size B m 3 (flat Du.enc es)) (hn : n ≤ 400) (hm : m ≤ 400) (hw : Wd (ams ds es)) :
    Calls Try.prog 52 #[.slice A n c, .slice B m d] w fun e w' => ∃ v, e = .returned v ∧ NatAt w.heap.size w' v (sm (ams ds es) (ams ds es).length) ∧ Below w.heap.size w w' := by
  have HL1 := Lib.hid (h.len Dep.len (by omega))
  have HL2 := Lib.hid (h'.len Du.len (by omega))
  have HR1 := Lib.hid (fun (W : World) (hb : Below w.heap.size w W) => h.below hb)
  have HR2 := Lib.hid (fun (W : World) (hb : Below w.heap.size w W) => h'.below hb)
  have HW1 := Lib.hid (show Wd (ds.map Dep.am) from fun b hb => hw b (List.mem_append.2 (.inl hb)))
  have HW2 := Lib.hid (show Wd (es.map Du.am) from fun b hb => hw b (List.mem_append.2 (.inr hb)))
  have HSM := Lib.hid (show sm (ams ds es) (ams ds es).length = sm (ds.map Dep.am) n + sm (es.map Du.am) m by
    have h1 := sm_append (ds.map Dep.am) (es.map Du.am) m
    rw [List.length_map, h.len Dep.len (by omega)] at h1
    rw [← h1, ams, List.length_append, List.length_map, List.length_map, h.len Dep.len (by omega), h'.len Du.len (by omega)])
  have HB0 := Lib.hid (sm_le HW1.out n)
  clear h h' hw
  obtain ⟨W0, hW0⟩ : ∃ W0, (w.alloc (.cells #[.slice none 0 0] 51)).alloc (.cells #[.slice none 0 0] 51) = W0 := ⟨_, rfl⟩
  have hbW : Below w.heap.size w W0 := by rw [← hW0]; exact ((Below.refl _ _).alloc (Nat.le_refl _) _).alloc (by simp) _
  have hsz : w.heap.size + 2 ≤ W0.heap.size := by rw [← hW0]; simp
  have hc2 : W0.cell? ⟨w.heap.size, 0, none⟩ = some (.slice none 0 0) := by rw [← hW0, World.cell?_alloc_old _ _ _ (by simp), World.cell?_alloc_at _ _ _ _ rfl]; rfl
  have hc3 : W0.cell? ⟨w.heap.size + 1, 0, none⟩ = some (.slice none 0 0) := by rw [← hW0, World.cell?_alloc_at _ _ _ _ (by simp)]; rfl
  have hf2 : W0.frozen? ⟨w.heap.size, 0, none⟩ = false := by rw [← hW0, World.frozen?_alloc_old _ _ _ (by simp), World.frozen?_alloc_at _ _ _ _ rfl]
  have hf3 : W0.frozen? ⟨w.heap.size + 1, 0, none⟩ = false := by rw [← hW0, World.frozen?_alloc_at _ _ _ _ (by simp)]
  go_enter Try.func52, Try.ntmps52
  go_wp2
  clear hW0
  go_loopw [6] (fun iv wr => ∃ (k : Nat) (A' : Option Addr) (m' c' : Nat), iv = .int .i64 k ∧ k ≤ n ∧ wr.cell? ⟨w.heap.size + 1, 0, none⟩ = some (.slice A' m' c') ∧ NatAt (w.heap.size + 2) wr (.agg #[.slice A' m' c']) (sm (ds.map Dep.am) k) ∧
    wr.cell? ⟨w.heap.size, 0, none⟩ = some (.slice none 0 0) ∧ wr.frozen? ⟨w.heap.size, 0, none⟩ = false ∧ wr.frozen? ⟨w.heap.size + 1, 0, none⟩ = false ∧ w.heap.size + 2 ≤ wr.heap.size ∧ Below w.heap.size w wr) (fun iv _ => n - (intOf iv).toNat)
  case atStart => exact ⟨0, none, 0, 0, rfl, Nat.zero_le _, hc3, NatAt.zero _ _, hc2, hf2, hf3, hsz, hbW⟩
  case round =>
    clear hc2 hc3 hsz hbW hf2 hf3
    obtain ⟨k, A', m', c', rfl, hk, hc3, hN, hc2, hf2, hf3, hsz, hbw⟩ := hrel
    by_cases hlt : k < n
    · have d1 : decide (k < n) = true := by simpa using hlt
      obtain ⟨d, hd⟩ : ∃ d, ds[k]? = some d := ⟨_, List.getElem?_eq_getElem (by rw [HL1.out]; exact hlt)⟩
      obtain ⟨ad, rfl, _, hcs⟩ := (HR1.out wr hbw).cell Dep.len hlt hd (by omega)
      have hcf : wr.cell? ⟨(ad.add (k * 4)).block, (ad.add (k * 4)).off + 2, none⟩ = some (.int .u64 d.am) := hcs 2 _ rfl
      have hun : un (ds.map Dep.am) k = d.am := by rw [un, List.getD_eq_getElem?_getD, List.getElem?_map, hd]; rfl
      have hxw := HW1.out.un k
      rw [hun] at hxw
      have hO := Lib.hid (of_any d.am hxw)
      obtain ⟨t, ht⟩ : ∃ t, t = sm (ds.map Dep.am) (k + 1) := ⟨_, rfl⟩
      have HT := Lib.hid ht
      have HT' := Lib.hid (show t = sm (ds.map Dep.am) k + d.am by rw [ht, ← hun]; simp only [sm] <;> omega)
      have hS1 := Lib.hid (Sm.of (N := sm (ds.map Dep.am) k) (by have := sm_le HW1.out k; first | omega | (have := HB0.out; omega)))
      have hS2 := Lib.hid (Sm.of (N := d.am) (by omega))
      clear hcs hd ht hxw hun
      generalize d.am = x at *
      generalize sm (ds.map Dep.am) k = s at *
      go_wp2
      go_region_with (first
        | (go_at_call 58; refine (hO.out _).mono ?_; rintro e w5 ⟨v5, rfl, hN5, hb5⟩; have hb5' : Below wr.heap.size wr w5 := ⟨hb5.1, hb5.2, hb5.3, hb5.4, hb5.5⟩; have hc5 := (hb5'.cell (p := ⟨w.heap.size + 1, 0, none⟩) (by show w.heap.size + 1 < wr.heap.size; omega)).trans hc3; clear hb5)
        | (go_at_call 67; refine (add_v _ v5 _ _ _ (hN.to hb5') hN5 hS1.out hS2.out).mono ?_; rintro e w6 ⟨v6, rfl, hN6, hb6⟩; have hb56 : Below wr.heap.size wr w6 := hb5'.trans (hb6.mono hb5'.size); have hf6 := (hb56.frozen (p := ⟨w.heap.size + 1, 0, none⟩) (by show w.heap.size + 1 < wr.heap.size; omega)).trans hf3; have hc6 := (hb56.cell (p := ⟨w.heap.size + 1, 0, none⟩) (by show w.heap.size + 1 < wr.heap.size; omega)).trans hc3; have hf26 := (hb56.frozen (p := ⟨w.heap.size, 0, none⟩) (by show w.heap.size < wr.heap.size; omega)).trans hf2; have hc26 := (hb56.cell (p := ⟨w.heap.size, 0, none⟩) (by show w.heap.size < wr.heap.size; omega)).trans hc2; have hN7 := hN6.low (Nat.le_trans hsz hb5'.size); obtain ⟨A6, m6, c6, rfl⟩ := hN6.form; clear hb5' hb6 hN5 hc5 hN6))
      all_goals
        have hbf : Below w.heap.size w w6 := hbw.trans (hb56.mono hbw.size)
        have hs6 := hb56.size
        clear hc3 hN hc2 hf2 hf3 hbw hb56
        go_wp2
        exact ⟨⟨k + 1, A6, m6, c6, by go_num, by omega, World.cell?_setCell_same _ _ _ hc6, by rw [← HT.out, HT'.out]; exact hN7.set (by simp) _,
          (World.cell?_setCell_other _ _ _ _ (by simp)).trans hc26, (World.frozen?_setCell _ _ _ _).trans hf26, (World.frozen?_setCell _ _ _ _).trans hf6, by show _ ≤ _; simpa [World.setCell] using Nat.le_trans hsz hs6, hbf.setCell (by simp) _⟩, by simp [intOf]; omega⟩
    · have d1 : decide (k < n) = false := by simpa using hlt
      obtain rfl : k = n := by omega
      clear hlt hk
      go_wp2
      go_loopw [7] (fun iv wr => ∃ (j : Nat) (A' : Option Addr) (m' c' : Nat), iv = .int .i64 j ∧ j ≤ m ∧ wr.cell? ⟨w.heap.size + 1, 0, none⟩ = some (.slice A' m' c') ∧ NatAt (w.heap.size + 2) wr (.agg #[.slice A' m' c']) (sm (ds.map Dep.am) k + sm (es.map Du.am) j) ∧
        wr.cell? ⟨w.heap.size, 0, none⟩ = some (.slice none 0 0) ∧ wr.frozen? ⟨w.heap.size, 0, none⟩ = false ∧ wr.frozen? ⟨w.heap.size + 1, 0, none⟩ = false ∧ w.heap.size + 2 ≤ wr.heap.size ∧ Below w.heap.size w wr) (fun iv _ => m - (intOf iv).toNat)
      case atStart => exact ⟨0, A', m', c', rfl, Nat.zero_le _, hc3, by simpa [sm] using hN, hc2, hf2, hf3, hsz, hbw⟩
      case round =>
        clear hc2 hc3 hsz hbw hf2 hf3 hN d1
        obtain ⟨wq, rfl⟩ : ∃ wq : World, wq = wr := ⟨_, rfl⟩
        obtain ⟨j, A', m', c', rfl, hk, hc3, hN, hc2, hf2, hf3, hsz, hbw⟩ := hrel
        by_cases hlt : j < m
        · have d1 : decide (j < m) = true := by simpa using hlt
          obtain ⟨d, hd⟩ : ∃ d, es[j]? = some d := ⟨_, List.getElem?_eq_getElem (by rw [HL2.out]; exact hlt)⟩
          obtain ⟨ad, rfl, _, hcs⟩ := (HR2.out wq hbw).cell Du.len hlt hd (by omega)
          have hcf : wq.cell? ⟨(ad.add (j * 3)).block, (ad.add (j * 3)).off + 2, none⟩ = some (.int .u64 d.am) := hcs 2 _ rfl
          have hun : un (es.map Du.am) j = d.am := by rw [un, List.getD_eq_getElem?_getD, List.getElem?_map, hd]; rfl
          have hxw := HW2.out.un j
          rw [hun] at hxw
          have hO := Lib.hid (of_any d.am hxw)
          obtain ⟨t, ht⟩ : ∃ t, t = sm (ds.map Dep.am) k + sm (es.map Du.am) (j + 1) := ⟨_, rfl⟩
          have HT := Lib.hid ht
          have HT' := Lib.hid (show t = sm (ds.map Dep.am) k + sm (es.map Du.am) j + d.am by rw [ht, ← hun]; simp only [sm] <;> omega)
          have hS1 := Lib.hid (Sm.of (N := sm (ds.map Dep.am) k + sm (es.map Du.am) j) (by have := sm_le HW2.out j; first | omega | (have := HB0.out; omega)))
          have hS2 := Lib.hid (Sm.of (N := d.am) (by omega))
          clear hcs hd ht hxw hun
          generalize d.am = x at *
          generalize sm (ds.map Dep.am) k + sm (es.map Du.am) j = s at *
          go_wp2
          go_region_with (first
            | (go_at_call 58; refine (hO.out _).mono ?_; rintro e w5 ⟨v5, rfl, hN5, hb5⟩; have hb5' : Below wq.heap.size wq w5 := ⟨hb5.1, hb5.2, hb5.3, hb5.4, hb5.5⟩; have hc5 := (hb5'.cell (p := ⟨w.heap.size + 1, 0, none⟩) (by show w.heap.size + 1 < wq.heap.size; omega)).trans hc3; clear hb5)
            | (go_at_call 67; refine (add_v _ v5 _ _ _ (hN.to hb5') hN5 hS1.out hS2.out).mono ?_; rintro e w6 ⟨v6, rfl, hN6, hb6⟩; have hb56 : Below wq.heap.size wq w6 := hb5'.trans (hb6.mono hb5'.size); have hf6 := (hb56.frozen (p := ⟨w.heap.size + 1, 0, none⟩) (by show w.heap.size + 1 < wq.heap.size; omega)).trans hf3; have hc6 := (hb56.cell (p := ⟨w.heap.size + 1, 0, none⟩) (by show w.heap.size + 1 < wq.heap.size; omega)).trans hc3; have hf26 := (hb56.frozen (p := ⟨w.heap.size, 0, none⟩) (by show w.heap.size < wq.heap.size; omega)).trans hf2; have hc26 := (hb56.cell (p := ⟨w.heap.size, 0, none⟩) (by show w.heap.size < wq.heap.size; omega)).trans hc2; have hN7 := hN6.low (Nat.le_trans hsz hb5'.size); obtain ⟨A6, m6, c6, rfl⟩ := hN6.form; clear hb5' hb6 hN5 hc5 hN6))
          all_goals
            have hbf : Below w.heap.size w w6 := hbw.trans (hb56.mono hbw.size)
            have hs6 := hb56.size
            clear hc3 hN hc2 hf2 hf3 hbw hb56
            go_wp2
            exact ⟨⟨j + 1, A6, m6, c6, by go_num, by omega, World.cell?_setCell_same _ _ _ hc6, by rw [← HT.out, HT'.out]; exact hN7.set (by simp) _,
              (World.cell?_setCell_other _ _ _ _ (by simp)).trans hc26, (World.frozen?_setCell _ _ _ _).trans hf26, (World.frozen?_setCell _ _ _ _).trans hf6, by show _ ≤ _; simpa [World.setCell] using Nat.le_trans hsz hs6, hbf.setCell (by simp) _⟩, by simp [intOf]; omega⟩
        · have d1 : decide (j < m) = false := by simpa using hlt
          obtain rfl : j = m := by omega
          rw [← HSM.out] at hN
          go_wp2
          refine bodyPost_ret (v := .agg #[.slice A' m' c']) (by simp [results, Try.results52, go_sem, World.cell?_setCell_same _ _ _ hc2]) rfl ?_
          exact ⟨_, rfl, (hN.set (by simp) _).low (by omega), hbw.setCell (Nat.le_refl _) _⟩
end Go.Proofs.Ytdjeedmiicagcaa.PoolW
