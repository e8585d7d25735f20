/- The walks of the line, fifteenth part: the document's Pop and Wrong. Conditions: rows are read rightly and are not too long. -/
import Derived.Test.YtblpekeikmblmaaLine14
namespace Go.Proofs.Ytblpekeikmblmaa.LineW
open Go.RowKit
open Go.Proofs.Ytblpekeikmblmaa.Words

theorem take_one {zs : List Int} {k m : Nat} (hk : k < zs.length) (hm : k < m) : (zs.take (k + 1)).take m = (zs.take k).take m ++ [zs.getD k 0] := by
  rw [List.take_of_length_le (by simp; omega), List.take_of_length_le (l := zs.take k) (by simp; omega), List.take_add_one, List.getD_eq_getElem?_getD, List.getElem?_eq_getElem hk]; rfl
theorem drop_one {zs : List Int} {k m : Nat} (hk : k < zs.length) (hm : m ≤ k) : (zs.take (k + 1)).drop m = (zs.take k).drop m ++ [zs.getD k 0] := by
  rw [List.take_add_one, List.getElem?_eq_getElem hk, List.drop_append_of_le_length (by simp; omega), List.getD_eq_getElem?_getD, List.getElem?_eq_getElem hk]; rfl
/-- how far the document's Pop is -/
def Popped (w : World) (m k : Nat) (zs : List Int) (o r : Value) (wr : World) : Prop :=
  (k ≤ m ∧ r = .slice none 0 0 ∧ wr.ownsRow w.heap.size 3 1 o k ((zs.take k).map iw)) ∨
  (m < k ∧ ∃ (B : Nat) (A : Option Addr) (c : Nat), w.heap.size ≤ B ∧ B ≤ wr.heap.size ∧ o = .slice A m c ∧ Rd wr B A m (fun j => .int .i64 ((zs.take m).getD j 0)) ∧ (∀ ad, A = some ad → w.heap.size ≤ ad.block) ∧
    wr.ownsRow B 3 1 r (k - m) (((zs.take k).drop m).map iw))
theorem app_from {B : Nat} {wr w1 : World} {e : TypeId} {v : Value} {n size : Nat} {xs : List Value} {o : Obj} (hB : B ≤ wr.heap.size) (hown : wr.ownsRow B e size v n xs)
    (hg : (wr.alloc o).grownBy w1 v.ownBlock) : Below B wr w1 :=
  ((Below.refl B wr).alloc hB o).grown hg (by simp; omega) (fun j hj => (hown.lt j hj).1)
theorem Popped.late {w wr : World} {m k : Nat} {zs : List Int} {o r : Value} (h : Popped w m k zs o r wr) (hmk : m ≤ k) (hk : k ≤ zs.length) (hs : w.heap.size ≤ wr.heap.size) :
    ∃ (B : Nat) (A : Option Addr) (c : Nat), w.heap.size ≤ B ∧ B ≤ wr.heap.size ∧ o = .slice A m c ∧ Rd wr B A m (fun j => .int .i64 ((zs.take m).getD j 0)) ∧ (∀ ad, A = some ad → w.heap.size ≤ ad.block) ∧
    wr.ownsRow B 3 1 r (k - m) (((zs.take k).drop m).map iw) := by
  rcases h with ⟨h1, rfl, hown⟩ | ⟨_, h2⟩
  · obtain rfl : k = m := by omega
    obtain ⟨A, c, hv, hr, hlo⟩ := Row.of hown (by simp; omega)
    refine ⟨wr.heap.size, A, c, hs, Nat.le_refl _, hv, ?_, hlo, ?_⟩
    · have e : (zs.take k).length = k := by simp; omega
      rw [e] at hr; exact hr
    · rw [List.drop_of_length_le (by simp; omega), Nat.sub_self]
      exact World.ownsRow_nil _ _ _ _
  · exact h2
set_option maxHeartbeats 1000000 in
theorem rpop_any (A : Option Addr) (n c : Nat) (most : Int) (m : Nat) (zs : List Int) (w : World) (hl : zs.length = n) (hr : Rd w w.heap.size A n (fun j => .int .i64 (zs.getD j 0))) (hn : n ≤ 100000) (hm : max 0 (min most n) = (m : Int)) :
    Calls Try.prog 46 #[.slice A n c, .int .i64 most] w fun e w' => ∃ B d E f, e = .returned (.tuple #[.slice B m d, .slice E (n - m) f]) ∧ Row w' w.heap.size B (zs.take m) ∧ Row w' w.heap.size E (zs.drop m) ∧ Below w.heap.size w w' := by
  obtain ⟨i0, hi0, hz0, hz1, hz2⟩ := info_parts info_int
  have HL := Lib.hid hl
  have HM := Lib.hid hm
  clear hl hm
  go_enter Try.func46, Try.ntmps46
  go_wp2
  go_loopw [6, 7, 8] (fun ov rv kv wr => ∃ k : Nat, kv = .int .i64 k ∧ k ≤ n ∧ Popped w m k zs ov rv wr ∧ Below w.heap.size w wr) (fun _ _ kv _ => n - (intOf kv).toNat)
  case atStart => exact ⟨0, rfl, Nat.zero_le _, .inl ⟨Nat.zero_le _, rfl, World.ownsRow_nil _ _ _ _⟩, Below.refl _ _⟩
  case round =>
    obtain ⟨k, rfl, hk, hP, hbr⟩ := hrel
    have hs := hbr.size
    by_cases hlt : k < n
    · have e1 : decide (k < n) = true := by simpa using hlt
      obtain ⟨ad, rfl, _, hc⟩ := (hr.below hbr) k hlt
      have hc' := hc
      simp only at hc'
      have hM := HM.out
      have HK1 := Lib.hid (show k < m → (zs.take (k + 1)) = (zs.take k) ++ [zs.getD k 0] from fun _ => by rw [List.take_add_one, List.getD_eq_getElem?_getD, List.getElem?_eq_getElem (by rw [HL.out]; exact hlt)]; rfl)
      have HK2 := Lib.hid (fun h : m ≤ k => drop_one (zs := zs) (by rw [HL.out]; exact hlt) h)
      have HK3 := Lib.hid (show m = k → (zs.take k).drop m = [] from fun h => List.drop_of_length_le (by simp; omega))
      have hmn : m ≤ n := by omega
      clear hc
      generalize zs.getD k 0 = y at hc' HK1 HK2
      by_cases hy : (k : Int) < most
      · have e2 : decide ((k : Int) < most) = true := by simpa using hy
        have hkm : k < m := by omega
        clear hM hy
        rcases hP with ⟨_, rfl, hown⟩ | ⟨h1, _⟩
        · go_wp2_with (at_builtin; refine wpList_append_own _ rfl _ _ 57 rfl w.heap.size 3 i0 (.int .i64 0) 1 8 Try.underlying57 hi0 hz0 hz1 hz2 rfl (by decide) _ _ _ rfl (hown.alloc _) ⟨wr.heap.size, 0, none⟩ 1 1 [.int .i64 y] rfl rfl (cell_one_new _ _ _) ?_ ?_ ?_ ?_ ?_)
          · intro u hu; simp at hu; subst hu; rfl
          · unfold maxLen; omega
          · omega
          · simp; omega
          intro v' w7 hown' hgrow _
          have hb7 := app_below hbr hown hgrow
          clear hgrow hown hbr
          have HP := Lib.hid (show Popped w m (k + 1) zs v' (.slice none 0 0) w7 from .inl ⟨hkm, rfl, by rw [HK1.out hkm, List.map_append, List.map_take]; exact hown'⟩)
          clear hown'
          go_wp2
          exact ⟨⟨k + 1, by go_num, by omega, HP.out, hb7⟩, by simp [intOf]; omega⟩
        · omega
      · have e2 : decide ((k : Int) < most) = false := by simpa using hy
        have hkm : m ≤ k := by omega
        clear hM hy
        obtain ⟨B, A', c', hB1, hB2, rfl, hrd, hlo, hown⟩ := hP.late hkm (by rw [HL.out]; exact hk) hs
        go_wp2_with (at_builtin; refine wpList_append_own _ rfl _ _ 57 rfl B 3 i0 (.int .i64 0) 1 8 Try.underlying57 hi0 hz0 hz1 hz2 rfl (by decide) _ _ _ rfl (hown.alloc _) ⟨wr.heap.size, 0, none⟩ 1 1 [.int .i64 y] rfl rfl (cell_one_new _ _ _) ?_ ?_ ?_ ?_ ?_)
        · intro u hu; simp at hu; subst hu; rfl
        · unfold maxLen; omega
        · omega
        · simp; omega
        intro v' w7 hown' hgrow _
        have hb8 := app_from hB2 hown hgrow
        have hb7 := hbr.trans (hb8.mono hB1)
        have hs8 := hb8.size
        have HP := Lib.hid (show Popped w m (k + 1) zs (.slice A' m c') v' w7 from .inr ⟨by omega, B, A', c', hB1, by omega, rfl, hrd.below hb8, hlo, by rw [HK2.out hkm, List.map_append, List.map_drop, List.map_take, show k + 1 - m = k - m + 1 by omega]; exact hown'⟩)
        clear hown' hgrow hown hbr hrd hb8 hP
        go_wp2
        exact ⟨⟨k + 1, by go_num, by omega, HP.out, hb7⟩, by simp [intOf]; omega⟩
    · have e1 : decide (k < n) = false := by simpa using hlt
      obtain rfl : k = n := by omega
      have hM := HM.out
      obtain ⟨B, A', c', hB1, hB2, rfl, hrd, hlo, hown⟩ := hP.late (by omega) (by rw [HL.out]; exact hk) hs
      rw [List.take_of_length_le (l := zs) (by rw [HL.out]; exact Nat.le_refl _)] at hown
      obtain ⟨E, f, rfl, hE, hElo⟩ := Row.of hown (by rw [List.length_drop, HL.out])
      have HR1 := Lib.hid (show Row wr w.heap.size A' (zs.take m) from ⟨by rw [List.length_take, HL.out, Nat.min_eq_left (by omega)]; exact hrd.more hB2, hlo⟩)
      have HR2 := Lib.hid (show Row wr w.heap.size E (zs.drop m) from ⟨hE, fun ad h => Nat.le_trans hB1 (hElo ad h)⟩)
      clear hP hown hrd hM hE
      go_wp2
      go_ret2
      exact ⟨A', c', E, f, rfl, HR1.out, HR2.out, hbr⟩
theorem wrong_any (A : Option Addr) (n c : Nat) (r : Int) (zs : List Int) (w : World) (hl : zs.length = n) (hr : Rd w w.heap.size A n (fun j => .int .i64 (zs.getD j 0))) (hnc : n ≤ c) (hn : n ≤ 100000)
    (h1 : (∃ j, j < n ∧ zs.getD j 0 < 0) → r = 2) (h2 : (∀ j, j < n → 0 ≤ zs.getD j 0) → (∃ k, k < n ∧ ∃ j, j < k ∧ zs.getD j 0 = zs.getD k 0) → r = 231)
    (h3 : (∀ j, j < n → 0 ≤ zs.getD j 0) → (∀ k, k < n → ∀ j, j < k → zs.getD j 0 ≠ zs.getD k 0) → r = if 256 < n then 161 else 0) :
    Calls Try.prog 43 #[.slice A n c] w fun e w' => e = .returned (.int .i64 r) ∧ ∃ q, w' = w.drewN q := by
  have H1 := Lib.hid h1
  have H2 := Lib.hid h2
  have H3 := Lib.hid h3
  have HL := Lib.hid hl
  clear h1 h2 h3 hl
  go_enter Try.func43, Try.ntmps43
  go_wp2
  go_loop [3] (fun iv => ∃ k : Nat, iv = .int .i64 k ∧ k ≤ n ∧ ∀ j, j < k → 0 ≤ zs.getD j 0) (fun iv => n - (intOf iv).toNat)
  case atStart => exact ⟨0, rfl, Nat.zero_le _, fun j hj => by omega⟩
  case round =>
    obtain ⟨k, rfl, hk, hpos⟩ := hrel
    have HP := Lib.hid hpos
    clear hpos
    by_cases hlt : k < n
    · have e1 : decide (k < n) = true := by simpa using hlt
      obtain ⟨ad, rfl, _, hc⟩ := hr k hlt
      have hc' := hc
      simp only at hc'
      have HV := Lib.hid (fun h : zs.getD k 0 < 0 => H1.out ⟨k, hlt, h⟩)
      have HW := Lib.hid (fun h : 0 ≤ zs.getD k 0 => (show ∀ j, j < k + 1 → 0 ≤ zs.getD j 0 from fun j hj => by
        by_cases h' : j = k
        · rw [h']; exact h
        · exact HP.out j (by omega)))
      clear hc
      generalize zs.getD k 0 = y at hc' HV HW
      by_cases hy : y < 0
      · have e2 : decide (y < 0) = true := by simpa using hy
        have HE := Lib.hid (HV.out hy)
        clear hy
        go_wp2
        go_ret
        exact ⟨by rw [HE.out] <;> rfl, 0, rfl⟩
      · have e2 : decide (y < 0) = false := by simpa using hy
        have HE := Lib.hid (HW.out (by omega))
        clear hy
        go_wp2
        exact ⟨⟨k + 1, by go_num, by omega, HE.out⟩, by simp [intOf]; omega⟩
    · have e1 : decide (k < n) = false := by simpa using hlt
      obtain rfl : k = n := by omega
      clear hlt hk
      go_wp2
      go_loopw [4] (fun iv wr => ∃ i : Nat, iv = .int .i64 i ∧ i ≤ k ∧ (∃ q, wr = w.drewN q) ∧ ∀ a, a < i → ∀ j, j < a → zs.getD j 0 ≠ zs.getD a 0) (fun iv _ => k - (intOf iv).toNat)
      case atStart => exact ⟨0, rfl, Nat.zero_le _, ⟨0, rfl⟩, fun j hj => by omega⟩
      case round =>
        clear e1
        obtain ⟨i, rfl, hk, hQ, hdis⟩ := hrel
        have HD := Lib.hid hdis
        have hr' : Rd wr w.heap.size A k (fun j => .int .i64 (zs.getD j 0)) := by obtain ⟨q, rfl⟩ := hQ; exact hr
        have HQ := Lib.hid hQ
        clear hdis hQ
        by_cases hlt : i < k
        · have e1 : decide (i < k) = true := by simpa using hlt
          have f2 : decide (i ≤ c) = true := by simp; omega
          obtain ⟨ad, rfl, _, hc⟩ := hr' i hlt
          have hc' := hc
          simp only at hc'
          have hrt : Rd wr w.heap.size (some ad) i (fun j => .int .i64 ((zs.take i).getD j 0)) := (hr'.take (by omega)).congr fun j hj => by
            simp only [List.getD_eq_getElem?_getD, List.getElem?_take, if_pos hj]
          have HRT := Lib.hid hrt
          have hlen := Lib.hid (show (zs.take i).length = i by rw [List.length_take, HL.out]; omega)
          have HA := Lib.hid (fun h : 0 ≤ Lib.idxOf (zs.take i) (zs.getD i 0) => H2.out HP.out ⟨i, hlt, by
            rcases least (fun j => (zs.take i).getD j 0 = zs.getD i 0) i with ⟨j, hj, h1, _⟩ | hno
            · refine ⟨j, hj, ?_⟩
              simp only [List.getD_eq_getElem?_getD, List.getElem?_take, if_pos hj] at h1 ⊢
              exact h1
            · exfalso
              have := Lib.idxOf_miss (zs.take i) (zs.take i).length (zs.getD i 0) (by rw [hlen.out]; exact hno)
              rw [List.take_of_length_le (Nat.le_refl _)] at this
              omega⟩)
          have HB := Lib.hid (fun h : ¬ 0 ≤ Lib.idxOf (zs.take i) (zs.getD i 0) => (show ∀ a, a < i + 1 → ∀ j, j < a → zs.getD j 0 ≠ zs.getD a 0 from fun a ha j hj e => by
            by_cases h' : a = i
            · subst h'
              rcases least (fun j => (zs.take a).getD j 0 = zs.getD a 0) a with ⟨j', hj', h1, h2⟩ | hno
              · have := Lib.idxOf_hit (zs.take a) (zs.take a).length j' (zs.getD a 0) (by rw [hlen.out]; exact hj') (Nat.le_refl _) h1 h2
                rw [List.take_of_length_le (Nat.le_refl _)] at this
                omega
              · refine hno j hj ?_
                simp only [List.getD_eq_getElem?_getD, List.getElem?_take, if_pos hj] at e ⊢
                exact e
            · exact HD.out a (by omega) j hj e))
          clear hc hrt hr hr'
          generalize zs.getD i 0 = y at hc' HA HB
          have HF := Lib.hid (fun m => rfind_any (some ad) i c w.heap.size y (zs.take i) (wr.drewN m) hlen.out HRT.out (by omega))
          generalize Lib.idxOf (zs.take i) y = x at HF HA HB
          have hin : 0 ≤ (i : Int) := by omega
          by_cases hx : 0 ≤ x
          · have e2 : decide (0 ≤ x) = true := by simpa using hx
            have HE := Lib.hid (HA.out hx)
            clear hx
            go_wp2
            go_quiet ((go_at_call 49; with_reducible exact q_left (HF.out _)))
            go_wp2
            go_ret
            obtain ⟨q, hq⟩ := HQ.out
            exact ⟨by rw [HE.out] <;> rfl, _, by rw [hq, World.drewN_drewN]⟩
          · have e2 : decide (0 ≤ x) = false := by simpa using hx
            have HE := Lib.hid (HB.out hx)
            clear hx
            go_wp2
            go_quiet ((go_at_call 49; with_reducible exact q_left (HF.out _)))
            go_wp2
            exact ⟨⟨i + 1, by go_num, by omega, by obtain ⟨q, hq⟩ := HQ.out; exact ⟨_, by rw [hq, World.drewN_drewN]⟩, HE.out⟩, by simp [intOf]; omega⟩
        · have e1 : decide (i < k) = false := by simpa using hlt
          obtain rfl : i = k := by omega
          have HE := Lib.hid (H3.out HP.out HD.out)
          clear hr hr'
          by_cases hbig : 256 < i
          · have e2 : decide (256 < i) = true := by simpa using hbig
            have e3 : decide ((256 : Int) < i) = true := by simp; omega
            have HE2 := Lib.hid (HE.out.trans (if_pos hbig))
            clear hbig HE
            go_wp2
            go_ret
            exact ⟨by rw [HE2.out] <;> rfl, HQ.out⟩
          · have e2 : decide (256 < i) = false := by simpa using hbig
            have e3 : decide ((256 : Int) < i) = false := by simp; omega
            have HE2 := Lib.hid (HE.out.trans (if_neg hbig))
            clear hbig HE
            go_wp2
            go_ret
            exact ⟨by rw [HE2.out] <;> rfl, HQ.out⟩
end Go.Proofs.Ytblpekeikmblmaa.LineW
