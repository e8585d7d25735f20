/- The walks of the line, ninth part: LineOrder. Conditions: rows are read rightly. -/
import Derived.Test.YtblpekeikmblmaaLine8
namespace Go.Proofs.Ytblpekeikmblmaa.LineW
open Go.RowKit
open Go.Proofs.Ytblpekeikmblmaa.Words

theorem drop_any {w : World} {p : Nat} {v : Value} {zs : List Int} (x : Int) (h : LineAt w p v zs) (hn : zs.length ≤ 100000) (hd : ∀ k, k < zs.length → ∀ j, j < k → zs.getD j 0 ≠ zs.getD k 0) :
    Calls Try.prog 51 #[.pointer (some ⟨p, 0, none⟩), .int .i64 x] w fun e w' => ∃ b v', e = .returned (.bool b) ∧ LineAt w' p v' (flt zs x) ∧ Keeps w w' p v.ownBlock ∧ v'.ownBlock = v.ownBlock := by
  rcases least (fun i => zs.getD i 0 = x) zs.length with ⟨i, hi, h1, h2⟩ | hno
  · have hz : zs[i]? = some x := by rw [List.getD_eq_getElem?_getD, List.getElem?_eq_getElem hi] at h1; rw [List.getElem?_eq_getElem hi]; exact congrArg some h1
    have hidx : Lib.idxOf zs x = i := by
      have := Lib.idxOf_hit zs zs.length i x hi (Nat.le_refl _) h1 h2
      rwa [List.take_of_length_le (Nat.le_refl _)] at this
    refine (drop_yes x i hidx hz h hn).mono ?_
    rintro e w' ⟨rfl, v', hL, hK, hV⟩
    rw [← flt_one hz (fun j hj hne e => by
      rcases Nat.lt_or_ge j i with h' | h'
      · exact hd i hi j h' (e.trans h1.symm)
      · exact hd j hj i (by omega) (h1.trans e.symm))] at hL
    exact ⟨true, v', rfl, hL, hK, hV⟩
  · have hidx : Lib.idxOf zs x = -1 := by
      have := Lib.idxOf_miss zs zs.length x hno
      rwa [List.take_of_length_le (Nat.le_refl _)] at this
    refine (drop_no x hidx h hn).mono ?_
    rintro e w' ⟨rfl, rfl⟩
    rw [← flt_none (zs := zs) (x := x) (fun z hz => by
      obtain ⟨j, hj, rfl⟩ := List.mem_iff_getElem.1 hz
      have := hno j hj
      rwa [List.getD_eq_getElem?_getD, List.getElem?_eq_getElem hj] at this)] at h
    exact ⟨false, v, rfl, h, Keeps.refl _ _ _, rfl⟩

set_option maxHeartbeats 4000000 in
set_option maxRecDepth 100000 in
theorem order_good (A : Option Addr) (n c : Nat) (ch x : Int) (zs : List Int) (w : World) (hl : zs.length = n) (hr : Rd w w.heap.size A n (fun j => .int .i64 (zs.getD j 0))) (hn : n ≤ 256) (h1 : 1 ≤ ch) (h2 : ch ≤ 100)
    (h0 : ∀ j, j < n → 0 ≤ zs.getD j 0 ∧ zs.getD j 0 ≤ 9223372036854775807) (hd : ∀ k, k < n → ∀ j, j < k → zs.getD j 0 ≠ zs.getD k 0) :
    Calls Try.prog 13 #[.slice A n c, .int .i64 ch, .int .i64 x] w fun e w' => e = .returned (.bool true) ∧ Below w.heap.size w w' := by
  obtain ⟨i0, hi0, hz0, hz1, hz2⟩ := info_parts info_int
  have d1 : decide (ch < 1) = false := by simp; omega
  have d2 : decide ((100 : Int) < ch) = false := by simp; omega
  have d3 : decide ((256 : Int) < n) = false := by simp; omega
  have H1 := Lib.hid h1
  have H2 := Lib.hid h2
  have HL := Lib.hid hl
  have HN := Lib.hid (fun (W : World) (hW : Rd W W.heap.size A n (fun j => .int .i64 (zs.getD j 0))) => new_ok A n c zs W hl hW hn h0 hd)
  have HD := Lib.hid (show ∀ k, k < zs.length → ∀ j, j < k → zs.getD j 0 ≠ zs.getD k 0 by rw [hl]; exact hd)
  clear h0 hd hl h1 h2
  go_enter Try.func13, Try.ntmps13
  go_wp2_with fail
  refine (awake_any _).mono ?_
  rintro e w1 ⟨rfl, hb1⟩
  have hr1 := hr.to hb1
  clear hr
  go_wp2_with fail
  refine Calls.mono (HN.out w1 hr1) ?_
  rintro e w2 ⟨rfl, v, hL, hb2⟩
  obtain ⟨p, hp⟩ : ∃ p, p = w1.heap.size := ⟨_, rfl⟩
  have hr2 := hr1.to hb2
  have bb2 := hb1.trans (hb2.mono hb1.size)
  have hwp : w.heap.size ≤ p := by rw [hp]; exact hb1.size
  have hb2' := hb2
  rw [← hp] at hL hb2' ⊢
  have HRP := Lib.hid (hr1.below hb2)
  clear hr1 hb1 hb2 hr2
  have hrp : Rd w2 p A n (fun j => .int .i64 (zs.getD j 0)) := by rw [hp]; exact HRP.out
  clear HRP hb2' hp
  go_wp2_with fail
  refine (list_any hL (by rw [HL.out]; omega)).mono ?_
  rintro e w3 ⟨o, rfl, ho, hb3⟩
  rw [HL.out] at ho
  obtain ⟨B, d, rfl⟩ := own_form ho
  go_wp2
  go_loopw [42] (fun kv wr => ∃ (k : Nat) (ts : List Value), kv = .int .i64 k ∧ k ≤ n ∧ wr.ownsRow w2.heap.size 3 1 (.slice B n d) n ts ∧ Below w2.heap.size w2 wr) (fun kv _ => n - (intOf kv).toNat)
  case atStart => exact ⟨0, _, rfl, Nat.zero_le _, ho, hb3⟩
  case round =>
    clear ho hb3
    obtain ⟨k, ts, rfl, hk, ho, hbr⟩ := hrel
    by_cases hlt : k < n
    · have e1 : decide (k < n) = true := by simpa using hlt
      rcases ho.2 with ⟨hv, h0⟩ | ⟨g, cap, cur, hv, hgb, hrest⟩
      · omega
      · cases hv
        have htl := ho.1
        obtain ⟨old, hold⟩ : ∃ old, ts[k]? = some old := ⟨_, List.getElem?_eq_getElem (by omega)⟩
        have hck := (ho.cellAt k (by omega)).trans hold
        have hfk := ho.frozenAt k
        have hst := Lib.hid (ho.stored k (.int .i64 (-1))).1
        have hbs := Lib.hid (hbr.setCell (p := ⟨g, k, none⟩) hgb (.int .i64 (-1)))
        clear ho hrest hbr htl hold
        go_wp2
        exact ⟨⟨k + 1, _, by go_num, by omega, hst.out, hbs.out⟩, by simp [intOf]; omega⟩
    · have e1 : decide (k < n) = false := by simpa using hlt
      have hL4 := hL.to hbr
      have bb4 := bb2.trans (hbr.mono bb2.size)
      have hrp4 : Rd wr p A n (fun j => .int .i64 (zs.getD j 0)) := hrp.below (hbr.mono (Nat.le_of_lt hL.lt))
      have HDr := Lib.hid (drop_any x hL4 (by rw [HL.out]; omega) HD.out)
      clear hlt hk ho hbr hL bb2 hrp
      go_wp2_with fail
      refine HDr.out.mono ?_
      rintro e w5 ⟨b, v5, rfl, hL5, hK5, hV5⟩
      have bb5 := bb4.trans (hL4.below hK5 hwp)
      have hrp5 : Rd w5 p A n (fun j => .int .i64 (zs.getD j 0)) := hrp4.below (hL4.below hK5 (Nat.le_refl _))
      clear hL4 hK5 hV5 bb4 hrp4 HDr
      have hp5 : p < w5.heap.size := hL5.lt
      go_wp2
      go_loopw [11, 54] (fun sv kv wr => ∃ k : Nat, kv = .int .i64 k ∧ k ≤ n ∧ wr.ownsRow w5.heap.size 3 1 sv (flt (zs.take k) x).length ((flt (zs.take k) x).map iw) ∧ Below w5.heap.size w5 wr) (fun _ kv _ => n - (intOf kv).toNat)
      case atStart => exact ⟨0, rfl, Nat.zero_le _, World.ownsRow_nil _ _ _ _, Below.refl _ _⟩
      case round =>
        clear e1
        obtain ⟨k, rfl, hk, hown, hbr⟩ := hrel
        by_cases hlt : k < n
        · have e1 : decide (k < n) = true := by simpa using hlt
          obtain ⟨ad, rfl, _, hc⟩ := (hrp5.below (hbr.mono (Nat.le_of_lt hp5))) k hlt
          have hc' := hc
          simp only at hc'
          have HT := Lib.hid (flt_take (zs := zs) (x := x) (k := k) (by rw [HL.out]; exact hlt))
          have hfl : (flt (zs.take k) x).length ≤ 256 := Nat.le_trans (List.length_filter_le _ _) (by simp; omega)
          have hs5 := hbr.size
          clear hc
          generalize zs.getD k 0 = y at hc' HT
          generalize flt (zs.take k) x = L at HT hown hfl
          by_cases hy : y = x
          · have HT' := HT.out
            rw [if_pos hy, List.append_nil] at HT'
            have HT2 := Lib.hid HT'
            have e2 : (y != x) = false := by simp [hy]
            clear HT HT' hy
            go_wp2
            exact ⟨⟨k + 1, by go_num, by omega, by rw [HT2.out]; exact hown, hbr⟩, by simp [intOf]; omega⟩
          · have HT' := HT.out
            rw [if_neg hy] at HT'
            have HT2 := Lib.hid HT'
            have e2 : (y != x) = true := by simp [hy]
            clear HT HT' hy
            go_wp2_with (at_builtin; refine wpList_append_own _ rfl _ _ 57 rfl w5.heap.size 3 i0 (.int .i64 0) 1 8 Try.underlying57 hi0 hz0 hz1 hz2 rfl (by decide) _ _ _ rfl (hown.alloc _) ⟨wr.heap.size, 0, none⟩ 1 1 [.int .i64 y] rfl rfl (cell_one_new _ _ _) ?_ ?_ ?_ ?_ ?_)
            · intro u hu; simp at hu; subst hu; rfl
            · unfold maxLen; omega
            · omega
            · simp; omega
            intro v' w7 hown' hgrow _
            have hb7 := app_below hbr hown hgrow
            clear hgrow hown hbr
            go_wp2
            exact ⟨⟨k + 1, by go_num, by omega, by rw [HT2.out, List.length_append, List.map_append]; exact hown', hb7⟩, by simp [intOf]; omega⟩
        · have e1 : decide (k < n) = false := by simpa using hlt
          obtain rfl : k = n := by omega
          rw [List.take_of_length_le (by rw [HL.out]; exact Nat.le_refl _)] at hown
          have hm : (flt zs x).length ≤ 256 := Nat.le_trans (List.length_filter_le _ _) (by rw [HL.out]; omega)
          generalize flt zs x = W at *
          obtain ⟨A9, c9, rfl, hm9, hcm9, hlo9, hrd9⟩ := Rd.own hown (f := fun j => .int .i64 (W.getD j 0)) (fun j hj => zs_at hj)
          have hL6 := hL5.to hbr
          have bb6 := bb5.trans (hbr.mono bb5.size)
          obtain ⟨r0, hr0⟩ : ∃ r0, v5.ownBlock = r0 := ⟨_, rfl⟩
          have HSEP := Lib.hid (show ∀ ad, A9 = some ad → ad.block ≠ p ∧ some ad.block ≠ r0 from fun ad ha => by
            have h9 := hlo9 ad ha
            refine ⟨by omega, fun e => ?_⟩
            rw [← hr0] at e
            have := (hL5.own.lt ad.block e.symm).2
            omega)
          obtain ⟨m, hmm⟩ : ∃ m, m = W.length := ⟨_, rfl⟩
          rw [← hmm] at hrd9 hm9 hm
          rw [← hmm]
          have HM := Lib.hid hmm
          clear hlt hk hown hbr hL5 bb5 hrp5 hlo9 hmm
          go_wp2
          go_loopw [14] (fun sv wq => ∃ (k : Nat) (v' : Value), sv = .int .i64 k ∧ k ≤ m ∧ LineAt wq p v' (W.drop k) ∧ v'.ownBlock = r0 ∧ Rd wq wq.heap.size A9 m (fun j => .int .i64 (W.getD j 0)) ∧ Below w.heap.size w wq) (fun sv _ => m - (intOf sv).toNat)
          case atStart => exact ⟨0, _, rfl, Nat.zero_le _, hL6, hr0, hrd9, bb6⟩
          case round =>
            clear hL6 hr0 hrd9 bb6 e1
            obtain ⟨k, v6, rfl, hk, hL, hV, hrd, bb⟩ := hrel
            have hlen : (W.drop k).length = m - k := by rw [List.length_drop, HM.out]
            obtain ⟨q, hq⟩ : ∃ q, q = m - k := ⟨_, rfl⟩
            have hN := len_any hL
            rw [hlen, ← hq] at hN
            have HN' := Lib.hid hN
            clear hN
            by_cases hlt : k < m
            · have f1 : decide ((0 : Int) < q) = true := by simp; omega
              have f2 : decide (0 < q) = true := by simp; omega
              obtain ⟨t, ht⟩ : ∃ t : Nat, max 0 (min ch q) = (t : Int) := ⟨(max 0 (min ch q)).toNat, by omega⟩
              have g1 := H1.out
              have g2 := H2.out
              have ht1 : 1 ≤ t := by omega
              have htc : (t : Int) ≤ ch := by omega
              have htk : k + t ≤ m := by omega
              have HP := Lib.hid (pop_any ch t (by rw [hlen, ← hq]; exact ht) hL (by rw [hlen]; omega))
              have HT := Lib.hid (show ((W.drop k).take t).length = t by rw [List.length_take, hlen]; omega)
              have hbl := fun w' hK => hL.below (w' := w') hK hwp
              clear hlen hq ht hL
              have f3 : decide ((t : Int) < 1) = false := by simp; omega
              have f4 : decide (ch < (t : Int)) = false := by simp; omega
              have f5 : decide (m < k + t) = false := by simp; omega
              have f6 : decide (t = 0) = false := by simp; omega
              have f7 : decide (k + t ≤ c9) = true := by simp; omega
              have f8 : decide (k < c9) = true := by simp; omega
              have f9 : decide (t < 1) = false := by simp; omega
              go_wp2_with fail
              refine HN'.out.mono ?_
              rintro e w' ⟨rfl, rfl⟩
              go_wp2_with fail
              refine HP.out.mono ?_
              rintro e w8 ⟨o, rfl, v7, ho, hL7, hK7, hV7⟩
              have hrd7 := Rd.keeps hrd hK7 (by rw [hV]; exact HSEP.out)
              have bb7 := bb.trans (hbl w8 hK7)
              obtain ⟨B', d', rfl, _, _, _, hro⟩ := Rd.own ho (f := fun j => .int .i64 (W.getD (k + j) 0)) (fun j hj => by
                rw [List.getElem?_map, List.getElem?_take_of_lt hj, List.getElem?_drop, List.getD_eq_getElem?_getD, List.getElem?_eq_getElem (show k + j < W.length by rw [← HM.out]; omega)]; rfl)
              obtain ⟨ad, rfl, _, _⟩ := hrd7 k hlt
              have hw : Rd w8 w8.heap.size (some (ad.add k)) t (fun j => .int .i64 (W.getD (k + j) 0)) := fun j hj => by
                obtain ⟨ad', e, hb, hc⟩ := hrd7 (k + j) (by omega)
                cases e
                exact ⟨_, rfl, by rw [block_add]; exact hb, by rw [add_add]; exact hc⟩
              have hL7' : LineAt w8 p v7 (W.drop (k + t)) := by
                have e : (W.drop k).drop t = W.drop (k + t) := by rw [List.drop_drop]
                rw [← e]; exact hL7
              have HV := Lib.hid (hV7.trans hV)
              clear hrd hK7 hL7 hV7 hV bb hbl ho
              go_wp2_with fail
              refine (same_ints B' _ t _ _ _ (fun j => W.getD (k + j) 0) w8 hro hw (by omega)).mono ?_
              rintro e w9 ⟨rfl, q9, rfl⟩
              go_wp2
              exact ⟨⟨k + t, v7, by go_num, by omega, hL7'.drewN q9, HV.out, hrd7, below_drewN bb7 q9⟩, by simp [intOf]; omega⟩
            · have f1 : decide ((0 : Int) < q) = false := by simp; omega
              obtain rfl : k = m := by omega
              clear hrd hV hL
              have hq0 : q = 0 := by omega
              clear hq hlen
              subst hq0
              have HN0 := Lib.hid (show Calls Try.prog 54 #[.pointer (some ⟨p, 0, none⟩)] wr fun e w' => e = .returned (.int .i64 0) ∧ wr = w' from HN'.out)
              clear f1 HN'
              go_wp2_with fail
              refine HN0.out.mono ?_
              rintro e w' ⟨rfl, rfl⟩
              go_wp2_with fail
              refine HN0.out.mono ?_
              rintro e w' ⟨rfl, rfl⟩
              go_wp2
              go_ret
              exact ⟨by simp, bb⟩

theorem order_s1 (A : Option Addr) (n c : Nat) (ch x : Int) (w : World) (h : ch < 1) :
    Calls Try.prog 13 #[.slice A n c, .int .i64 ch, .int .i64 x] w fun e w' => e = .returned (.bool true) ∧ Below w.heap.size w w' := by
  have d1 : decide (ch < 1) = true := by simp; omega
  go_enter Try.func13, Try.ntmps13
  go_wp2_with fail
  refine (awake_any _).mono ?_
  rintro e w1 ⟨rfl, hb⟩
  go_wp2
  go_ret
  exact ⟨rfl, hb⟩

theorem order_s2 (A : Option Addr) (n c : Nat) (ch x : Int) (w : World) (_h0 : ¬ ch < 1) (h : 100 < ch) :
    Calls Try.prog 13 #[.slice A n c, .int .i64 ch, .int .i64 x] w fun e w' => e = .returned (.bool true) ∧ Below w.heap.size w w' := by
  have d1 : decide (ch < 1) = false := by simp; omega
  have d2 : decide ((100 : Int) < ch) = true := by simp; omega
  go_enter Try.func13, Try.ntmps13
  go_wp2_with fail
  refine (awake_any _).mono ?_
  rintro e w1 ⟨rfl, hb⟩
  go_wp2
  go_ret
  exact ⟨rfl, hb⟩

theorem order_s3 (A : Option Addr) (n c : Nat) (ch x : Int) (w : World) (_h0 : ¬ ch < 1) (_h' : ¬ 100 < ch) (h : 256 < n) :
    Calls Try.prog 13 #[.slice A n c, .int .i64 ch, .int .i64 x] w fun e w' => e = .returned (.bool true) ∧ Below w.heap.size w w' := by
  have d1 : decide (ch < 1) = false := by simp; omega
  have d2 : decide ((100 : Int) < ch) = false := by simp; omega
  have d3 : decide ((256 : Int) < n) = true := by simp; omega
  go_enter Try.func13, Try.ntmps13
  go_wp2_with fail
  refine (awake_any _).mono ?_
  rintro e w1 ⟨rfl, hb⟩
  go_wp2
  go_ret
  exact ⟨rfl, hb⟩

theorem order_neg (A : Option Addr) (n c : Nat) (ch x : Int) (w : World) (hn : n ≤ 256) (h1 : 1 ≤ ch) (h2 : ch ≤ 100)
    (hN : ∀ W, Below w.heap.size w W → Calls Try.prog 42 #[.slice A n c] W fun e w' => e = .returned (.tuple #[.pointer none, .int .i64 2]) ∧ Below W.heap.size W w') :
    Calls Try.prog 13 #[.slice A n c, .int .i64 ch, .int .i64 x] w fun e w' => e = .returned (.bool true) ∧ Below w.heap.size w w' := by
  have d1 : decide (ch < 1) = false := by simp; omega
  have d2 : decide ((100 : Int) < ch) = false := by simp; omega
  have d3 : decide ((256 : Int) < n) = false := by simp; omega
  have HN := Lib.hid hN
  clear hN h1 h2 hn
  go_enter Try.func13, Try.ntmps13
  go_wp2_with fail
  refine (awake_any _).mono ?_
  rintro e w1 ⟨rfl, hb⟩
  go_wp2_with fail
  refine Calls.mono (HN.out w1 hb) ?_
  rintro e w2 ⟨rfl, hb2⟩
  have hbb := hb.trans (hb2.mono hb.size)
  go_wp2
  go_ret
  exact ⟨by simp, hbb⟩

theorem order_twice (A : Option Addr) (n c : Nat) (ch x : Int) (w : World) (hn : n ≤ 256) (h1 : 1 ≤ ch) (h2 : ch ≤ 100)
    (hN : ∀ W, Below w.heap.size w W → Calls Try.prog 42 #[.slice A n c] W fun e w' => e = .returned (.tuple #[.pointer none, .int .i64 231]) ∧ Below W.heap.size W w') :
    Calls Try.prog 13 #[.slice A n c, .int .i64 ch, .int .i64 x] w fun e w' => e = .returned (.bool true) ∧ Below w.heap.size w w' := by
  have d1 : decide (ch < 1) = false := by simp; omega
  have d2 : decide ((100 : Int) < ch) = false := by simp; omega
  have d3 : decide ((256 : Int) < n) = false := by simp; omega
  have HN := Lib.hid hN
  clear hN h1 h2 hn
  go_enter Try.func13, Try.ntmps13
  go_wp2_with fail
  refine (awake_any _).mono ?_
  rintro e w1 ⟨rfl, hb⟩
  go_wp2_with fail
  refine Calls.mono (HN.out w1 hb) ?_
  rintro e w2 ⟨rfl, hb2⟩
  have hbb := hb.trans (hb2.mono hb.size)
  go_wp2
  go_ret
  exact ⟨by simp, hbb⟩

theorem order_law (A : Option Addr) (n c : Nat) (ch x : Int) (zs : List Int) (w : World) (hl : zs.length = n) (hr : Rd w w.heap.size A n (fun j => .int .i64 (zs.getD j 0))) (hb : ∀ j, j < n → zs.getD j 0 ≤ 9223372036854775807) :
    Calls Try.prog 13 #[.slice A n c, .int .i64 ch, .int .i64 x] w fun e w' => e = .returned (.bool true) ∧ Below w.heap.size w w' := by
  by_cases h1 : ch < 1
  · exact order_s1 A n c ch x w h1
  by_cases h2 : 100 < ch
  · exact order_s2 A n c ch x w h1 h2
  by_cases h3 : 256 < n
  · exact order_s3 A n c ch x w h1 h2 h3
  rcases classify zs n with ⟨m, hm, h4, h5⟩ | ⟨h4, m, hm, h5, h6⟩ | ⟨h4, h5⟩
  · exact order_neg A n c ch x w (by omega) (by omega) (by omega) (fun W hW => new_neg A n c m zs W hl (hr.to hW) (by omega) hm h4 h5)
  · exact order_twice A n c ch x w (by omega) (by omega) (by omega) (fun W hW => new_twice A n c m zs W hl (hr.to hW) (by omega) hm (fun j hj => ⟨h4 j hj, hb j hj⟩) h5 h6)
  · exact order_good A n c ch x zs w hl hr (by omega) (by omega) (by omega) (fun j hj => ⟨h4 j hj, hb j hj⟩) h5
end Go.Proofs.Ytblpekeikmblmaa.LineW
