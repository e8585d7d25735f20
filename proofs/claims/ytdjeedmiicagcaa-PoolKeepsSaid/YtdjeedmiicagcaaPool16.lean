/- The walks of the pool, sixteenth part: the law PoolKeeps. Conditions: rows are read rightly. -/
import Derived.Test.YtdjeedmiicagcaaPool15
import Derived.BigQuiet
namespace Go.Proofs.Ytdjeedmiicagcaa.PoolW
open Go.RowKit
open Go.Proofs.Ytdjeedmiicagcaa.Words Go.Proofs.Ytdjeedmiicagcaa.NatW Go.Proofs.Ytdjeedmiicagcaa.PurseW

set_option maxRecDepth 100000 in
theorem keeps_big (A : Option Addr) (n c : Nat) (now : Int) (w : World) (h : 60 < n) :
    Calls Try.prog 13 #[.slice A n c, .int .i64 now] w fun e w' => e = .returned (.bool true) ∧ Below w.heap.size w w' := by
  have d1 : decide ((60 : Int) < n) = true := by simp; omega
  go_enter Try.func13, Try.ntmps13
  go_wp2_with fail
  refine (awake18 w).mono ?_
  rintro e w1 ⟨rfl, hb1⟩
  go_wp2
  go_ret
  exact ⟨rfl, hb1⟩
/-- what the loop keeps of the dues -/
structure Gd (k : Nat) (ds : List Du) : Prop where
  len : ds.length ≤ k
  tot : tot ds ≤ k * 1125899906842624
  srt : srt ds
  pos : pos ds
theorem tot_nil : tot [] ≤ 0 * 1125899906842624 := by simp [tot]
theorem Gd.nil : Gd 0 [] := ⟨Nat.le_refl _, tot_nil, List.Pairwise.nil, fun x hx => by cases hx⟩
theorem tot_more {a k : Nat} (h : a ≤ k * 1125899906842624) : a ≤ (k + 1) * 1125899906842624 := Nat.le_trans h (Nat.mul_le_mul_right _ (Nat.le_succ k))
theorem Gd.skip {k : Nat} {ds : List Du} (h : Gd k ds) : Gd (k + 1) ds := ⟨by have := h.len; omega, tot_more h.tot, h.srt, h.pos⟩
theorem Gd.next {k : Nat} {ds es : List Du} {d : Du} (h : Gd k ds) (hd : d.am ≤ 1125899906842624) (hx : Nxt ds d es) : Gd (k + 1) es :=
  ⟨by have := h.len; have := hx.2.2.2; omega, by have := h.tot; have := hx.1; omega, hx.2.1, hx.2.2.1⟩
theorem srt_at {ds : List Du} (h : srt ds) {k : Nat} {x y : Du} (hx : ds[k]? = some x) (hy : ds[k + 1]? = some y) : x.ti ≤ y.ti := by
  obtain ⟨h1, e1⟩ := List.getElem?_eq_some_iff.1 hx
  obtain ⟨h2, e2⟩ := List.getElem?_eq_some_iff.1 hy
  have := (List.pairwise_iff_getElem.1 h) k (k + 1) (by simpa using h1) (by simpa using h2) (by omega)
  simpa [e1, e2] using this
set_option maxHeartbeats 4000000 in
set_option maxRecDepth 100000 in
theorem keeps_law (A : Option Addr) (n c : Nat) (es : List Du) (now : Int) (w : World) (h : SRow w w.heap.size A n 3 (flat Du.enc es)) :
    Calls Try.prog 13 #[.slice A n c, .int .i64 now] w fun e w' => e = .returned (.bool true) ∧ Below w.heap.size w w' := by
  by_cases hb : 60 < n
  · exact keeps_big A n c now w hb
  have hn : n ≤ 60 := by omega
  have d1 : decide ((60 : Int) < n) = false := by simp; omega
  have HL := Lib.hid (h.len Du.len (by omega))
  have HR := Lib.hid (fun (W : World) (hb : Below w.heap.size w W) => h.below hb)
  clear hb h
  go_enter Try.func13, Try.ntmps13
  go_wp2_with fail
  refine (awake18 w).mono ?_
  rintro e w1 ⟨rfl, hb1⟩
  go_wp2
  go_loopw [5, 31] (fun dv kv wr => ∃ (k : Nat) (A' : Option Addr) (c' : Nat) (ds : List Du), kv = .int .i64 k ∧ k ≤ n ∧ dv = .slice A' ds.length c' ∧ SRow wr wr.heap.size A' ds.length 3 (flat Du.enc ds) ∧ (A' = none → ds.length = 0 ∧ c' = 0) ∧ Gd k ds ∧ Below w.heap.size w wr) (fun _ kv _ => n - (intOf kv).toNat)
  case atStart => exact ⟨0, none, 0, [], rfl, Nat.zero_le _, rfl, SRow.nil _ _ _ _, fun _ => ⟨rfl, rfl⟩, Gd.nil, hb1⟩
  case round =>
    obtain ⟨k, A', c', ds, rfl, hk, rfl, hr, hA', hg, hbr⟩ := hrel
    by_cases hlt : k < n
    · have e1 : decide (k < n) = true := by simpa using hlt
      obtain ⟨d, hd⟩ : ∃ d, es[k]? = some d := ⟨_, List.getElem?_eq_getElem (by rw [HL.out]; exact hlt)⟩
      obtain ⟨ad, rfl, _, hcs⟩ := (HR.out wr hbr).cell Du.len hlt hd (by omega)
      have hc0 : wr.cell? (ad.add (k * 3)) = some (.int .i64 d.ac) := by have := hcs 0 _ rfl; rwa [Words.add_zero] at this
      have hc1 : wr.cell? ⟨(ad.add (k * 3)).block, (ad.add (k * 3)).off + 1, none⟩ = some (.int .i64 d.ti) := hcs 1 _ rfl
      have hc2 : wr.cell? ⟨(ad.add (k * 3)).block, (ad.add (k * 3)).off + 2, none⟩ = some (.int .u64 d.am) := hcs 2 _ rfl
      have hs := hbr.size
      have hal : Below wr.heap.size wr (wr.alloc (.cells #[.int .i64 d.ac, .int .i64 d.ti, .int .u64 d.am] 96)) := (Below.refl _ _).alloc (Nat.le_refl _) _
      have hb2 := hbr.alloc hs (.cells #[.int .i64 d.ac, .int .i64 d.ti, .int .u64 d.am] 96)
      by_cases hda : d.am ≤ 1125899906842624
      · have e2 : decide ((1125899906842624 : Int) < d.am) = false := by rw [decide_eq_false_iff_not]; omega
        have hr2 := hr.to hal
        obtain ⟨W2, hW2⟩ : ∃ W2, W2 = wr.alloc (.cells #[.int .i64 d.ac, .int .i64 d.ti, .int .u64 d.am] 96) := ⟨_, rfl⟩
        have hz : wr.heap.size < W2.heap.size := by rw [hW2]; simp
        have b0 : W2.cell? ⟨wr.heap.size, 0, none⟩ = some (.int .i64 d.ac) := by rw [hW2, World.cell?_alloc_at _ _ _ _ rfl]; rfl
        have b1 : W2.cell? ⟨wr.heap.size, 1, none⟩ = some (.int .i64 d.ti) := by rw [hW2, World.cell?_alloc_at _ _ _ _ rfl]; rfl
        have b2 : W2.cell? ⟨wr.heap.size, 2, none⟩ = some (.int .u64 d.am) := by rw [hW2, World.cell?_alloc_at _ _ _ _ rfl]; rfl
        rw [← hW2] at hr2 hb2
        have HW2 := Lib.hid hW2
        have hgl := hg.len
        have hgt := hg.tot
        have HG := Lib.hid hg
        obtain ⟨T, hT⟩ : ∃ T, T = tot ds := ⟨_, rfl⟩
        have HS := Lib.hid (psum_any none A' 0 0 ds.length c' [] ds W2 (SRow.nil _ _ _ _) hr2 (by omega) (by omega) (wd_tot (by omega)) (T, 0) (by rw [hT]; exact sumr_tot (by omega)))
        have HT := Lib.hid hT
        clear hcs hd hr hW2 hal hg hT
        go_wp2_with fail
        rw [← HW2.out]
        refine HS.out.mono ?_
        rintro e w3 ⟨rfl, hb3⟩
        have hs3 := hb3.size
        have c0 := (hb3.cell (p := ⟨wr.heap.size, 0, none⟩) hz).trans b0
        have c1 := (hb3.cell (p := ⟨wr.heap.size, 1, none⟩) hz).trans b1
        have c2 := (hb3.cell (p := ⟨wr.heap.size, 2, none⟩) hz).trans b2
        have hr3 := hr2.to hb3
        have hz3 : wr.heap.size < w3.heap.size := Nat.lt_of_lt_of_le hz hs3
        have hb4 := hb2.trans (hb3.mono hb2.size)
        have HO := Lib.hid (owe_any A' ds.length c' ds d w3 hr3 (by omega) hA' hda (by omega) HG.out.srt HG.out.pos)
        clear b0 b1 b2 hb3 hb2 hr2 HS
        go_wp2_with fail
        refine HO.out.mono ?_
        rintro e w4 hE
        have HRk := Lib.hid hr3
        rcases hE with ⟨z, hz0, rfl, hb5⟩ | ⟨ds2, hnx, v, rfl, hown, hb5⟩
        · have e3 : ((z : Int) == 0) = false := by rw [beq_eq_false_iff_ne]; exact hz0
          have hr5 := hr3.to hb5
          have hb6 := hb4.trans (hb5.mono hb4.size)
          have HX := Lib.hid (And.intro hr5 (And.intro hA' HG.out.skip))
          clear hr3 hr5 HO hb5 hb4 c0 c1 c2
          go_wp2
          exact ⟨⟨k + 1, A', c', ds, by go_num, by omega, rfl, HX.out.1, HX.out.2.1, HX.out.2.2, hb6⟩, by simp [intOf]; omega⟩
        · have f0 := (hb5.cell (p := ⟨wr.heap.size, 0, none⟩) hz3).trans c0
          have f1 := (hb5.cell (p := ⟨wr.heap.size, 1, none⟩) hz3).trans c1
          have f2 := (hb5.cell (p := ⟨wr.heap.size, 2, none⟩) hz3).trans c2
          have hs5 := hb5.size
          have hz4 : wr.heap.size < w4.heap.size := Nat.lt_of_lt_of_le hz3 hs5
          have hb6 := hb4.trans (hb5.mono hb4.size)
          obtain ⟨A2, c2', rfl, _, _, _, hr5⟩ := SRow.own hown
          have hA2 := own_hA hown
          have hgn := HG.out.next hda hnx
          have hgl2 := hgn.len
          have hgt2 := hgn.tot
          obtain ⟨S, hS⟩ : ∃ S, S = tot ds2 := ⟨_, rfl⟩
          have hsum : S = T + d.am := by rw [hS, HT.out]; exact hnx.1
          have HX := Lib.hid (And.intro hA2 hgn)
          have HS := Lib.hid (psum_any none A2 0 0 ds2.length c2' [] ds2 w4 (SRow.nil _ _ _ _) hr5 (by omega) (by omega) (wd_tot (by omega)) (S, 0) (by rw [hS]; exact sumr_tot (by omega)))
          have hdT : IntKind.u64.wrap ((S : Int) - (T : Int)) = (d.am : Int) := (IntWalk.u64_in _ (by omega)).trans (by omega)
          have e4 : ((d.am : Int) == (d.am : Int)) = true := by simp
          have e5 : ((d.am : Int) != (d.am : Int)) = false := by simp
          clear hr3 HO hb5 hb4 c0 c1 c2 hown hA2 hgn hsum hnx hS
          go_wp2_with fail
          refine HS.out.mono ?_
          rintro e w5 ⟨rfl, hb7⟩
          have g2 := (hb7.cell (p := ⟨wr.heap.size, 2, none⟩) hz4).trans f2
          have hr6 := hr5.to hb7
          have hb8 := hb6.trans (hb7.mono hb6.size)
          have HR6 := Lib.hid hr6
          clear f0 f1 f2 hr5 hr6 hb7 hb6 HS
          go_wp2
          exact ⟨⟨k + 1, A2, c2', ds2, by go_num, by omega, rfl, HR6.out, HX.out.1, HX.out.2, hb8⟩, by simp [intOf]; omega⟩
      · have e2 : decide ((1125899906842624 : Int) < d.am) = true := by rw [decide_eq_true_iff]; omega
        clear hcs hd hr hal hg
        go_wp2
        go_ret
        exact ⟨rfl, hb2⟩
    · have e1 : decide (k < n) = false := by simpa using hlt
      have hgl := hg.len
      have hgt := hg.tot
      have HG := Lib.hid hg
      obtain ⟨wo, rfl⟩ : ∃ wo : World, wo = wr := ⟨_, rfl⟩
      have HRd := Lib.hid (fun (W : World) (hb : Below wo.heap.size wo W) => hr.below hb)
      have HHr := Lib.hid hr
      clear hr hg
      go_wp2
      go_loopw [74] (fun kv wr => ∃ j : Nat, kv = .int .i64 j ∧ j ≤ ds.length ∧ Below wo.heap.size wo wr) (fun kv _ => ds.length - (intOf kv).toNat)
      case atStart => exact ⟨0, rfl, Nat.zero_le _, Below.refl _ _⟩
      case round =>
        obtain ⟨j, rfl, hj, hbj⟩ := hrel
        by_cases hjl : j < ds.length
        · have g1 : decide (j < ds.length) = true := by simpa using hjl
          obtain ⟨d, hd⟩ : ∃ d, ds[j]? = some d := ⟨_, List.getElem?_eq_getElem hjl⟩
          have HP := Lib.hid (fun (q : Nat) (x : Du) (hq : ds[q]? = some x) => (HRd.out wr hbj).cell Du.len (List.getElem?_eq_some_iff.1 hq).1 hq (by omega))
          obtain ⟨ad, rfl, hadb, hcs⟩ := HP.out j d hd
          have hc0 : wr.cell? (ad.add (j * 3)) = some (.int .i64 d.ac) := by have := hcs 0 _ rfl; rwa [Words.add_zero] at this
          have hc1 : wr.cell? ⟨(ad.add (j * 3)).block, (ad.add (j * 3)).off + 1, none⟩ = some (.int .i64 d.ti) := hcs 1 _ rfl
          have hc2 : wr.cell? ⟨(ad.add (j * 3)).block, (ad.add (j * 3)).off + 2, none⟩ = some (.int .u64 d.am) := hcs 2 _ rfl
          have hsj := hbj.size
          have hbj2 := hbj.alloc hsj (.cells #[.int .i64 d.ac, .int .i64 d.ti, .int .u64 d.am] 96)
          have g2 : ((d.am : Int) == 0) = false := by
            have := HG.out.pos d (List.mem_of_getElem? hd)
            rw [beq_eq_false_iff_ne]; omega
          rcases Nat.eq_zero_or_pos j with h0 | h0
          · have g3 : decide (0 < j) = false := by simpa using h0
            clear hcs hd h0
            go_wp2
            go_quiet (fail)
            go_wp2
            exact ⟨⟨j + 1, by go_num, by omega, below_drewN hbj2 _⟩, by simp [intOf]; omega⟩
          · have g3 : decide (0 < j) = true := by simpa using h0
            obtain ⟨i, hi⟩ : ∃ i, j = i + 1 := ⟨j - 1, by omega⟩
            obtain ⟨x, hx⟩ : ∃ x, ds[i]? = some x := ⟨_, List.getElem?_eq_getElem (by omega)⟩
            obtain ⟨ad', hh, _, hcx⟩ := HP.out i x hx
            injection hh with hh
            subst hh
            have hx1 : wr.cell? ⟨(ad.add (i * 3)).block, (ad.add (i * 3)).off + 1, none⟩ = some (.int .i64 x.ti) := hcx 1 _ rfl
            have g4 : decide (d.ti < x.ti) = false := by
              have := srt_at HG.out.srt hx (by rw [← hi]; exact hd)
              rw [decide_eq_false_iff_not]; omega
            have g5 : IntKind.i64.wrap ((j : Int) - 1) = (i : Int) := (IntWalk.i64_in _ (by omega)).trans (by omega)
            have hil : i < ds.length := by omega
            have hib : ad.block < wr.heap.size := by omega
            have hx2 : (wr.alloc (.cells #[.int .i64 d.ac, .int .i64 d.ti, .int .u64 d.am] 96)).cell? ⟨(ad.add (i * 3)).block, (ad.add (i * 3)).off + 1, none⟩ = some (.int .i64 x.ti) := by
              have hal : Below wr.heap.size wr (wr.alloc (.cells #[.int .i64 d.ac, .int .i64 d.ti, .int .u64 d.am] 96)) := (Below.refl _ _).alloc (Nat.le_refl _) _
              have hblk : (ad.add (i * 3)).block = ad.block := by unfold Addr.add; split <;> rfl
              rw [hal.cell (by show (ad.add (i * 3)).block < _; rw [hblk]; exact hib), hx1]
            clear hcs hd hcx hx hi hx1
            go_wp2
            go_quiet (fail)
            go_wp2
            exact ⟨⟨j + 1, by go_num, by omega, below_drewN hbj2 _⟩, by simp [intOf]; omega⟩
        · have g1 : decide (j < ds.length) = false := by simpa using hjl
          have hrj := HHr.out.to hbj
          have hsj := hbj.size
          have hbw := hbr.trans (hbj.mono hbr.size)
          have HRi := Lib.hid (ripe_any A' ds.length c' ds now wr hrj (by omega))
          have hrt := ripe_tot now ds
          have hrl := ripe_len now ds
          clear hj hjl
          go_wp2_with fail
          refine HRi.out.mono ?_
          rintro e w2 ⟨v, u, rfl, hv, hu, hb2⟩
          have hr2 := hrj.to hb2
          have hbw2 := hbw.trans (hb2.mono hbw.size)
          obtain ⟨Av, cv, rfl, _, _, _, hrv⟩ := SRow.own hv
          obtain ⟨Au, cu, rfl, _, _, _, hru⟩ := SRow.own hu
          obtain ⟨la, hla⟩ : ∃ la, la = (rp now ds).length := ⟨_, rfl⟩
          obtain ⟨lb, hlb⟩ : ∃ lb, lb = (rs now ds).length := ⟨_, rfl⟩
          obtain ⟨m, hm⟩ : ∃ m, m = ds.length := ⟨_, rfl⟩
          obtain ⟨Ta, hTa⟩ : ∃ Ta, Ta = tot (rp now ds) := ⟨_, rfl⟩
          obtain ⟨Tb, hTb⟩ : ∃ Tb, Tb = tot (rs now ds) := ⟨_, rfl⟩
          obtain ⟨T, hT⟩ : ∃ T, T = tot ds := ⟨_, rfl⟩
          have HSa := Lib.hid (psum_any none Av 0 0 la cv [] (rp now ds) w2 (SRow.nil _ _ _ _) (by rw [hla]; exact hrv) (by omega) (by omega) (wd_tot (by omega)) (Ta, 0) (by rw [hTa]; exact sumr_tot (by omega)))
          have HSb := Lib.hid (fun (W : World) (hb : Below w2.heap.size w2 W) => psum_any none Au 0 0 lb cu [] (rs now ds) W (SRow.nil _ _ _ _) (by rw [hlb]; exact hru.to hb) (by omega) (by omega) (wd_tot (by omega)) (Tb, 0) (by rw [hTb]; exact sumr_tot (by omega)))
          have HSc := Lib.hid (fun (W : World) (hb : Below w2.heap.size w2 W) => psum_any none A' 0 0 m c' [] ds W (SRow.nil _ _ _ _) (by rw [hm]; exact hr2.to hb) (by omega) (by omega) (wd_tot (by omega)) (T, 0) (by rw [hT]; exact sumr_tot (by omega)))
          rw [← hm, ← hla, ← hlb]
          have s1 : IntKind.u64.wrap ((Ta : Int) + (Tb : Int)) = (T : Int) := (IntWalk.u64_in _ (by omega)).trans (by omega)
          have s2 : IntKind.i64.wrap ((la : Int) + (lb : Int)) = (m : Int) := (IntWalk.i64_in _ (by omega)).trans (by omega)
          have HV := Lib.hid (fun (W : World) (hb : Below w2.heap.size w2 W) (q : Nat) (x : Du) (hq : (rp now ds)[q]? = some x) => (hrv.to hb).cell Du.len (List.getElem?_eq_some_iff.1 hq).1 hq (by omega))
          have HU := Lib.hid (fun (W : World) (hb : Below w2.heap.size w2 W) (q : Nat) (x : Du) (hq : (rs now ds)[q]? = some x) => (hru.to hb).cell Du.len (List.getElem?_eq_some_iff.1 hq).1 hq (by omega))
          have HLb60 := Lib.hid (show la ≤ 60 by omega)
          have HLa := Lib.hid hla
          have HLb := Lib.hid hlb
          clear hla hlb hm hTa hTb hT hrv hru hr2 hv hu hrj hb2 hbw hrt hrl hgl hgt
          go_wp2_with fail
          refine HSa.out.mono ?_
          rintro e w3 ⟨rfl, hb3⟩
          go_wp2_with fail
          refine (HSb.out w3 hb3).mono ?_
          rintro e w4 ⟨rfl, hb4⟩
          have hb4' := hb3.trans (hb4.mono hb3.size)
          go_wp2_with fail
          refine (HSc.out w4 hb4').mono ?_
          rintro e w5 ⟨rfl, hb5⟩
          have hb5' := hb4'.trans (hb5.mono hb4'.size)
          have hbe := hbw2.trans (hb5'.mono hbw2.size)
          have r1 : ((T : Int) == (T : Int)) = true := by simp
          have r2 : ((m : Int) == (m : Int)) = true := by simp
          rcases Nat.eq_zero_or_pos la with h1 | h1 <;> rcases Nat.eq_zero_or_pos lb with h2 | h2
          · have q1 : ((la : Int) == 0) = true := by rw [beq_iff_eq]; omega
            have p1 : ((lb : Int) == 0) = true := by rw [beq_iff_eq]; omega
            clear h1 h2
            go_wp2
            go_ret
            exact ⟨rfl, hbe⟩
          · have q1 : ((la : Int) == 0) = true := by rw [beq_iff_eq]; omega
            have p1 : ((lb : Int) == 0) = false := by rw [beq_eq_false_iff_ne]; omega
            obtain ⟨y, hy⟩ : ∃ y, (rs now ds)[0]? = some y := ⟨_, List.getElem?_eq_getElem (by rw [← HLb.out]; omega)⟩
            obtain ⟨au, rfl, _, hcy⟩ := HU.out w5 hb5' 0 y hy
            have hy1 : w5.cell? ⟨au.block, au.off + 1, none⟩ = some (.int .i64 y.ti) := by have := hcy 1 _ rfl; rw [Nat.zero_mul, Words.add_zero] at this; exact this
            have p3 : 0 < lb := h2
            have p2 : decide (now < y.ti) = true := by rw [decide_eq_true_iff]; exact rs_gt hy
            clear hcy hy
            clear h1 h2
            go_wp2
            go_ret
            exact ⟨rfl, hbe⟩
          · have q1 : ((la : Int) == 0) = false := by rw [beq_eq_false_iff_ne]; omega
            obtain ⟨i, hi⟩ : ∃ i, la = i + 1 := ⟨la - 1, by omega⟩
            obtain ⟨x, hx⟩ : ∃ x, (rp now ds)[i]? = some x := ⟨_, List.getElem?_eq_getElem (by rw [← HLa.out]; omega)⟩
            obtain ⟨av, rfl, _, hcx⟩ := HV.out w5 hb5' i x hx
            have hx1 : w5.cell? ⟨(av.add (i * 3)).block, (av.add (i * 3)).off + 1, none⟩ = some (.int .i64 x.ti) := hcx 1 _ rfl
            have q2 : decide (x.ti ≤ now) = true := by rw [decide_eq_true_iff]; exact rp_le hx
            have q3 : IntKind.i64.wrap ((la : Int) - 1) = (i : Int) := (IntWalk.i64_in _ (by have := HLb60.out; omega)).trans (by omega)
            have hil : i < la := by omega
            clear hcx hx hi
            have p1 : ((lb : Int) == 0) = true := by rw [beq_iff_eq]; omega
            clear h1 h2
            go_wp2
            go_ret
            exact ⟨rfl, hbe⟩
          · have q1 : ((la : Int) == 0) = false := by rw [beq_eq_false_iff_ne]; omega
            obtain ⟨i, hi⟩ : ∃ i, la = i + 1 := ⟨la - 1, by omega⟩
            obtain ⟨x, hx⟩ : ∃ x, (rp now ds)[i]? = some x := ⟨_, List.getElem?_eq_getElem (by rw [← HLa.out]; omega)⟩
            obtain ⟨av, rfl, _, hcx⟩ := HV.out w5 hb5' i x hx
            have hx1 : w5.cell? ⟨(av.add (i * 3)).block, (av.add (i * 3)).off + 1, none⟩ = some (.int .i64 x.ti) := hcx 1 _ rfl
            have q2 : decide (x.ti ≤ now) = true := by rw [decide_eq_true_iff]; exact rp_le hx
            have q3 : IntKind.i64.wrap ((la : Int) - 1) = (i : Int) := (IntWalk.i64_in _ (by have := HLb60.out; omega)).trans (by omega)
            have hil : i < la := by omega
            clear hcx hx hi
            have p1 : ((lb : Int) == 0) = false := by rw [beq_eq_false_iff_ne]; omega
            obtain ⟨y, hy⟩ : ∃ y, (rs now ds)[0]? = some y := ⟨_, List.getElem?_eq_getElem (by rw [← HLb.out]; omega)⟩
            obtain ⟨au, rfl, _, hcy⟩ := HU.out w5 hb5' 0 y hy
            have hy1 : w5.cell? ⟨au.block, au.off + 1, none⟩ = some (.int .i64 y.ti) := by have := hcy 1 _ rfl; rw [Nat.zero_mul, Words.add_zero] at this; exact this
            have p3 : 0 < lb := h2
            have p2 : decide (now < y.ti) = true := by rw [decide_eq_true_iff]; exact rs_gt hy
            clear hcy hy
            clear h1 h2
            go_wp2
            go_ret
            exact ⟨rfl, hbe⟩
end Go.Proofs.Ytdjeedmiicagcaa.PoolW
