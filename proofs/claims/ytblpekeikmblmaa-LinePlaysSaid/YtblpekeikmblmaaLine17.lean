/- The walks of the line, seventeenth part: LinePlays. Conditions: rows are read rightly. Printed by gen_line17.py. -/
import Derived.Test.YtblpekeikmblmaaLine16
namespace Go.Proofs.Ytblpekeikmblmaa.LineW
open Go.RowKit
open Go.Proofs.Ytblpekeikmblmaa.Words

theorem Ov.drewN {wr : World} {p : Nat} {v : Value} {ob : Nat} {x : Int} (h : Ov wr p v ob x) (q : Nat) : Ov (wr.drewN q) p v ob x := ⟨h.lt, h.np, h.nv, h.cell⟩
theorem St.drewN {w0 wr : World} {p n : Nat} {v : Value} {A : Option Addr} {zs : List Int} (h : St w0 wr p v A n zs) (q : Nat) : St w0 (wr.drewN q) p v A n zs :=
  ⟨h.L.drewN q, h.ln, h.le, h.nd, h.R, h.sep, h.wp, below_drewN h.bb q⟩
/-- what a step asks for: kinds and numbers -/
def OpsAt (w : World) (B : Option Addr) (n : Nat) (ks xs : Nat → Int) : Prop :=
  ∀ i, i < n → ∃ ad, B = some ad ∧ ad.block < w.heap.size ∧ w.cell? (ad.add (i * 2)) = some (.int .i64 (ks i)) ∧ w.cell? ((ad.add (i * 2)).add 1) = some (.int .i64 (xs i))
theorem OpsAt.below {w w' : World} {B : Option Addr} {n : Nat} {ks xs : Nat → Int} (h : OpsAt w B n ks xs) (hb : Below w.heap.size w w') : OpsAt w' B n ks xs := fun i hi => by
  obtain ⟨ad, e, hl, h1, h2⟩ := h i hi
  exact ⟨ad, e, Nat.lt_of_lt_of_le hl hb.size, (hb.cell (by rw [block_add]; exact hl)).trans h1, (hb.cell (by rw [block_add, block_add]; exact hl)).trans h2⟩
set_option maxHeartbeats 4000000 in
set_option maxRecDepth 100000 in
theorem plays_good (A : Option Addr) (n c : Nat) (Bo : Option Addr) (no co : Nat) (zs : List Int) (ks xs : Nat → Int) (w : World) (hl : zs.length = n) (hr : Rd w w.heap.size A n (fun j => .int .i64 (zs.getD j 0))) (hn : n ≤ 256) (hnc : n ≤ c)
    (hno : no ≤ 100) (hops : OpsAt w Bo no ks xs) (h0 : ∀ j, j < n → 0 ≤ zs.getD j 0 ∧ zs.getD j 0 ≤ 9223372036854775807) (hd : ∀ k, k < n → ∀ j, j < k → zs.getD j 0 ≠ zs.getD k 0) :
    Calls Try.prog 11 #[.slice A n c, .slice Bo no co] w fun e w' => e = .returned (.bool true) ∧ Below w.heap.size w w' := by
  have d1 : decide ((400 : Int) < n) = false := by simp; omega
  have d2 : decide ((100 : Int) < no) = false := by simp; omega
  have HN := Lib.hid (fun (W : World) (hW : Rd W W.heap.size A n (fun j => .int .i64 (zs.getD j 0))) => new_ok A n c zs W hl hW hn h0 hd)
  have HW := Lib.hid (fun (W : World) (hW : Rd W W.heap.size A n (fun j => .int .i64 (zs.getD j 0))) => wrong_any A n c 0 zs W hl hW hnc (by omega)
    (fun ⟨j, hj, h⟩ => by have := (h0 j hj).1; omega) (fun _ ⟨k, hk, j, hj, h⟩ => absurd h (hd k hk j hj)) (fun _ _ => by rw [if_neg (by omega)]))
  have HL := Lib.hid hl
  have HD := Lib.hid (show ∀ k, k < zs.length → ∀ j, j < k → zs.getD j 0 ≠ zs.getD k 0 by rw [hl]; exact hd)
  have HO := Lib.hid hops
  clear h0 hd hl hops
  go_enter Try.func11, Try.ntmps11
  go_wp2_with fail
  refine (awake_any _).mono ?_
  rintro e w1 ⟨rfl, hb1⟩
  have hr1 := hr.to hb1
  clear hr
  go_wp2_with fail
  refine Calls.mono (HN.out w1 hr1) ?_
  rintro e w2 ⟨rfl, v, hL, hb2⟩
  obtain ⟨p, hp⟩ : ∃ p, p = w1.heap.size := ⟨_, rfl⟩
  have hr2 := hr1.to hb2
  have hS : St w w2 p v A n zs := ⟨by rw [hp]; exact hL, HL.out, hn, HD.out, hr2, fun h0 ad ha => by
    obtain ⟨ad', ha', hlt, _⟩ := hr1 0 h0
    rw [ha] at ha'
    cases ha'
    exact ⟨by omega, fun e => by have := (hL.own.lt _ e.symm).1; omega⟩, by rw [hp]; exact hb1.size, hb1.trans (hb2.mono hb1.size)⟩
  rw [← hp]
  clear hL hp hb1 hb2
  go_wp2_with fail
  refine Calls.mono (HW.out w2 hr2) ?_
  rintro e w3 ⟨rfl, q3, rfl⟩
  have hS3 := hS.drewN q3
  clear hS hr2 hr1 HN HW
  generalize w2.drewN q3 = w4 at hS3 ⊢
  clear hn hnc HL HD
  go_wp2
  go_loopw [8, 53] (fun lv kv wr => ∃ (k : Nat) (v' : Value) (A' : Option Addr) (n' c' : Nat) (ys : List Int), lv = .slice A' n' c' ∧ kv = .int .i64 k ∧ k ≤ no ∧ St w wr p v' A' n' ys) (fun _ kv _ => no - (intOf kv).toNat)
  case atStart => exact ⟨0, v, A, n, c, zs, rfl, rfl, Nat.zero_le _, hS3⟩
  case round =>
    clear hS3 d1 d2
    obtain ⟨k, v', A', n', c', ys, rfl, rfl, hk, hS⟩ := hrel
    have hOp := HO.out.below hS.bb
    by_cases hlt : k < no
    · have e1 : decide (k < no) = true := by simpa using hlt
      obtain ⟨ad, rfl, hadl, hck, hcx⟩ := hOp k hlt
      clear hOp
      generalize ks k = kd at hck
      have hcx' : wr.cell? ⟨(ad.add (k * 2)).block, (ad.add (k * 2)).off + 1, none⟩ = some (.int .i64 (xs k)) := hcx
      clear hcx
      generalize xs k = x at hcx'
      by_cases k1 : kd = 1
      · have e2 : (kd == 1) = true := by simpa using k1
        clear k1
        by_cases hx : x < 0
        · have HSo := Lib.hid hS
          clear hS
          go_wp2_with fail
          have hS := HSo.out.to (lit_below wr (.cells #[.int .i64 kd, .int .i64 x] 64))
          have hO := Ov.new HSo.out kd x 64
          generalize wr.alloc (.cells #[.int .i64 kd, .int .i64 x] 64) = W at hS hO ⊢
          clear HSo hck hcx'
          have HA := Lib.hid (rpush_neg A' n' c' x hx W)
          have HB := Lib.hid (push_neg (p := p) x hx W)
          have hox := hO.cell
          have HS1 := Lib.hid hS
          have HO1 := Lib.hid hO
          clear hS hO
          go_wp2_with fail
          refine HA.out.mono ?_
          rintro e w' ⟨rfl, rfl⟩
          go_wp2_with fail
          refine HB.out.mono ?_
          rintro e w' ⟨rfl, rfl⟩
          clear hox
          have hS := HS1.out
          have hO := HO1.out
          -- what is asked behind a step
          have hlz : (ys).length ≤ 100000 := by have := hS.ln; have := hS.le; omega
          have HP := Lib.hid (place_any x hS.L hlz)
          have HF := Lib.hid (rfind_any A' (n') c' _ x (ys) W hS.ln hS.R (by have := hS.le; omega))
          have HLi := Lib.hid (list_any hS.L hlz)
          have HLe := Lib.hid (len_any hS.L)
          have HLN := Lib.hid hS.ln
          have HSS := Lib.hid hS
          have hox := hO.cell
          have HOO := Lib.hid hO
          clear hS hO hlz
          generalize Lib.idxOf (ys) x = i at HP HF
          go_wp2_with fail
          refine HP.out.mono ?_
          rintro e w' ⟨rfl, rfl⟩
          go_wp2_with fail
          refine HF.out.mono ?_
          rintro e w' ⟨rfl, rfl⟩
          have q1 : (decide (0 ≤ i) != decide (0 ≤ i)) = false := by simp
          have q2 : (max i 0 != max i 0) = false := by simp
          go_wp2_with fail
          refine HLi.out.mono ?_
          rintro e w8 ⟨o8, rfl, ho8, hb8⟩
          obtain ⟨A8, c8, rfl, hR8⟩ := Row.of ho8 rfl
          have hR8' : Rd w8 w8.heap.size A8 (n') (fun j => .int .i64 ((ys).getD j 0)) := by rw [← HLN.out]; exact hR8.1
          have hS8 := HSS.out.to hb8
          have HSA := Lib.hid (same_ints A8 A' (n') c8 c' w8.heap.size (fun j => (ys).getD j 0) w8 hR8' hS8.R (by have := hS8.le; omega))
          have hL8 := hS8.L
          clear hR8 hR8' ho8 hb8
          rw [HLN.out]
          go_wp2_with fail
          refine HSA.out.mono ?_
          rintro e w9 ⟨rfl, q9, rfl⟩
          have hS9 := Lib.hid (hS8.drewN q9)
          have HLe9 := Lib.hid (len_any (hL8.drewN q9))
          clear hS8 hL8
          go_wp2_with fail
          refine HLe9.out.mono ?_
          rintro e w' ⟨rfl, rfl⟩
          rw [HLN.out]
          go_wp2
          exact ⟨⟨k + 1, v', A', (n'), c', (ys), rfl, by go_num, by omega, hS9.out⟩, by simp [intOf]; omega⟩
        · by_cases hi : 0 ≤ Lib.idxOf ys x
          · have HSo := Lib.hid hS
            clear hS
            go_wp2_with fail
            have hS := HSo.out.to (lit_below wr (.cells #[.int .i64 kd, .int .i64 x] 64))
            have hO := Ov.new HSo.out kd x 64
            generalize wr.alloc (.cells #[.int .i64 kd, .int .i64 x] 64) = W at hS hO ⊢
            clear HSo hck hcx'
            have HA := Lib.hid (rpush_there A' n' c' _ x ys W hS.ln hS.R (by have := hS.le; omega) (by omega) hi)
            have HB := Lib.hid (push_there x hS.L (by omega) hi (by have := hS.ln; have := hS.le; omega))
            have hox := hO.cell
            have HS1 := Lib.hid hS
            have HO1 := Lib.hid hO
            clear hS hO
            go_wp2_with fail
            refine HA.out.mono ?_
            rintro e w' ⟨rfl, rfl⟩
            go_wp2_with fail
            refine HB.out.mono ?_
            rintro e w' ⟨rfl, rfl⟩
            clear hox
            have hS := HS1.out
            have hO := HO1.out
            -- what is asked behind a step
            have hlz : (ys).length ≤ 100000 := by have := hS.ln; have := hS.le; omega
            have HP := Lib.hid (place_any x hS.L hlz)
            have HF := Lib.hid (rfind_any A' (n') c' _ x (ys) W hS.ln hS.R (by have := hS.le; omega))
            have HLi := Lib.hid (list_any hS.L hlz)
            have HLe := Lib.hid (len_any hS.L)
            have HLN := Lib.hid hS.ln
            have HSS := Lib.hid hS
            have hox := hO.cell
            have HOO := Lib.hid hO
            clear hS hO hlz
            generalize Lib.idxOf (ys) x = i at HP HF
            go_wp2_with fail
            refine HP.out.mono ?_
            rintro e w' ⟨rfl, rfl⟩
            go_wp2_with fail
            refine HF.out.mono ?_
            rintro e w' ⟨rfl, rfl⟩
            have q1 : (decide (0 ≤ i) != decide (0 ≤ i)) = false := by simp
            have q2 : (max i 0 != max i 0) = false := by simp
            go_wp2_with fail
            refine HLi.out.mono ?_
            rintro e w8 ⟨o8, rfl, ho8, hb8⟩
            obtain ⟨A8, c8, rfl, hR8⟩ := Row.of ho8 rfl
            have hR8' : Rd w8 w8.heap.size A8 (n') (fun j => .int .i64 ((ys).getD j 0)) := by rw [← HLN.out]; exact hR8.1
            have hS8 := HSS.out.to hb8
            have HSA := Lib.hid (same_ints A8 A' (n') c8 c' w8.heap.size (fun j => (ys).getD j 0) w8 hR8' hS8.R (by have := hS8.le; omega))
            have hL8 := hS8.L
            clear hR8 hR8' ho8 hb8
            rw [HLN.out]
            go_wp2_with fail
            refine HSA.out.mono ?_
            rintro e w9 ⟨rfl, q9, rfl⟩
            have hS9 := Lib.hid (hS8.drewN q9)
            have HLe9 := Lib.hid (len_any (hL8.drewN q9))
            clear hS8 hL8
            go_wp2_with fail
            refine HLe9.out.mono ?_
            rintro e w' ⟨rfl, rfl⟩
            rw [HLN.out]
            go_wp2
            exact ⟨⟨k + 1, v', A', (n'), c', (ys), rfl, by go_num, by omega, hS9.out⟩, by simp [intOf]; omega⟩
          · by_cases hf : 256 ≤ n'
            · have HSo := Lib.hid hS
              clear hS
              go_wp2_with fail
              have hS := HSo.out.to (lit_below wr (.cells #[.int .i64 kd, .int .i64 x] 64))
              have hO := Ov.new HSo.out kd x 64
              generalize wr.alloc (.cells #[.int .i64 kd, .int .i64 x] 64) = W at hS hO ⊢
              clear HSo hck hcx'
              have HA := Lib.hid (rpush_full A' n' c' _ x ys W hS.ln hS.R (by have := hS.le; omega) (by omega) (by omega) hf)
              have HB := Lib.hid (push_full x hS.L (by omega) (by omega) (by have := hS.ln; omega) (by have := hS.ln; have := hS.le; omega))
              have hox := hO.cell
              have HS1 := Lib.hid hS
              have HO1 := Lib.hid hO
              clear hS hO
              go_wp2_with fail
              refine HA.out.mono ?_
              rintro e w' ⟨rfl, rfl⟩
              go_wp2_with fail
              refine HB.out.mono ?_
              rintro e w' ⟨rfl, rfl⟩
              clear hox
              have hS := HS1.out
              have hO := HO1.out
              -- what is asked behind a step
              have hlz : (ys).length ≤ 100000 := by have := hS.ln; have := hS.le; omega
              have HP := Lib.hid (place_any x hS.L hlz)
              have HF := Lib.hid (rfind_any A' (n') c' _ x (ys) W hS.ln hS.R (by have := hS.le; omega))
              have HLi := Lib.hid (list_any hS.L hlz)
              have HLe := Lib.hid (len_any hS.L)
              have HLN := Lib.hid hS.ln
              have HSS := Lib.hid hS
              have hox := hO.cell
              have HOO := Lib.hid hO
              clear hS hO hlz
              generalize Lib.idxOf (ys) x = i at HP HF
              go_wp2_with fail
              refine HP.out.mono ?_
              rintro e w' ⟨rfl, rfl⟩
              go_wp2_with fail
              refine HF.out.mono ?_
              rintro e w' ⟨rfl, rfl⟩
              have q1 : (decide (0 ≤ i) != decide (0 ≤ i)) = false := by simp
              have q2 : (max i 0 != max i 0) = false := by simp
              go_wp2_with fail
              refine HLi.out.mono ?_
              rintro e w8 ⟨o8, rfl, ho8, hb8⟩
              obtain ⟨A8, c8, rfl, hR8⟩ := Row.of ho8 rfl
              have hR8' : Rd w8 w8.heap.size A8 (n') (fun j => .int .i64 ((ys).getD j 0)) := by rw [← HLN.out]; exact hR8.1
              have hS8 := HSS.out.to hb8
              have HSA := Lib.hid (same_ints A8 A' (n') c8 c' w8.heap.size (fun j => (ys).getD j 0) w8 hR8' hS8.R (by have := hS8.le; omega))
              have hL8 := hS8.L
              clear hR8 hR8' ho8 hb8
              rw [HLN.out]
              go_wp2_with fail
              refine HSA.out.mono ?_
              rintro e w9 ⟨rfl, q9, rfl⟩
              have hS9 := Lib.hid (hS8.drewN q9)
              have HLe9 := Lib.hid (len_any (hL8.drewN q9))
              clear hS8 hL8
              go_wp2_with fail
              refine HLe9.out.mono ?_
              rintro e w' ⟨rfl, rfl⟩
              rw [HLN.out]
              go_wp2
              exact ⟨⟨k + 1, v', A', (n'), c', (ys), rfl, by go_num, by omega, hS9.out⟩, by simp [intOf]; omega⟩
            · have HSo := Lib.hid hS
              clear hS
              go_wp2_with fail
              have hS := HSo.out.to (lit_below wr (.cells #[.int .i64 kd, .int .i64 x] 64))
              have hO := Ov.new HSo.out kd x 64
              generalize wr.alloc (.cells #[.int .i64 kd, .int .i64 x] 64) = W at hS hO ⊢
              clear HSo hck hcx'
              have HA := Lib.hid (rpush_ok A' n' c' x ys W hS.ln hS.R (by omega) (by omega) (by omega))
              have hox := hO.cell
              have HI := Lib.hid hi
              have HF := Lib.hid hf
              have HX := Lib.hid hx
              have HS1 := Lib.hid hS
              have HO1 := Lib.hid hO
              clear hS hO hi hf hx
              go_wp2_with fail
              refine HA.out.mono ?_
              rintro e w5 ⟨B, d, rfl, hRB, hb5⟩
              have hS5 := HS1.out.to hb5
              have hO5 := HO1.out.to hb5
              have hox5 := hO5.cell
              have HB := Lib.hid (push_ok2 x hS5.L (by have := HX.out; omega) (by have := HI.out; omega) (by have := hS5.ln; have := HF.out; omega))
              have HRB := Lib.hid hRB
              have HS5 := Lib.hid hS5
              have HO5 := Lib.hid hO5
              have Hb5 := Lib.hid hb5
              clear hS5 hO5 hRB hb5 hox
              go_wp2_with fail
              refine HB.out.mono ?_
              rintro e w6 ⟨rfl, v6, hL6, hK6, hV6⟩
              have hS : St w w6 p v6 B (n' + 1) (ys ++ [x]) := HS5.out.step HRB.out HS1.out.L.lt (fun g hg => (HS1.out.L.own.lt g hg).2) (by rw [List.length_append, HS1.out.ln]; rfl) (by have := HF.out; omega) (nd_append HS1.out.nd (by have := HI.out; omega)) hL6 hK6 hV6
              have hO := HO5.out.step hK6 hV6
              clear hL6 hK6 hV6 HS5 HO5 HB HA HRB HS1 HO1 Hb5 hox5
              generalize ys ++ [x] = zs2 at hS
              -- what is asked behind a step
              have hlz : (zs2).length ≤ 100000 := by have := hS.ln; have := hS.le; omega
              have HP := Lib.hid (place_any x hS.L hlz)
              have HF := Lib.hid (rfind_any B (n' + 1) d _ x (zs2) w6 hS.ln hS.R (by have := hS.le; omega))
              have HLi := Lib.hid (list_any hS.L hlz)
              have HLe := Lib.hid (len_any hS.L)
              have HLN := Lib.hid hS.ln
              have HSS := Lib.hid hS
              have hox := hO.cell
              have HOO := Lib.hid hO
              clear hS hO hlz
              generalize Lib.idxOf (zs2) x = i at HP HF
              go_wp2_with fail
              refine HP.out.mono ?_
              rintro e w' ⟨rfl, rfl⟩
              go_wp2_with fail
              refine HF.out.mono ?_
              rintro e w' ⟨rfl, rfl⟩
              have q1 : (decide (0 ≤ i) != decide (0 ≤ i)) = false := by simp
              have q2 : (max i 0 != max i 0) = false := by simp
              go_wp2_with fail
              refine HLi.out.mono ?_
              rintro e w8 ⟨o8, rfl, ho8, hb8⟩
              obtain ⟨A8, c8, rfl, hR8⟩ := Row.of ho8 rfl
              have hR8' : Rd w8 w8.heap.size A8 (n' + 1) (fun j => .int .i64 ((zs2).getD j 0)) := by rw [← HLN.out]; exact hR8.1
              have hS8 := HSS.out.to hb8
              have HSA := Lib.hid (same_ints A8 B (n' + 1) c8 d w8.heap.size (fun j => (zs2).getD j 0) w8 hR8' hS8.R (by have := hS8.le; omega))
              have hL8 := hS8.L
              clear hR8 hR8' ho8 hb8
              rw [HLN.out]
              go_wp2_with fail
              refine HSA.out.mono ?_
              rintro e w9 ⟨rfl, q9, rfl⟩
              have hS9 := Lib.hid (hS8.drewN q9)
              have HLe9 := Lib.hid (len_any (hL8.drewN q9))
              clear hS8 hL8
              go_wp2_with fail
              refine HLe9.out.mono ?_
              rintro e w' ⟨rfl, rfl⟩
              rw [HLN.out]
              go_wp2
              exact ⟨⟨k + 1, v6, B, (n' + 1), d, (zs2), rfl, by go_num, by omega, hS9.out⟩, by simp [intOf]; omega⟩
      · by_cases k2 : kd = 2
        · have e2 : (kd == 1) = false := by simpa using k1
          have e3 : (kd == 2) = true := by simpa using k2
          clear k1 k2
          have HSo := Lib.hid hS
          clear hS
          go_wp2_with fail
          have hS := HSo.out.to (lit_below wr (.cells #[.int .i64 kd, .int .i64 x] 64))
          have hO := Ov.new HSo.out kd x 64
          generalize wr.alloc (.cells #[.int .i64 kd, .int .i64 x] 64) = W at hS hO ⊢
          clear HSo hck hcx'
          obtain ⟨m, hm⟩ : ∃ m : Nat, max 0 (min x n') = (m : Int) := ⟨(max 0 (min x n')).toNat, by omega⟩
          have hmn : m ≤ n' := by omega
          have HA := Lib.hid (rpop_any A' n' c' x m ys W hS.ln hS.R (by have := hS.le; omega) hm)
          have hox := hO.cell
          have HM := Lib.hid hm
          have HMN := Lib.hid hmn
          have HS1 := Lib.hid hS
          have HO1 := Lib.hid hO
          clear hS hO hm hmn
          go_wp2_with fail
          refine HA.out.mono ?_
          rintro e w5 ⟨B, d, E, f, rfl, hRB, hRE, hb5⟩
          have hS5 := HS1.out.to hb5
          have hO5 := HO1.out.to hb5
          have hox5 := hO5.cell
          have HB := Lib.hid (pop_any x m (by rw [hS5.ln]; exact HM.out) hS5.L (by have := hS5.ln; have := hS5.le; omega))
          have HRB := Lib.hid hRB
          have HRE := Lib.hid hRE
          have HS5 := Lib.hid hS5
          have HO5 := Lib.hid hO5
          clear hS5 hO5 hRB hRE hb5 hox
          go_wp2_with fail
          refine HB.out.mono ?_
          rintro e w6 ⟨o, rfl, v6, ho, hL6, hK6, hV6⟩
          have hlt1 := HS1.out.L.lt
          have hnB : ∀ ad, B = some ad → ad.block ≠ p ∧ some ad.block ≠ v'.ownBlock := fun ad ha => ⟨by have := HRB.out.2 ad ha; omega, fun e => by have h1 := (HS1.out.L.own.lt ad.block e.symm).2; have := HRB.out.2 ad ha; omega⟩
          have hlm : (ys.take m).length = m := by have := HS1.out.ln; have := HMN.out; rw [List.length_take]; omega
          have hB6 : Rd w6 w6.heap.size B m (fun j => .int .i64 ((ys.take m).getD j 0)) := by have h := HRB.out.1; rw [hlm] at h; exact Rd.keeps h hK6 hnB
          obtain ⟨A6, c6, rfl, hR6⟩ := Row.of ho hlm
          have hA6 : Rd w6 w6.heap.size A6 m (fun j => .int .i64 ((ys.take m).getD j 0)) := by have h := hR6.1; rw [hlm] at h; exact h
          have HSame := Lib.hid (same_ints A6 B m c6 d w6.heap.size (fun j => (ys.take m).getD j 0) w6 hA6 hB6 (by have := HMN.out; have := HS1.out.le; omega))
          have hS6 : St w w6 p v6 E (n' - m) (ys.drop m) := HS5.out.step HRE.out HS1.out.L.lt (fun g hg => (HS1.out.L.own.lt g hg).2) (by rw [List.length_drop, HS1.out.ln]) (by have := HS1.out.le; omega) (nd_drop m HS1.out.nd) hL6 hK6 (.inl hV6)
          have hO6 := HO5.out.step hK6 (.inl hV6)
          have HS6 := Lib.hid hS6
          have HO6 := Lib.hid hO6
          clear hL6 hK6 hV6 ho hB6 hA6 hR6 hlm hnB hlt1 hS6 hO6 HS5 HO5 HRB HRE HB HA HMN HM hox5
          go_wp2_with fail
          refine HSame.out.mono ?_
          rintro e w7 ⟨rfl, q7, rfl⟩
          have hS := HS6.out.drewN q7
          have hO := HO6.out.drewN q7
          clear HS6 HO6 HSame HS1 HO1
          generalize w6.drewN q7 = w7 at hS hO ⊢
          generalize ys.drop m = zs2 at hS
          generalize n' - m = n2 at hS ⊢
          -- what is asked behind a step
          have hlz : (zs2).length ≤ 100000 := by have := hS.ln; have := hS.le; omega
          have HP := Lib.hid (place_any x hS.L hlz)
          have HF := Lib.hid (rfind_any E (n2) f _ x (zs2) w7 hS.ln hS.R (by have := hS.le; omega))
          have HLi := Lib.hid (list_any hS.L hlz)
          have HLe := Lib.hid (len_any hS.L)
          have HLN := Lib.hid hS.ln
          have HSS := Lib.hid hS
          have hox := hO.cell
          have HOO := Lib.hid hO
          clear hS hO hlz
          generalize Lib.idxOf (zs2) x = i at HP HF
          go_wp2_with fail
          refine HP.out.mono ?_
          rintro e w' ⟨rfl, rfl⟩
          go_wp2_with fail
          refine HF.out.mono ?_
          rintro e w' ⟨rfl, rfl⟩
          have q1 : (decide (0 ≤ i) != decide (0 ≤ i)) = false := by simp
          have q2 : (max i 0 != max i 0) = false := by simp
          go_wp2_with fail
          refine HLi.out.mono ?_
          rintro e w8 ⟨o8, rfl, ho8, hb8⟩
          obtain ⟨A8, c8, rfl, hR8⟩ := Row.of ho8 rfl
          have hR8' : Rd w8 w8.heap.size A8 (n2) (fun j => .int .i64 ((zs2).getD j 0)) := by rw [← HLN.out]; exact hR8.1
          have hS8 := HSS.out.to hb8
          have HSA := Lib.hid (same_ints A8 E (n2) c8 f w8.heap.size (fun j => (zs2).getD j 0) w8 hR8' hS8.R (by have := hS8.le; omega))
          have hL8 := hS8.L
          clear hR8 hR8' ho8 hb8
          rw [HLN.out]
          go_wp2_with fail
          refine HSA.out.mono ?_
          rintro e w9 ⟨rfl, q9, rfl⟩
          have hS9 := Lib.hid (hS8.drewN q9)
          have HLe9 := Lib.hid (len_any (hL8.drewN q9))
          clear hS8 hL8
          go_wp2_with fail
          refine HLe9.out.mono ?_
          rintro e w' ⟨rfl, rfl⟩
          rw [HLN.out]
          go_wp2
          exact ⟨⟨k + 1, v6, E, (n2), f, (zs2), rfl, by go_num, by omega, hS9.out⟩, by simp [intOf]; omega⟩
        · by_cases k3 : kd = 3
          · have e2 : (kd == 1) = false := by simpa using k1
            have e3 : (kd == 2) = false := by simpa using k2
            have e4 : (kd == 3) = true := by simpa using k3
            clear k1 k2 k3
            have HSo := Lib.hid hS
            clear hS
            go_wp2_with fail
            have hS := HSo.out.to (lit_below wr (.cells #[.int .i64 kd, .int .i64 x] 64))
            have hO := Ov.new HSo.out kd x 64
            generalize wr.alloc (.cells #[.int .i64 kd, .int .i64 x] 64) = W at hS hO ⊢
            clear HSo hck hcx'
            obtain ⟨b, hb⟩ : ∃ b, decide (0 ≤ Lib.idxOf ys x) = b := ⟨_, rfl⟩
            have HF0 := Lib.hid (rfind_any A' n' c' _ x ys W hS.ln hS.R (by have := hS.le; omega))
            have HA := Lib.hid (rdrop_any A' n' c' x ys W hS.ln hS.R (by have := hS.le; omega))
            have hfl : (flt ys x).length ≤ ys.length := List.length_filter_le _ _
            have HFL := Lib.hid hfl
            have HDB := Lib.hid (fun (W' : World) (h : LineAt W' p v' ys) => drop_both x b h (by have := hS.ln; have := hS.le; omega) hS.nd hb)
            have hox := hO.cell
            have HS1 := Lib.hid hS
            have HO1 := Lib.hid hO
            have HND := Lib.hid (nd_flt x hS.nd)
            clear hS hO hfl
            generalize Lib.idxOf ys x = i at HF0 hb
            generalize flt ys x = zs2 at HA HFL HDB HND
            obtain ⟨n2, hn2⟩ : ∃ n2, zs2.length = n2 := ⟨_, rfl⟩
            rw [hn2] at HA
            have HN2 := Lib.hid hn2
            clear hn2
            go_wp2_with fail
            refine HF0.out.mono ?_
            rintro e w' ⟨rfl, rfl⟩
            go_wp2_with fail
            refine HA.out.mono ?_
            rintro e w5 ⟨B, d, rfl, hRB, hb5⟩
            have hS5 := HS1.out.to hb5
            have hO5 := HO1.out.to hb5
            have hox5 := hO5.cell
            have HB := Lib.hid (HDB.out w5 hS5.L)
            have HRB := Lib.hid hRB
            have HS5 := Lib.hid hS5
            have HO5 := Lib.hid hO5
            clear hS5 hO5 hRB hb5 hox HDB
            go_wp2_with fail
            refine HB.out.mono ?_
            rintro e w6 ⟨rfl, v6, hL6, hK6, hV6⟩
            have hS : St w w6 p v6 B n2 zs2 := HS5.out.step HRB.out HS1.out.L.lt (fun g hg => (HS1.out.L.own.lt g hg).2) HN2.out (by have := HS1.out.le; have := HS1.out.ln; have := HN2.out; have := HFL.out; omega) HND.out hL6 hK6 (.inl hV6)
            have hO := HO5.out.step hK6 (.inl hV6)
            have hbb : (b != b) = false := by simp
            clear hL6 hK6 hV6 HS5 HO5 HB HA HRB HS1 HO1 hox5 HF0 HFL HND HN2
            clear hb
            -- what is asked behind a step
            have hlz : (zs2).length ≤ 100000 := by have := hS.ln; have := hS.le; omega
            have HP := Lib.hid (place_any x hS.L hlz)
            have HF := Lib.hid (rfind_any B (n2) d _ x (zs2) w6 hS.ln hS.R (by have := hS.le; omega))
            have HLi := Lib.hid (list_any hS.L hlz)
            have HLe := Lib.hid (len_any hS.L)
            have HLN := Lib.hid hS.ln
            have HSS := Lib.hid hS
            have hox := hO.cell
            have HOO := Lib.hid hO
            clear hS hO hlz
            generalize Lib.idxOf (zs2) x = i at HP HF
            go_wp2_with fail
            refine HP.out.mono ?_
            rintro e w' ⟨rfl, rfl⟩
            go_wp2_with fail
            refine HF.out.mono ?_
            rintro e w' ⟨rfl, rfl⟩
            have q1 : (decide (0 ≤ i) != decide (0 ≤ i)) = false := by simp
            have q2 : (max i 0 != max i 0) = false := by simp
            go_wp2_with fail
            refine HLi.out.mono ?_
            rintro e w8 ⟨o8, rfl, ho8, hb8⟩
            obtain ⟨A8, c8, rfl, hR8⟩ := Row.of ho8 rfl
            have hR8' : Rd w8 w8.heap.size A8 (n2) (fun j => .int .i64 ((zs2).getD j 0)) := by rw [← HLN.out]; exact hR8.1
            have hS8 := HSS.out.to hb8
            have HSA := Lib.hid (same_ints A8 B (n2) c8 d w8.heap.size (fun j => (zs2).getD j 0) w8 hR8' hS8.R (by have := hS8.le; omega))
            have hL8 := hS8.L
            clear hR8 hR8' ho8 hb8
            rw [HLN.out]
            go_wp2_with fail
            refine HSA.out.mono ?_
            rintro e w9 ⟨rfl, q9, rfl⟩
            have hS9 := Lib.hid (hS8.drewN q9)
            have HLe9 := Lib.hid (len_any (hL8.drewN q9))
            clear hS8 hL8
            go_wp2_with fail
            refine HLe9.out.mono ?_
            rintro e w' ⟨rfl, rfl⟩
            rw [HLN.out]
            go_wp2
            exact ⟨⟨k + 1, v6, B, (n2), d, (zs2), rfl, by go_num, by omega, hS9.out⟩, by simp [intOf]; omega⟩
          · have e2 : (kd == 1) = false := by simpa using k1
            have e3 : (kd == 2) = false := by simpa using k2
            have e4 : (kd == 3) = false := by simpa using k3
            clear k1 k2 k3
            have HSo := Lib.hid hS
            clear hS
            go_wp2_with fail
            have hS := HSo.out.to (lit_below wr (.cells #[.int .i64 kd, .int .i64 x] 64))
            have hO := Ov.new HSo.out kd x 64
            generalize wr.alloc (.cells #[.int .i64 kd, .int .i64 x] 64) = W at hS hO ⊢
            clear HSo hck hcx'
            -- what is asked behind a step
            have hlz : (ys).length ≤ 100000 := by have := hS.ln; have := hS.le; omega
            have HP := Lib.hid (place_any x hS.L hlz)
            have HF := Lib.hid (rfind_any A' (n') c' _ x (ys) W hS.ln hS.R (by have := hS.le; omega))
            have HLi := Lib.hid (list_any hS.L hlz)
            have HLe := Lib.hid (len_any hS.L)
            have HLN := Lib.hid hS.ln
            have HSS := Lib.hid hS
            have hox := hO.cell
            have HOO := Lib.hid hO
            clear hS hO hlz
            generalize Lib.idxOf (ys) x = i at HP HF
            go_wp2_with fail
            refine HP.out.mono ?_
            rintro e w' ⟨rfl, rfl⟩
            go_wp2_with fail
            refine HF.out.mono ?_
            rintro e w' ⟨rfl, rfl⟩
            have q1 : (decide (0 ≤ i) != decide (0 ≤ i)) = false := by simp
            have q2 : (max i 0 != max i 0) = false := by simp
            go_wp2_with fail
            refine HLi.out.mono ?_
            rintro e w8 ⟨o8, rfl, ho8, hb8⟩
            obtain ⟨A8, c8, rfl, hR8⟩ := Row.of ho8 rfl
            have hR8' : Rd w8 w8.heap.size A8 (n') (fun j => .int .i64 ((ys).getD j 0)) := by rw [← HLN.out]; exact hR8.1
            have hS8 := HSS.out.to hb8
            have HSA := Lib.hid (same_ints A8 A' (n') c8 c' w8.heap.size (fun j => (ys).getD j 0) w8 hR8' hS8.R (by have := hS8.le; omega))
            have hL8 := hS8.L
            clear hR8 hR8' ho8 hb8
            rw [HLN.out]
            go_wp2_with fail
            refine HSA.out.mono ?_
            rintro e w9 ⟨rfl, q9, rfl⟩
            have hS9 := Lib.hid (hS8.drewN q9)
            have HLe9 := Lib.hid (len_any (hL8.drewN q9))
            clear hS8 hL8
            go_wp2_with fail
            refine HLe9.out.mono ?_
            rintro e w' ⟨rfl, rfl⟩
            rw [HLN.out]
            go_wp2
            exact ⟨⟨k + 1, v', A', (n'), c', (ys), rfl, by go_num, by omega, hS9.out⟩, by simp [intOf]; omega⟩
    · have e1 : decide (k < no) = false := by simpa using hlt
      have hbb := hS.bb
      clear hS
      go_wp2
      go_ret
      exact ⟨rfl, hbb⟩
end Go.Proofs.Ytblpekeikmblmaa.LineW
