/- The walks of the document's supply, first part: add, issued, Total. Conditions: lists are read rightly and are not too long. -/
import Derived.Test.YtdjeedmiicagcaaSup11
import Derived.Deep.RegionHeld3
import Derived.Deep.DeepCutAuto
namespace Go.Proofs.Ytdjeedmiicagcaa.SupplyW
open Go.RowKit
open Go.Proofs.Ytdjeedmiicagcaa.Words Go.Proofs.Ytdjeedmiicagcaa.Agg Go.Proofs.Ytdjeedmiicagcaa.NatW Go.Proofs.Ytdjeedmiicagcaa.PurseW Go.Proofs.Ytdjeedmiicagcaa.PoolW

theorem NatAt.agg {lo : Nat} {w : World} {v : Value} {N : Nat} (h : NatAt lo w v N) : ∃ A n c, v = .agg #[.slice A n c] := h.form
theorem one_nat (A : Option Addr) (n c : Nat) : (#[Value.slice A n c]).all (·.oneCell') = true := by simp [Value.oneCell']
theorem info_nat : (Try.prog.info? 51).map (·.size) = some 1 := by kernel_rfl
set_option maxHeartbeats 1000000 in
theorem add_any {lo lo' : Nat} (a b : Value) (N M : Nat) (w : World) (ha : NatAt lo w a N) (hb : NatAt lo' w b M) (hN : Sm N) (hM : Sm M) :
    Calls Try.prog 72 #[a, b] w fun e w' => ∃ v, e = .returned v ∧ NatAt w.heap.size w' v (N + M) ∧ Below w.heap.size w w' := by
  obtain ⟨A, n, c, rfl⟩ := ha.form
  obtain ⟨B, m, d, rfl⟩ := hb.form
  have hb1 : Below w.heap.size w (w.alloc (.cells #[.slice A n c] 51)) := (Below.refl _ _).alloc (Nat.le_refl _) _
  have hb2 := hb1.alloc hb1.size (.cells #[.slice B m d] 51)
  have hb3 := hb2.alloc hb2.size (.cells #[.slice none 0 0] 51)
  have hB : Blk (((w.alloc (.cells #[.slice A n c] 51)).alloc (.cells #[.slice B m d] 51)).alloc (.cells #[.slice none 0 0] 51)) (w.heap.size + 2) 51 #[.slice none 0 0] := Blk.new _ _ _ _ (by simp)
  have HA := Lib.hid (add_v _ _ N M _ (ha.to hb3) (hb.to hb3) hN hM)
  clear ha hb hb1 hb2
  go_enter Try.func72, Try.ntmps72
  go_wp2_with fail
  refine HA.out.mono ?_
  rintro e w4 ⟨v, rfl, hN4, hb4⟩
  obtain ⟨C, k, l, rfl⟩ := hN4.form
  have hB4 := hB.to hb4
  have hb04 := hb3.trans (hb4.mono hb3.size)
  have q := hB4.cell (j := 0) rfl
  have f := hB4.frozen 0
  have hB5 := hB4.set 0 (.slice C k l)
  clear hb4
  go_wp2
  exact bodyPost_ret (v := .agg #[.slice C k l]) (results_c Try.results72 _ _ _ _ _ _ rfl hB5 Try.underlying51 rfl info_nat) rfl ⟨_, rfl, (hN4.set (by simp) _).low (by simp; omega), hb04.setCell (by simp; omega) _⟩
set_option maxHeartbeats 1000000 in
set_option maxRecDepth 100000 in
theorem issued_any (m : Mon) (hm : m.Ok) (w : World) :
    Calls Try.prog 71 #[.agg m.cs] w fun e w' => ∃ v, e = .returned v ∧ NatAt w.heap.size w' v (m.gen + m.mnt) ∧ Below w.heap.size w w' := by
  have hb1 : Below w.heap.size w (w.alloc (.cells m.cs 66)) := (Below.refl _ _).alloc (Nat.le_refl _) _
  have hb2 := hb1.alloc hb1.size (.cells #[.slice none 0 0] 51)
  have hB1 : Blk ((w.alloc (.cells m.cs 66)).alloc (.cells #[.slice none 0 0] 51)) w.heap.size 66 m.cs := (Blk.new w _ _ _ rfl).alloc _
  have hB2 : Blk ((w.alloc (.cells m.cs 66)).alloc (.cells #[.slice none 0 0] 51)) (w.heap.size + 1) 51 #[.slice none 0 0] := Blk.new _ _ _ _ (by simp)
  obtain ⟨W0, hW0⟩ : ∃ W0, (w.alloc (.cells m.cs 66)).alloc (.cells #[.slice none 0 0] 51) = W0 := ⟨_, rfl⟩
  rw [hW0] at hb2 hB1 hB2
  have hG := Lib.hid (of_any m.gen hm.gen)
  have hM := Lib.hid (of_any m.mnt hm.mnt)
  have hS1 := Lib.hid (Sm.of (N := m.gen) (by have := hm.gen; omega))
  have hS2 := Lib.hid (Sm.of (N := m.mnt) (by have := hm.mnt; omega))
  have q1 := hB1.cell (j := 1) (v := .int .u64 m.gen) rfl
  have q2 := hB1.cell (j := 2) (v := .int .u64 m.mnt) rfl
  have q0 := hB2.cell (j := 0) (v := .slice none 0 0) rfl
  have f0 := hB2.frozen 0
  have hs1 : w.heap.size + 1 < W0.heap.size := hB2.lt
  have hs0 : w.heap.size < W0.heap.size := by omega
  clear hm hb1 hB1
  go_enter Try.func71, Try.ntmps71
  go_upto_region 1 with (fail)
  clear hW0
  have HX : Hid (∀ w', Below W0.heap.size W0 w' → w'.cell? ⟨w.heap.size, 1, none⟩ = some (.int .u64 m.gen) ∧ w'.cell? ⟨w.heap.size, 2, none⟩ = some (.int .u64 m.mnt) ∧ w'.cell? ⟨w.heap.size + 1, 0, none⟩ = some (.slice none 0 0) ∧ w'.frozen? ⟨w.heap.size + 1, 0, none⟩ = false) :=
    Lib.hid (fun w' hb => ⟨bcell hb hs0 q1, bcell hb hs0 q2, bcell hb hs1 q0, (hb.frozen (p := ⟨w.heap.size + 1, 0, none⟩) hs1).trans f0⟩)
  go_region_with (first
    | (go_at_call_of 58 (Value.int IntKind.u64 (m.gen : Int)); refine (hG.out _).mono ?_; rintro e wa ⟨va, rfl, hNa, hba⟩; (try have hNb := hNb.to hba); have hbA : Below W0.heap.size W0 wa := (by first | exact hbB.trans (hba.mono hbB.size) | exact ⟨hba.1, hba.2, hba.3, hba.4, hba.5⟩); obtain ⟨y1, y2, y3, y4⟩ := HX.out _ hbA)
    | (go_at_call_of 58 (Value.int IntKind.u64 (m.mnt : Int)); refine (hM.out _).mono ?_; rintro e wb ⟨vb, rfl, hNb, hbb⟩; (try have hNa := hNa.to hbb); have hbB : Below W0.heap.size W0 wb := (by first | exact hbA.trans (hbb.mono hbA.size) | exact ⟨hbb.1, hbb.2, hbb.3, hbb.4, hbb.5⟩); obtain ⟨x1, x2, x3, x4⟩ := HX.out _ hbB)
    | (go_at_call 72; refine (add_any va vb _ _ _ hNa hNb hS1.out hS2.out).mono ?_; rintro e w6 ⟨v6, rfl, hN6, hbm⟩; obtain ⟨A6, k6, c6, rfl⟩ := hN6.form; have hz : Below W0.heap.size W0 w6 := (by first | exact hbA.trans (hbm.mono hbA.size) | exact hbB.trans (hbm.mono hbB.size)); obtain ⟨z1, z2, z3, z4⟩ := HX.out _ hz))
  all_goals
    have hB5 := (hB2.to hz).set 0 (.slice A6 k6 c6)
    have hb05 := hb2.trans (hz.mono hb2.size)
    have hlo : w.heap.size ≤ wb.heap.size := by have := hbB.size; omega
    go_wp2
    exact bodyPost_ret (v := .agg #[.slice A6 k6 c6]) (results_c Try.results71 _ _ _ _ _ _ rfl hB5 Try.underlying51 rfl info_nat) rfl ⟨_, rfl, (hN6.set (by show w.heap.size + 1 < _; have := hbB.size; omega) _).low hlo, hb05.setCell (by simp) _⟩
theorem nxt {W0 X w' : World} (h : Below W0.heap.size W0 X) (h' : Below X.heap.size X w') : Below W0.heap.size W0 w' := h.trans (h'.mono h.size)
theorem bal {W0 X : World} (h : Below W0.heap.size W0 X) (o : Obj) : Below W0.heap.size W0 (X.alloc o) := h.alloc h.size o
theorem base_le {W0 X w' : World} (h : Below W0.heap.size W0 X) (_ : Below X.heap.size X w') : W0.heap.size ≤ X.heap.size := h.size
theorem newlt {X w' : World} {o : Obj} (_ : Below (X.alloc o).heap.size (X.alloc o) w') : X.heap.size < (X.alloc o).heap.size := by simp
theorem newlt' {X w' : World} {o : Obj} (_ : Below (X.alloc o).drew.heap.size (X.alloc o).drew w') : X.heap.size < (X.alloc o).drew.heap.size := by simp [heap_drew]
theorem newblk {X w' : World} {cs : Array Value} {t : TypeId} (h : Below (X.alloc (.cells cs t)).heap.size (X.alloc (.cells cs t)) w') : Blk w' X.heap.size t cs := (Blk.new X _ t cs rfl).to h
theorem newblk' {X w' : World} {cs : Array Value} {t : TypeId} (h : Below (X.alloc (.cells cs t)).drew.heap.size (X.alloc (.cells cs t)).drew w') : Blk w' X.heap.size t cs := (Blk.drew (Blk.new X _ t cs rfl)).to h
/-- what the statement's middle leaves -/
def Mid (w W0 : World) (N : Nat) (s : Value) (wx : World) : Prop := ∃ g A n c, s = .pointer (some ⟨g, 0, none⟩) ∧ w.heap.size + 2 ≤ g ∧ Blk wx g 51 #[.slice A n c] ∧ NatAt (w.heap.size + 2) wx (.agg #[.slice A n c]) N ∧ Below W0.heap.size W0 wx
theorem mid_new {w W0 w6 : World} (hz : W0.heap.size = w.heap.size + 2) (hb : Below W0.heap.size W0 w6) {A : Option Addr} {n c lo N : Nat} (hN : NatAt lo w6 (.agg #[.slice A n c]) N) (hlo : W0.heap.size ≤ lo) :
    Mid w W0 N (.pointer (some ⟨w6.heap.size, 0, none⟩)) (w6.alloc (.cells #[.slice A n c] 51)) :=
  ⟨_, A, n, c, rfl, by have := hb.size; omega, Blk.new _ _ _ _ rfl, (hN.low (by omega)).to ((Below.refl _ _).alloc (Nat.le_refl _) _), bal hb _⟩
theorem mid_set {w W0 w6 : World} (hz : W0.heap.size = w.heap.size + 2) (hb : Below W0.heap.size W0 w6) {A : Option Addr} {g n c lo N : Nat} {old : Value} (hN : NatAt lo w6 (.agg #[.slice A n c]) N) (hg : W0.heap.size ≤ g) (hlo : g < lo) (hB : Blk w6 g 51 #[old]) :
    Mid w W0 N (.pointer (some ⟨g, 0, none⟩)) (w6.setCell ⟨g, 0, none⟩ (.slice A n c)) :=
  ⟨_, A, n, c, rfl, by omega, hB.set 0 _, (hN.set hlo _).low (by omega), hb.setCell hg _⟩
set_option maxHeartbeats 40000000 in
set_option maxRecDepth 100000 in
theorem rtotal_any (m : Mon) (hm : m.Ok) (w : World) (hA : m.At w w.heap.size) :
    Calls Try.prog 43 #[.agg m.cs] w fun e w' => ∃ v, e = .returned v ∧ NatAt w.heap.size w' v (sm m.l1 m.n1 + sm m.l2 m.n2 + (sm m.l3 m.n3 + sm m.l4 m.n4) + m.trs) ∧ Below w.heap.size w w' := by
  have hb1 : Below w.heap.size w (w.alloc (.cells m.cs 66)) := (Below.refl _ _).alloc (Nat.le_refl _) _
  have hb2 := hb1.alloc hb1.size (.cells #[.slice none 0 0] 51)
  have hB1 : Blk ((w.alloc (.cells m.cs 66)).alloc (.cells #[.slice none 0 0] 51)) w.heap.size 66 m.cs := (Blk.new w _ _ _ rfl).alloc _
  have hB2 : Blk ((w.alloc (.cells m.cs 66)).alloc (.cells #[.slice none 0 0] 51)) (w.heap.size + 1) 51 #[.slice none 0 0] := Blk.new _ _ _ _ (by simp)
  obtain ⟨W0, hW0⟩ : ∃ W0, (w.alloc (.cells m.cs 66)).alloc (.cells #[.slice none 0 0] 51) = W0 := ⟨_, rfl⟩
  have hsz : W0.heap.size = w.heap.size + 2 := by rw [← hW0]; simp
  rw [hW0] at hb2 hB1 hB2
  have HB1 := Lib.hid hB1
  have HB2 := Lib.hid hB2
  have HSZ := Lib.hid hsz
  have HA0 := Lib.hid (hA.to hb2)
  have hs0 : w.heap.size < W0.heap.size := by omega
  have hs1 : w.heap.size + 1 < W0.heap.size := by omega
  have HX : Hid (∀ w', Below W0.heap.size W0 w' → w'.cell? ⟨w.heap.size, 4, none⟩ = some (.int .u64 m.trs) ∧ w'.cell? ⟨w.heap.size, 5, none⟩ = some (.slice m.a1 m.n1 m.c1) ∧ w'.cell? ⟨w.heap.size, 6, none⟩ = some (.slice m.a2 m.n2 m.c2) ∧ w'.cell? ⟨w.heap.size, 7, none⟩ = some (.slice m.a3 m.n3 m.c3) ∧ w'.cell? ⟨w.heap.size, 8, none⟩ = some (.slice m.a4 m.n4 m.c4)) :=
    Lib.hid (fun w' hb => ⟨bcell hb hs0 (hB1.cell rfl), bcell hb hs0 (hB1.cell rfl), bcell hb hs0 (hB1.cell rfl), bcell hb hs0 (hB1.cell rfl), bcell hb hs0 (hB1.cell rfl)⟩)
  have L1 := Lib.hid (smul hA.l1.2.1 hm.n1)
  have L2 := Lib.hid (smul hA.l2.2.1 hm.n2)
  have L3 := Lib.hid (smul hA.l3.2.1 hm.n3)
  have L4 := Lib.hid (smul hA.l4.2.1 hm.n4)
  have S1 := Lib.hid (Sm.of (N := sm m.l1 m.n1) (by have := L1.out; omega))
  have S2 := Lib.hid (Sm.of (N := sm m.l2 m.n2) (by have := L2.out; omega))
  have HM := Lib.hid hm
  have hO := Lib.hid (of_any m.trs hm.trs)
  obtain ⟨x0, x1, x2, x3, x4⟩ := HX.out W0 (Below.refl _ _)
  clear hm hA hb1 hB1 hB2 hsz
  go_enter Try.func43, Try.ntmps43
  go_upto_region 1 with (fail)
  clear hW0
  go_cut [3] (fun s3 wx => Mid w W0 (sm m.l1 m.n1 + sm m.l2 m.n2) s3 wx)
  case first =>
    go_region_with (first
      | (go_at_call_of 33 (Value.slice m.a1 m.n1 m.c1); refine (rsum_any _ _ _ m.l1 _ ?_ (by have := HM.out.n1; omega)).mono ?_; exact (HA0.out.to (by repeat (first | assumption | exact Below.refl _ _ | refine Below.drew ?_ | refine bal ?_ _))).l1; rintro e wa ⟨va, rfl, hNa, hba⟩; have hbA : Below W0.heap.size W0 wa := nxt (by repeat (first | assumption | exact Below.refl _ _ | refine Below.drew ?_ | refine bal ?_ _)) hba; obtain ⟨u0, u1, u2, u3, u4⟩ := HX.out wa hbA; have hsA : w.heap.size < wa.heap.size := Nat.lt_of_lt_of_le hs0 hbA.size; (try have yB := newblk hba); (try have yB := newblk' hba); (try have y1 := yB.cell (j := 0) rfl); (try have y2 := yB.frozen 0); clear hba)
      | (go_at_call_of 33 (Value.slice m.a2 m.n2 m.c2); refine (rsum_any _ _ _ m.l2 _ ?_ (by have := HM.out.n2; omega)).mono ?_; exact (HA0.out.to (by repeat (first | assumption | exact Below.refl _ _ | refine Below.drew ?_ | refine bal ?_ _))).l2; rintro e wb ⟨vb, rfl, hNb, hbb⟩; have hbab : Below wa.heap.size wa wb := nxt (by repeat (first | assumption | exact Below.refl _ _ | refine Below.drew ?_ | refine bal ?_ _)) hbb; have hbB : Below W0.heap.size W0 wb := nxt hbA hbab; have hsB : w.heap.size < wb.heap.size := Nat.lt_of_lt_of_le hs0 hbB.size; have hNa := hNa.to hbab; (try have yB := yB.to hbab); (try have yB := newblk hbb); (try have yB := newblk' hbb); (try have y1 := yB.cell (j := 0) rfl); (try have y2 := yB.frozen 0); clear hbb)
      | (go_at_call 72; refine (add_any va vb _ _ _ (hNa.to (by repeat (first | assumption | exact Below.refl _ _ | refine Below.drew ?_ | refine bal ?_ _))) (hNb.to (by repeat (first | assumption | exact Below.refl _ _ | refine Below.drew ?_ | refine bal ?_ _))) S1.out S2.out).mono ?_; rintro e w6 ⟨v6, rfl, hN6, hbm⟩; obtain ⟨A6, k6, c6, rfl⟩ := hN6.form; have hb6 : Below wb.heap.size wb w6 := nxt (by repeat (first | assumption | exact Below.refl _ _ | refine Below.drew ?_ | refine bal ?_ _)) hbm; have hbC : Below W0.heap.size W0 w6 := nxt hbB hb6; have hxs := base_le (W0 := wb) (by repeat (first | assumption | exact Below.refl _ _ | refine Below.drew ?_ | refine bal ?_ _)) hbm; (try have yl := Nat.lt_of_lt_of_le yB.lt hxs); (try have yl := newlt hbm); (try have yl := newlt' hbm); (try have yB := yB.to hb6); (try have yB := newblk hbm); (try have yB := newblk' hbm); (try have y1 := yB.cell (j := 0) rfl); (try have y2 := yB.frozen 0)))
    all_goals
      go_wp2_with fail
      go_meet
      have z1 := hbA.size
      have z2 := hbB.size
      have z3 := hbC.size
      have z4 := hbab.size
      first
        | exact mid_new HSZ.out hbC hN6 (Nat.le_trans z2 hxs)
        | exact mid_set HSZ.out hbC hN6 (by first | exact z2 | exact hbA.size | exact Nat.le_refl _) yl yB
  case rest =>
    obtain ⟨wx, rfl⟩ : ∃ wx : World, wx = wc := ⟨_, rfl⟩
    obtain ⟨g, A, n, c, rfl, hg, hB, hN, hb⟩ := hcut
    have HB := Lib.hid hB
    have HN := Lib.hid hN
    have HMX := Lib.hid (HA0.out.to hb)
    have HXx : Hid (∀ w', Below wx.heap.size wx w' → w'.cell? ⟨w.heap.size, 7, none⟩ = some (.slice m.a3 m.n3 m.c3) ∧ w'.cell? ⟨w.heap.size, 8, none⟩ = some (.slice m.a4 m.n4 m.c4) ∧ w'.cell? ⟨g, 0, none⟩ = some (.slice A n c) ∧ w'.frozen? ⟨g, 0, none⟩ = false ∧ Below W0.heap.size W0 w') :=
      Lib.hid (fun w' h' => by have h1 := HX.out w' (nxt hb h'); exact ⟨h1.2.2.2.1, h1.2.2.2.2, (hB.to h').cell rfl, (hB.to h').frozen 0, nxt hb h'⟩)
    obtain ⟨y1, y2, y3, y4, y5⟩ := HXx.out wx (Below.refl _ _)
    have T1 := Lib.hid (Sm.of (N := sm m.l1 m.n1 + sm m.l2 m.n2) (by have := L1.out; have := L2.out; omega))
    have T2 := Lib.hid (Sm.of (N := sm m.l3 m.n3) (by have := L3.out; omega))
    have T3 := Lib.hid (Sm.of (N := sm m.l4 m.n4) (by have := L4.out; omega))
    have T4 := Lib.hid (Sm.of (N := sm m.l3 m.n3 + sm m.l4 m.n4) (by have := L3.out; have := L4.out; omega))
    clear x0 x1 x2 x3 x4 hB hN hb
    go_upto_region 2 with (fail)
    go_cut [] (fun wz => Mid w W0 (sm m.l1 m.n1 + sm m.l2 m.n2 + (sm m.l3 m.n3 + sm m.l4 m.n4)) (.pointer (some ⟨g, 0, none⟩)) wz)
    case first =>
      go_region_with (first
        | (go_at_call_of 33 (Value.slice m.a3 m.n3 m.c3); refine (rsum_any _ _ _ m.l3 _ ?_ (by have := HM.out.n3; omega)).mono ?_; exact (HMX.out.to (by repeat (first | assumption | exact Below.refl _ _ | refine Below.drew ?_ | refine bal ?_ _))).l3; rintro e wa ⟨va, rfl, hNa, hba⟩; have hbA : Below wx.heap.size wx wa := nxt (by repeat (first | assumption | exact Below.refl _ _ | refine Below.drew ?_ | refine bal ?_ _)) hba; obtain ⟨u1, u2, u3, u4, u5⟩ := HXx.out wa hbA; clear hba)
        | (go_at_call_of 33 (Value.slice m.a4 m.n4 m.c4); refine (rsum_any _ _ _ m.l4 _ ?_ (by have := HM.out.n4; omega)).mono ?_; exact (HMX.out.to (by repeat (first | assumption | exact Below.refl _ _ | refine Below.drew ?_ | refine bal ?_ _))).l4; rintro e wb ⟨vb, rfl, hNb, hbb⟩; have hbab : Below wa.heap.size wa wb := nxt (by repeat (first | assumption | exact Below.refl _ _ | refine Below.drew ?_ | refine bal ?_ _)) hbb; have hbB : Below wx.heap.size wx wb := nxt hbA hbab; have hNa := hNa.to hbab; obtain ⟨z1, z2, z3, z4, z5⟩ := HXx.out wb hbB; clear hbb)
        | (go_at_call_of 72 va; refine (add_any va vb _ _ _ (hNa.to (by repeat (first | assumption | exact Below.refl _ _ | refine Below.drew ?_ | refine bal ?_ _))) (hNb.to (by repeat (first | assumption | exact Below.refl _ _ | refine Below.drew ?_ | refine bal ?_ _))) T2.out T3.out).mono ?_; rintro e wc ⟨vc, rfl, hNc, hbm⟩; have hbC : Below wx.heap.size wx wc := nxt hbB (nxt (by repeat (first | assumption | exact Below.refl _ _ | refine Below.drew ?_ | refine bal ?_ _)) hbm); obtain ⟨s1, s2, s3, s4, s5⟩ := HXx.out wc hbC; clear hbm)
        | (go_at_call_of 72 vc; refine (add_any _ vc _ _ _ (HN.out.to (nxt hbC (by repeat (first | assumption | exact Below.refl _ _ | refine Below.drew ?_ | refine bal ?_ _)))) (hNc.to (by repeat (first | assumption | exact Below.refl _ _ | refine Below.drew ?_ | refine bal ?_ _))) T1.out T4.out).mono ?_; rintro e wd ⟨vd, rfl, hNd, hbm⟩; obtain ⟨A6, k6, c6, rfl⟩ := hNd.form; have hbD : Below wx.heap.size wx wd := nxt hbC (nxt (by repeat (first | assumption | exact Below.refl _ _ | refine Below.drew ?_ | refine bal ?_ _)) hbm); have hxs := base_le (W0 := wc) (by repeat (first | assumption | exact Below.refl _ _ | refine Below.drew ?_ | refine bal ?_ _)) hbm; obtain ⟨r1, r2, r3, r4, r5⟩ := HXx.out wd hbD))
      all_goals
        go_wp2_with fail
        go_meet
        exact mid_set HSZ.out r5 hNd (by have := HSZ.out; omega) (Nat.lt_of_lt_of_le (HB.out.to hbC).lt hxs) (HB.out.to hbD)
    case rest =>
      clear HXx y1 y2 y3 y4 y5 HMX HB HN T1 T2 T3
      obtain ⟨wz, rfl⟩ : ∃ wz : World, wz = wc := ⟨_, rfl⟩
      obtain ⟨g', A, n, c, hg', _, hB, hN, hb⟩ := hcut
      injection hg' with hg'
      injection hg' with hg'
      injection hg' with hg' _ _
      subst hg'
      have HN := Lib.hid hN
      have HXx : Hid (∀ w', Below wz.heap.size wz w' → w'.cell? ⟨w.heap.size, 4, none⟩ = some (.int .u64 m.trs) ∧ w'.cell? ⟨g, 0, none⟩ = some (.slice A n c) ∧ w'.cell? ⟨w.heap.size + 1, 0, none⟩ = some (.slice none 0 0) ∧ w'.frozen? ⟨w.heap.size + 1, 0, none⟩ = false ∧ Below W0.heap.size W0 w') :=
        Lib.hid (fun w' h' => by have h1 := HX.out w' (nxt hb h'); have h2 := HB2.out.to (nxt hb h'); exact ⟨h1.1, (hB.to h').cell rfl, h2.cell rfl, h2.frozen 0, nxt hb h'⟩)
      obtain ⟨y1, y2, y3, y4, y5⟩ := HXx.out wz (Below.refl _ _)
      have T1 := Lib.hid (Sm.of (N := sm m.l1 m.n1 + sm m.l2 m.n2 + (sm m.l3 m.n3 + sm m.l4 m.n4)) (by have := L1.out; have := L2.out; have := L3.out; have := L4.out; omega))
      have T2 := Lib.hid (Sm.of (N := m.trs) (by have := HM.out.trs; omega))
      clear hB hN hb
      go_upto_region 3 with (fail)
      go_region_with (first
        | (go_at_call 58; refine (hO.out _).mono ?_; rintro e wa ⟨va, rfl, hNa, hba⟩; have hbA : Below wz.heap.size wz wa := nxt (by repeat (first | assumption | exact Below.refl _ _ | refine Below.drew ?_ | refine bal ?_ _)) hba; obtain ⟨u1, u2, u3, u4, u5⟩ := HXx.out wa hbA; clear hba)
        | (go_at_call 72; refine (add_any _ va _ _ _ (HN.out.to (nxt hbA (by repeat (first | assumption | exact Below.refl _ _ | refine Below.drew ?_ | refine bal ?_ _)))) (hNa.to (by repeat (first | assumption | exact Below.refl _ _ | refine Below.drew ?_ | refine bal ?_ _))) T1.out T2.out).mono ?_; rintro e wd ⟨vd, rfl, hNd, hbm⟩; obtain ⟨A6, k6, c6, rfl⟩ := hNd.form; have hbD : Below wz.heap.size wz wd := nxt hbA (nxt (by repeat (first | assumption | exact Below.refl _ _ | refine Below.drew ?_ | refine bal ?_ _)) hbm); have hxs := base_le (W0 := wa) (by repeat (first | assumption | exact Below.refl _ _ | refine Below.drew ?_ | refine bal ?_ _)) hbm; obtain ⟨r1, r2, r3, r4, r5⟩ := HXx.out wd hbD))
      all_goals
        have hB5 := (HB2.out.to r5).set 0 (.slice A6 k6 c6)
        have hb05 := hb2.trans (r5.mono hb2.size)
        have z1 := hbA.size
        have z2 := y5.size
        have z3 := HSZ.out
        have hN9 := (hNd.set (p := ⟨w.heap.size + 1, 0, none⟩) (by show w.heap.size + 1 < _; omega) (.slice A6 k6 c6)).low (lo' := w.heap.size) (by omega)
        clear hbm z1 z2 z3 hxs
        go_wp2
        exact bodyPost_ret (v := .agg #[.slice A6 k6 c6]) (results_c Try.results43 _ _ _ _ _ _ rfl hB5 Try.underlying51 rfl info_nat) rfl ⟨_, rfl, hN9, hb05.setCell (by simp) _⟩
end Go.Proofs.Ytdjeedmiicagcaa.SupplyW
