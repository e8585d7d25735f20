/- The walks of the supply, fourth part: a state by value; Parts. Conditions: lists are read rightly and are not too long. -/
import Derived.Test.YtdjeedmiicagcaaSup3
import Derived.Test.YtdjeedmiicagcaaAgg
namespace Go.Proofs.Ytdjeedmiicagcaa.SupplyW
open Go.RowKit
open Go.Proofs.Ytdjeedmiicagcaa.Words Go.Proofs.Ytdjeedmiicagcaa.Agg Go.Proofs.Ytdjeedmiicagcaa.NatW Go.Proofs.Ytdjeedmiicagcaa.PurseW Go.Proofs.Ytdjeedmiicagcaa.PoolW

/-- of a state, what this layer goes by; and all its cells -/
structure St where
  cs : Array Value
  most : Nat
  gen : Nat
  mnt : Nat
  brn : Nat
  trs : Nat
  pa : Option Addr
  pl : Nat
  pc : Nat
  us : List Nat
  ma : Option Addr
  ml : Nat
  mc : Nat
  ms : List Mem
  qa : Option Addr
  ql : Nat
  qc : Nat
  ds : List Dep
  da : Option Addr
  dl : Nat
  dc : Nat
  es : List Du
/-- the cells are those; nothing of memory -/
structure St.Ok (s : St) : Prop where
  size : s.cs.size = 41
  c24 : s.cs[24]? = some (.int .u64 s.most)
  c25 : s.cs[25]? = some (.int .u64 s.gen)
  c26 : s.cs[26]? = some (.int .u64 s.mnt)
  c27 : s.cs[27]? = some (.int .u64 s.brn)
  c28 : s.cs[28]? = some (.int .u64 s.trs)
  c32 : s.cs[32]? = some (.slice s.pa s.pl s.pc)
  c33 : s.cs[33]? = some (.slice s.ma s.ml s.mc)
  c36 : s.cs[36]? = some (.slice s.qa s.ql s.qc)
  c37 : s.cs[37]? = some (.slice s.da s.dl s.dc)
  most : s.most < 18446744073709551616
  gen : s.gen < 18446744073709551616
  mnt : s.mnt < 18446744073709551616
  brn : s.brn < 18446744073709551616
  trs : s.trs < 18446744073709551616
  wms : Wd (s.ms.map Mem.bal)
  wds : Wd (s.ds.map Dep.am)
  wes : Wd (s.es.map Du.am)
/-- the lists lie there -/
structure St.At (s : St) (w : World) (L : Nat) : Prop where
  us : URow w L s.pa s.pl s.us
  ms : SRow w L s.ma s.ml 6 (flat Mem.enc s.ms)
  ds : SRow w L s.qa s.ql 4 (flat Dep.enc s.ds)
  es : SRow w L s.da s.dl 3 (flat Du.enc s.es)
theorem St.At.to {s : St} {w w' : World} (h : s.At w w.heap.size) (hb : Below w.heap.size w w') : s.At w' w'.heap.size := ⟨h.us.to hb, h.ms.to hb, h.ds.to hb, h.es.to hb⟩
theorem St.At.below {s : St} {w w' : World} {L : Nat} (h : s.At w L) (hb : Below L w w') : s.At w' L := ⟨⟨h.us.1, h.us.2.1, h.us.2.2.below hb⟩, h.ms.below hb, h.ds.below hb, h.es.below hb⟩
/-- what Parts finds -/
structure PartsR (s : St) (a b c d : Nat × Int) : Prop where
  a : sumr (s.ms.map Mem.bal) a
  b : sumr s.us b
  c : sumr (ams s.ds []) c
  d : sumr (ams [] s.es) d
/-- a state few enough -/
def St.Few (s : St) : Prop := s.pl ≤ 300 ∧ s.ml ≤ 300 ∧ s.ql ≤ 400 ∧ s.dl ≤ 400
theorem ams_left (ds : List Dep) : ams ds [] = ds.map Dep.am := by simp [ams]
theorem ams_right (es : List Du) : ams [] es = es.map Du.am := by simp [ams]
theorem info_sheet : (Try.prog.info? 69).map (·.size) = some 5 := by kernel_rfl
def shc (a b c d t : Nat) : Array Value := #[.int .u64 a, .int .u64 b, .int .u64 c, .int .u64 d, .int .u64 t]
theorem one_shc (a b c d t : Nat) : (shc a b c d t).all (·.oneCell') = true := by simp [shc, Value.oneCell']
/-- the error's number of four -/
def Bad4 (a b c d : Nat × Int) : Prop := ¬ (a.2 = 0 ∧ b.2 = 0 ∧ c.2 = 0 ∧ d.2 = 0)
theorem all4 (a b c d : Int) (g : Bool) (hg : g = decide (a = 0 ∧ b = 0 ∧ c = 0 ∧ d = 0)) : g = [a, b, c, d].all (fun z => decide (z = 0)) := by
  rw [hg]; simp
theorem rd_lit (W : World) (zs : List Int) (cs : Array Value) (hcs : cs = (zs.map (fun z => (.int .i64 z : Value))).toArray) (n : Nat) (hn : zs.length = n) (t : TypeId) (L g : Nat) (hg : g = W.heap.size) (hL : g < L) :
    Rd (W.alloc (.cells cs t)) L (some ⟨g, 0, none⟩) n (fun j => .int .i64 (zs.getD j 0)) := by
  subst hcs
  refine fun j hj => ⟨_, rfl, hL, ?_⟩
  rw [cells_new W _ t g hg j (.int .i64 (zs.getD j 0)) ?_]
  rw [List.getElem?_map, List.getD_eq_getElem?_getD, List.getElem?_eq_getElem (by omega)]; rfl
set_option maxHeartbeats 4000000 in
set_option maxRecDepth 100000 in
theorem parts_any (s : St) (hs : s.Ok) (w : World) (h : s.At w w.heap.size) (hf : s.Few) (a b c d : Nat × Int) (hr : PartsR s a b c d) (g : Bool) (hg : g = decide (a.2 = 0 ∧ b.2 = 0 ∧ c.2 = 0 ∧ d.2 = 0)) :
    Calls Try.prog 37 #[.agg s.cs] w fun e w' => e = .returned (.tuple #[.agg (if g = true then shc a.1 b.1 c.1 d.1 s.trs else shc 0 0 0 0 0), .int .i64 (if g = true then 0 else 10)]) ∧ Below w.heap.size w w' := by
  obtain ⟨f1, f2, f3, f4⟩ := hf
  have hb1 : Below w.heap.size w (w.alloc (.cells s.cs 63)) := (Below.refl _ _).alloc (Nat.le_refl _) _
  have hbW := hb1.alloc hb1.size (.cells #[.int .u64 0, .int .u64 0, .int .u64 0, .int .u64 0, .int .u64 0] 69)
  have hB1 : Blk ((w.alloc (.cells s.cs 63)).alloc (.cells #[.int .u64 0, .int .u64 0, .int .u64 0, .int .u64 0, .int .u64 0] 69)) w.heap.size 63 s.cs := (Blk.new w _ _ _ rfl).alloc _
  have hB2 : Blk ((w.alloc (.cells s.cs 63)).alloc (.cells #[.int .u64 0, .int .u64 0, .int .u64 0, .int .u64 0, .int .u64 0] 69)) (w.heap.size + 1) 69 (shc 0 0 0 0 0) := Blk.new (w.alloc (.cells s.cs 63)) _ _ _ (by simp)
  obtain ⟨W0, hW0⟩ : ∃ W0, (w.alloc (.cells s.cs 63)).alloc (.cells #[.int .u64 0, .int .u64 0, .int .u64 0, .int .u64 0, .int .u64 0] 69) = W0 := ⟨_, rfl⟩
  rw [hW0] at hbW hB1 hB2
  have hA0 := h.to hbW
  have c33 := hs.c33
  have HS := Lib.hid hs
  have HR := Lib.hid hr
  have HG := Lib.hid hg
  have HW0 := Lib.hid hW0
  have HA := Lib.hid hA0
  have HB1 := Lib.hid hB1
  have HB2 := Lib.hid hB2
  clear hW0 h hb1 hr hg hA0 hB1 hB2 hs
  go_enter Try.func37, Try.ntmps37
  go_wp2_with fail
  rw [HW0.out]
  refine (balances_any _ _ _ s.ms W0 HA.out.ms (by omega)).mono ?_
  rintro e w1 ⟨v1, rfl, ho1, hb1⟩
  obtain ⟨A1, k1, rfl, _, hu1⟩ := urow_of (by rw [List.length_map]; exact HA.out.ms.len Mem.len (by omega)) HS.out.wms ho1
  have HM := Lib.hid (msum_any A1 _ k1 _ _ w1 hu1 (by omega) a HR.out.a)
  have hb01 := hbW.trans (hb1.mono hbW.size)
  have e32 := (HB1.out.to hb1).cell HS.out.c32
  have e36 := (HB1.out.to hb1).cell HS.out.c36
  have HA1 := Lib.hid (HA.out.to hb1)
  have HB1' := Lib.hid (HB1.out.to hb1)
  have HB2' := Lib.hid (HB2.out.to hb1)
  clear ho1 hu1 c33 HA HB1 HB2
  go_wp2_with fail
  refine HM.out.mono ?_
  rintro e w' ⟨rfl, rfl⟩
  clear HM
  go_wp2_with fail
  refine (all_any _ _ _ _ s.us w1 HA1.out.us (by omega) b (by have := HR.out.b; unfold sumr at this; rw [HA1.out.us.1] at this; exact this)).mono ?_
  rintro e w' ⟨rfl, rfl⟩
  go_wp2_with fail
  refine (psum_any _ none _ _ 0 0 s.ds [] w1 HA1.out.ds (SRow.nil _ _ _ _) (by omega) (by omega) (by rw [ams_left]; exact HS.out.wds) c HR.out.c).mono ?_
  rintro e w2 ⟨rfl, hb2⟩
  have hb02 := hb01.trans (hb2.mono hb01.size)
  have e37 := (HB1'.out.to hb2).cell HS.out.c37
  have HA2 := Lib.hid (HA1.out.to hb2)
  have HB1 := Lib.hid (HB1'.out.to hb2)
  have HB2 := Lib.hid (HB2'.out.to hb2)
  clear e32 e36 HA1 HB1' HB2' hb01
  go_wp2_with fail
  refine (psum_any none _ 0 0 _ _ [] s.es w2 (SRow.nil _ _ _ _) HA2.out.es (by omega) (by omega) (by rw [ams_right]; exact HS.out.wes) d HR.out.d).mono ?_
  rintro e w3 ⟨rfl, hb3⟩
  have hb03 := hb02.trans (hb3.mono hb02.size)
  have e28 := (HB1.out.to hb3).cell HS.out.c28
  have HB1' := Lib.hid (HB1.out.to hb3)
  have HB2' := Lib.hid (HB2.out.to hb3)
  have hs3 := hb03.size
  clear e37 HA2 HB1 HB2 hb02
  obtain ⟨a1, a2⟩ := a
  obtain ⟨b1, b2⟩ := b
  obtain ⟨c1, c2⟩ := c
  obtain ⟨d1, d2⟩ := d
  go_wp2_with fail
  refine (good_any (some ⟨w3.heap.size, 0, none⟩) 4 4 (w3.heap.size + 1) [a2, b2, c2, d2] _ rfl (rd_lit w3 [a2, b2, c2, d2] _ rfl 4 rfl _ _ _ rfl (by omega)) (by omega) g (all4 _ _ _ _ g HG.out)).mono ?_
  rintro e w' ⟨rfl, rfl⟩
  have hb04 := hb03.alloc hs3 (.cells #[.int .i64 a2, .int .i64 b2, .int .i64 c2, .int .i64 d2] 35)
  have HB3 := Lib.hid (HB2'.out.alloc (.cells #[.int .i64 a2, .int .i64 b2, .int .i64 c2, .int .i64 d2] 35))
  have hS : w.heap.size + 1 < w3.heap.size := HB2'.out.lt
  cases g
  · go_wp2_with (refine wpList_store_blk rfl 69 (.tmp 2) (.tmp 44) rfl (w.heap.size + 1) (shc 0 0 0 0 0) rfl rfl 69 _ HB3.out info_sheet rfl (one_shc ..) ?_)
    intro w5 hB5 hbel _ _
    have hb05 := hbel _ _ (by omega) hb04
    go_wp2
    exact bodyPost_ret (v := .tuple #[.agg (shc 0 0 0 0 0), .int .i64 10]) (results_ct Try.results37 _ _ _ _ _ _ _ rfl rfl hB5 Try.underlying69 rfl info_sheet) rfl ⟨rfl, hb05⟩
  · have e28' : (w3.alloc (.cells #[.int .i64 a2, .int .i64 b2, .int .i64 c2, .int .i64 d2] 35)).cell? ⟨w.heap.size, 28, none⟩ = some (.int .u64 s.trs) := (HB1'.out.alloc _).cell HS.out.c28
    go_wp2_with (refine wpList_store_blk rfl 69 (.tmp 2) (.tmp 51) rfl (w.heap.size + 1) (shc a1 b1 c1 d1 s.trs) rfl rfl 69 _ HB3.out info_sheet rfl (one_shc ..) ?_)
    intro w5 hB5 hbel _ _
    have hb05 := hbel _ _ (by omega) hb04
    go_wp2
    exact bodyPost_ret (v := .tuple #[.agg (shc a1 b1 c1 d1 s.trs), .int .i64 0]) (results_ct Try.results37 _ _ _ _ _ _ _ rfl rfl hB5 Try.underlying69 rfl info_sheet) rfl ⟨rfl, hb05⟩
end Go.Proofs.Ytdjeedmiicagcaa.SupplyW
