/- The walk of Money: a state as the document has it. Conditions: lists are read rightly and are not too long. Printed by gen_sup12.py. -/
import Derived.Test.YtdjeedmiicagcaaMon
import Derived.Deep.DeepCutAuto
namespace Go.Proofs.Ytdjeedmiicagcaa.SupplyW
open Go.RowKit
open Go.Proofs.Ytdjeedmiicagcaa.Words Go.Proofs.Ytdjeedmiicagcaa.Agg Go.Proofs.Ytdjeedmiicagcaa.NatW Go.Proofs.Ytdjeedmiicagcaa.PurseW Go.Proofs.Ytdjeedmiicagcaa.PoolW

theorem info_money : (Try.prog.info? 66).map (·.size) = some 9 := by kernel_rfl
def monC (s : St) (v5 v7 v8 : Value) : Array Value := #[.int .u64 s.most, .int .u64 s.gen, .int .u64 s.mnt, .int .u64 s.brn, .int .u64 s.trs, v5, .slice s.pa s.pl s.pc, v7, v8]
theorem one_monC (s : St) {v5 v7 v8 : Value} (h5 : v5.oneCell' = true) (h7 : v7.oneCell' = true) (h8 : v8.oneCell' = true) : (monC s v5 v7 v8).all (·.oneCell') = true := by simp [monC, Value.oneCell'] at *; exact ⟨h5, h7, h8⟩
def zmon : Array Value := #[.int .u64 0, .int .u64 0, .int .u64 0, .int .u64 0, .int .u64 0, .slice none 0 0, .slice none 0 0, .slice none 0 0, .slice none 0 0]
/-- what a loop of Money keeps: the block, the new row, all else -/
structure Keep (g : Nat) (W2 : World) (cs : Array Value) (v : Value) (k : Nat) (us : List Nat) (w wr : World) : Prop where
  blk : Blk wr g 66 cs
  own : wr.ownsRow W2.heap.size 22 1 v k (us.map wv)
  but : But g W2 wr
  low : Below w.heap.size w wr
theorem urow_but {g : Nat} {w w' : World} {A : Option Addr} {n : Nat} {us : List Nat} (h : URow w w.heap.size A n us) (hb : But g w w') (hA : ∀ ad, A = some ad → ad.block ≠ g) : URow w' w'.heap.size A n us := ⟨h.1, h.2.1, rd_but h.2.2 hb hA⟩
theorem own_slice {w : World} {b n : Nat} {e : TypeId} {v : Value} {xs : List Value} (h : w.ownsRow b e 1 v n xs) : ∃ A c, v = .slice A n c := by
  have hl : xs.length = n := by have := h.1; omega
  obtain ⟨A, c, hv, _⟩ := Rd.own (f := fun j => (xs[j]?).getD (.bool false)) h (fun j hj => by rw [List.getElem?_eq_getElem (by omega)]; rfl)
  exact ⟨A, c, hv⟩
set_option maxHeartbeats 8000000 in
set_option maxRecDepth 100000 in
theorem money_any (s : St) (hs : s.Ok) (w : World) (h : s.At w w.heap.size) (hf : s.Few) :
    Calls Try.prog 36 #[.agg s.cs] w fun e w' => ∃ m : Mon, e = .returned (.agg m.cs) ∧ m.Ok ∧ m.At w' w'.heap.size ∧ (m.most = s.most ∧ m.gen = s.gen ∧ m.mnt = s.mnt ∧ m.brn = s.brn ∧ m.trs = s.trs) ∧ (m.l1 = s.ms.map Mem.bal ∧ m.l2 = s.us ∧ m.l3 = s.ds.map Dep.am ∧ m.l4 = s.es.map Du.am) ∧ Below w.heap.size w w' := by
  obtain ⟨i0, hi0, hz0, hz1, hz2⟩ := info_parts PoolW.info_u64
  obtain ⟨ma, hma⟩ : ∃ x, s.ma = x := ⟨_, rfl⟩
  obtain ⟨qa, hqa⟩ : ∃ x, s.qa = x := ⟨_, rfl⟩
  obtain ⟨da, hda⟩ : ∃ x, s.da = x := ⟨_, rfl⟩
  have HMA := Lib.hid hma
  have HQA := Lib.hid hqa
  have HDA := Lib.hid hda
  clear hma hqa hda
  obtain ⟨f1, f2, f3, f4⟩ := hf
  have hb1 : Below w.heap.size w (w.alloc (.cells s.cs 63)) := (Below.refl _ _).alloc (Nat.le_refl _) _
  have hb2 := hb1.alloc hb1.size (.cells zmon 66)
  have hB1 : Blk ((w.alloc (.cells s.cs 63)).alloc (.cells zmon 66)) w.heap.size 63 s.cs := (Blk.new w _ _ _ rfl).alloc _
  have hB2 : Blk ((w.alloc (.cells s.cs 63)).alloc (.cells zmon 66)) (w.heap.size + 1) 66 zmon := Blk.new _ _ _ _ (by simp)
  obtain ⟨W1, hW1⟩ : ∃ W1, (w.alloc (.cells s.cs 63)).alloc (.cells #[.int .u64 0, .int .u64 0, .int .u64 0, .int .u64 0, .int .u64 0, .slice none 0 0, .slice none 0 0, .slice none 0 0, .slice none 0 0] 66) = W1 := ⟨_, rfl⟩
  have hsz : W1.heap.size = w.heap.size + 2 := by rw [← hW1]; simp
  replace hb2 : Below w.heap.size w W1 := by rw [← hW1]; exact hb2
  replace hB1 : Blk W1 w.heap.size 63 s.cs := by rw [← hW1]; exact hB1
  replace hB2 : Blk W1 (w.heap.size + 1) 66 zmon := by rw [← hW1]; exact hB2
  have HSZ := Lib.hid hsz
  have HB1 := Lib.hid hB1
  have HB2 := Lib.hid hB2
  have HS := Lib.hid hs
  have HA := Lib.hid h
  have HW1 := Lib.hid hW1
  have q24 := hB1.cell hs.c24
  have q25 := hB1.cell hs.c25
  have q26 := hB1.cell hs.c26
  have q27 := hB1.cell hs.c27
  have q28 := hB1.cell hs.c28
  have q32 := hB1.cell hs.c32
  have HL1 : Hid (∀ wr, Below w.heap.size w wr → SRow wr w.heap.size ma s.ml 6 (flat Mem.enc s.ms)) := Lib.hid (fun wr hb => by rw [← HMA.out]; exact h.ms.below hb)
  have HL2 : Hid (∀ wr, Below w.heap.size w wr → SRow wr w.heap.size qa s.ql 4 (flat Dep.enc s.ds)) := Lib.hid (fun wr hb => by rw [← HQA.out]; exact h.ds.below hb)
  have HL3 : Hid (∀ wr, Below w.heap.size w wr → SRow wr w.heap.size da s.dl 3 (flat Du.enc s.es)) := Lib.hid (fun wr hb => by rw [← HDA.out]; exact h.es.below hb)
  clear hb1 hB1 hB2 hs h hW1 hsz
  go_enter Try.func36, Try.ntmps36
  go_upto_region 1 with (fail)
  rw [HW1.out]
  go_wp2_with (refine wpList_store_new rfl 66 (.tmp 3) (.tmp 22) rfl (monC s (.slice none 0 0) (.slice none 0 0) (.slice none 0 0)) rfl rfl info_money rfl (one_monC s rfl rfl rfl) ?_)
  intro W2 hG hbG hsG
  have hb02 := hb2.trans (hbG.mono hb2.size)
  have HS1 := Lib.hid (HB1.out.to hbG)
  have HR1 := Lib.hid (HB2.out.to hbG)
  obtain ⟨g, hg⟩ : ∃ g, W1.heap.size = g := ⟨_, rfl⟩
  rw [hg] at hG hsG
  have HSg := HSZ.out
  rw [hg] at HSg
  have hg0 : w.heap.size < g := by omega
  have hg1 : w.heap.size + 1 < g := by omega
  have q33 : W2.cell? ⟨w.heap.size, 33, none⟩ = some (.slice ma s.ml s.mc) := by rw [← HMA.out]; exact HS1.out.cell HS.out.c33
  simp only [hg]
  clear HB1 HB2 hb2 hbG HW1 q24 q25 q26 q27 q28 q32 HSZ hg HSg
  go_wp2
  go_loopw [26] (fun kv wr => ∃ (k : Nat) (v : Value), kv = .int .i64 k ∧ k ≤ s.ml ∧ Keep g W2 (monC s (v) (.slice none 0 0) (.slice none 0 0)) v k ((s.ms.take k).map Mem.bal) w wr) (fun kv _ => s.ml - (intOf kv).toNat)
  case atStart => exact ⟨0, .slice none 0 0, rfl, Nat.zero_le _, hG, World.ownsRow_nil _ _ _ _, But.refl _ _, hb02⟩
  case round =>
    obtain ⟨w3, rfl⟩ : ∃ w3 : World, w3 = wr := ⟨_, rfl⟩
    obtain ⟨k, v, rfl, hk, hK⟩ := hrel
    by_cases hlt : k < s.ml
    · have e1 : decide (k < s.ml) = true := by simpa using hlt
      obtain ⟨d, hd⟩ : ∃ d, s.ms[k]? = some d := ⟨_, List.getElem?_eq_getElem (by rw [HA.out.ms.len Mem.len (by omega)]; exact hlt)⟩
      obtain ⟨ad, rfl, _, hcs⟩ := (HL1.out w3 hK.low).cell Mem.len hlt hd (by omega)
      have hc0 : w3.cell? (ad.add (k * 6)) = some (.int .u64 d.bal) := by have := hcs 0 _ rfl; rwa [Words.add_zero] at this
      have hc1 : w3.cell? ⟨(ad.add (k * 6)).block, (ad.add (k * 6)).off + 1, none⟩ = some (.int .u64 d.eff) := hcs 1 _ rfl
      have hc2 : w3.cell? ⟨(ad.add (k * 6)).block, (ad.add (k * 6)).off + 2, none⟩ = some (.int .u64 d.sco) := hcs 2 _ rfl
      have hc3 : w3.cell? ⟨(ad.add (k * 6)).block, (ad.add (k * 6)).off + 3, none⟩ = some (.int .i64 d.str) := hcs 3 _ rfl
      have hc4 : w3.cell? ⟨(ad.add (k * 6)).block, (ad.add (k * 6)).off + 4, none⟩ = some (.int .i64 d.own) := hcs 4 _ rfl
      have hc5 : w3.cell? ⟨(ad.add (k * 6)).block, (ad.add (k * 6)).off + 5, none⟩ = some (.int .i64 d.sta) := hcs 5 _ rfl
      have HT := Lib.hid (show s.ms.take (k + 1) = s.ms.take k ++ [d] by rw [List.take_add_one, hd]; rfl)
      have hsz2 := hK.but.size
      have hown1 := hK.own.alloc (.cells #[.int .u64 d.bal, .int .u64 d.eff, .int .u64 d.sco, .int .i64 d.str, .int .i64 d.own, .int .i64 d.sta] 115)
      have hblk2 := (hK.blk.alloc (.cells #[.int .u64 d.bal, .int .u64 d.eff, .int .u64 d.sco, .int .i64 d.str, .int .i64 d.own, .int .i64 d.sta] 115)).alloc (.cells #[.int .u64 d.bal] 22)
      have hbut2 := (hK.but.alloc (.cells #[.int .u64 d.bal, .int .u64 d.eff, .int .u64 d.sco, .int .i64 d.str, .int .i64 d.own, .int .i64 d.sta] 115)).alloc (.cells #[.int .u64 d.bal] 22)
      have hlow2 := (hK.low.alloc hK.low.size (.cells #[.int .u64 d.bal, .int .u64 d.eff, .int .u64 d.sco, .int .i64 d.str, .int .i64 d.own, .int .i64 d.sta] 115))
      have hlow3 := hlow2.alloc hlow2.size (.cells #[.int .u64 d.bal] 22)
      have q5 := (hK.blk.alloc (.cells #[.int .u64 d.bal, .int .u64 d.eff, .int .u64 d.sco, .int .i64 d.str, .int .i64 d.own, .int .i64 d.sta] 115)).cell (j := 5) (v := v) rfl
      have hown2 := hK.own
      have hls := hK.low.size
      clear hcs hd hK
      go_wp2_with (at_builtin; refine wpList_append_own _ rfl _ _ 31 rfl W2.heap.size 22 i0 (.int .u64 0) 1 8 Try.underlying31 hi0 hz0 hz1 hz2 rfl (by decide) _ _ _ rfl (hown1.alloc _) ⟨w3.heap.size + 1, 0, none⟩ 1 1 [.int .u64 d.bal] rfl rfl (cells_new _ _ _ _ (by simp)) ?_ ?_ ?_ ?_ ?_)
      · intro u hu; simp at hu; subst hu; rfl
      · unfold maxLen; omega
      · omega
      · simp; omega
      intro v' w7 hown' hgrow _
      obtain ⟨A', c', rfl⟩ := own_slice hown'
      have hrow : ∀ j, v.ownBlock = some j → W2.heap.size ≤ j := fun j hj => (hown2.lt j hj).1
      have hB7 := hblk2.grown hgrow (fun e => by have := hrow g e; omega)
      have q7 := hB7.cell (j := 5) (v := v) rfl
      have f7 := hB7.frozen 5
      have hB8 := hB7.set 5 (.slice A' (k + 1) c')
      have hbut8 := (hbut2.grown hgrow hrow).setCell (p := ⟨g, 5, none⟩) (.inl rfl) (.slice A' (k + 1) c')
      have hlow8 := (hlow3.grown hgrow (by simp; omega) (fun j hj => by have := hrow j hj; omega)).setCell (p := ⟨g, 5, none⟩) (by show w.heap.size ≤ g; omega) (.slice A' (k + 1) c')
      have HO := Lib.hid (show w7.ownsRow W2.heap.size 22 1 (.slice A' (k + 1) c') (k + 1) (((s.ms.take (k + 1)).map Mem.bal).map wv) by rw [HT.out, List.map_append, List.map_append, List.map_map, List.map_take]; exact hown')
      have HO8 := Lib.hid (ownsRow_setCell_below HO.out (a := ⟨g, 5, none⟩) (by show g < W2.heap.size; omega) (.slice A' (k + 1) c'))
      clear hgrow hown1 hblk2 hbut2 hlow2 hlow3 hown' hown2 hrow hB7
      go_wp2
      exact ⟨⟨k + 1, _, by go_num, by omega, hB8, HO8.out, hbut8, hlow8⟩, by simp [intOf]; omega⟩
    · have e1 : decide (k < s.ml) = false := by simpa using hlt
      obtain rfl : k = s.ml := by omega
      have hlen : s.ms.length = s.ml := HA.out.ms.len Mem.len (by omega)
      have hown3 := hK.own
      rw [List.take_of_length_le (by rw [hlen]; exact Nat.le_refl _)] at hown3
      obtain ⟨A1, k1, rfl, hlo1, hU1⟩ := urow_of (by rw [List.length_map]; exact hlen) HS.out.wms hown3
      have hb03 := hK.low
      have HS2 := Lib.hid (HS1.out.but hK.but (by omega))
      have HR2 := Lib.hid (HR1.out.but hK.but (by omega))
      have hG1 := hK.blk
      have hgs1 := hK.but.size
      have hne1 : ∀ ad, A1 = some ad → ad.block ≠ g := fun ad ha => by have := hlo1 ad ha; omega
      have HU1 := Lib.hid hU1
      have q36 : w3.cell? ⟨w.heap.size, 36, none⟩ = some (.slice qa s.ql s.qc) := by rw [← HQA.out]; exact HS2.out.cell HS.out.c36
      clear hown3 hU1 hK hlen
      go_wp2
      go_loopw [42] (fun kv wr => ∃ (k : Nat) (v : Value), kv = .int .i64 k ∧ k ≤ s.ql ∧ Keep g w3 (monC s (.slice A1 s.ml k1) (v) (.slice none 0 0)) v k ((s.ds.take k).map Dep.am) w wr) (fun kv _ => s.ql - (intOf kv).toNat)
      case atStart => exact ⟨0, .slice none 0 0, rfl, Nat.zero_le _, hG1, World.ownsRow_nil _ _ _ _, But.refl _ _, hb03⟩
      case round =>
        obtain ⟨w4, rfl⟩ : ∃ w4 : World, w4 = wr := ⟨_, rfl⟩
        obtain ⟨k, v, rfl, hk, hK⟩ := hrel
        by_cases hlt : k < s.ql
        · have e1 : decide (k < s.ql) = true := by simpa using hlt
          obtain ⟨d, hd⟩ : ∃ d, s.ds[k]? = some d := ⟨_, List.getElem?_eq_getElem (by rw [HA.out.ds.len Dep.len (by omega)]; exact hlt)⟩
          obtain ⟨ad, rfl, _, hcs⟩ := (HL2.out w4 hK.low).cell Dep.len hlt hd (by omega)
          have hc0 : w4.cell? (ad.add (k * 4)) = some (.int .i64 d.ac) := by have := hcs 0 _ rfl; rwa [Words.add_zero] at this
          have hc1 : w4.cell? ⟨(ad.add (k * 4)).block, (ad.add (k * 4)).off + 1, none⟩ = some (.int .i64 d.me) := hcs 1 _ rfl
          have hc2 : w4.cell? ⟨(ad.add (k * 4)).block, (ad.add (k * 4)).off + 2, none⟩ = some (.int .u64 d.am) := hcs 2 _ rfl
          have hc3 : w4.cell? ⟨(ad.add (k * 4)).block, (ad.add (k * 4)).off + 3, none⟩ = some (.bool d.nw) := hcs 3 _ rfl
          have HT := Lib.hid (show s.ds.take (k + 1) = s.ds.take k ++ [d] by rw [List.take_add_one, hd]; rfl)
          have hsz2 := hK.but.size
          have hown1 := hK.own.alloc (.cells #[.int .i64 d.ac, .int .i64 d.me, .int .u64 d.am, .bool d.nw] 80)
          have hblk2 := (hK.blk.alloc (.cells #[.int .i64 d.ac, .int .i64 d.me, .int .u64 d.am, .bool d.nw] 80)).alloc (.cells #[.int .u64 d.am] 22)
          have hbut2 := (hK.but.alloc (.cells #[.int .i64 d.ac, .int .i64 d.me, .int .u64 d.am, .bool d.nw] 80)).alloc (.cells #[.int .u64 d.am] 22)
          have hlow2 := (hK.low.alloc hK.low.size (.cells #[.int .i64 d.ac, .int .i64 d.me, .int .u64 d.am, .bool d.nw] 80))
          have hlow3 := hlow2.alloc hlow2.size (.cells #[.int .u64 d.am] 22)
          have q7 := (hK.blk.alloc (.cells #[.int .i64 d.ac, .int .i64 d.me, .int .u64 d.am, .bool d.nw] 80)).cell (j := 7) (v := v) rfl
          have hown2 := hK.own
          have hls := hK.low.size
          clear hcs hd hK
          go_wp2_with (at_builtin; refine wpList_append_own _ rfl _ _ 31 rfl w3.heap.size 22 i0 (.int .u64 0) 1 8 Try.underlying31 hi0 hz0 hz1 hz2 rfl (by decide) _ _ _ rfl (hown1.alloc _) ⟨w4.heap.size + 1, 0, none⟩ 1 1 [.int .u64 d.am] rfl rfl (cells_new _ _ _ _ (by simp)) ?_ ?_ ?_ ?_ ?_)
          · intro u hu; simp at hu; subst hu; rfl
          · unfold maxLen; omega
          · omega
          · simp; omega
          intro v' w7 hown' hgrow _
          obtain ⟨A', c', rfl⟩ := own_slice hown'
          have hrow : ∀ j, v.ownBlock = some j → w3.heap.size ≤ j := fun j hj => (hown2.lt j hj).1
          have hB7 := hblk2.grown hgrow (fun e => by have := hrow g e; omega)
          have q7 := hB7.cell (j := 7) (v := v) rfl
          have f7 := hB7.frozen 7
          have hB8 := hB7.set 7 (.slice A' (k + 1) c')
          have hbut8 := (hbut2.grown hgrow hrow).setCell (p := ⟨g, 7, none⟩) (.inl rfl) (.slice A' (k + 1) c')
          have hlow8 := (hlow3.grown hgrow (by simp; omega) (fun j hj => by have := hrow j hj; omega)).setCell (p := ⟨g, 7, none⟩) (by show w.heap.size ≤ g; omega) (.slice A' (k + 1) c')
          have HO := Lib.hid (show w7.ownsRow w3.heap.size 22 1 (.slice A' (k + 1) c') (k + 1) (((s.ds.take (k + 1)).map Dep.am).map wv) by rw [HT.out, List.map_append, List.map_append, List.map_map, List.map_take]; exact hown')
          have HO8 := Lib.hid (ownsRow_setCell_below HO.out (a := ⟨g, 7, none⟩) (by show g < w3.heap.size; omega) (.slice A' (k + 1) c'))
          clear hgrow hown1 hblk2 hbut2 hlow2 hlow3 hown' hown2 hrow hB7
          go_wp2
          exact ⟨⟨k + 1, _, by go_num, by omega, hB8, HO8.out, hbut8, hlow8⟩, by simp [intOf]; omega⟩
        · have e1 : decide (k < s.ql) = false := by simpa using hlt
          obtain rfl : k = s.ql := by omega
          have hlen : s.ds.length = s.ql := HA.out.ds.len Dep.len (by omega)
          have hown3 := hK.own
          rw [List.take_of_length_le (by rw [hlen]; exact Nat.le_refl _)] at hown3
          obtain ⟨A2, k2, rfl, hlo2, hU2⟩ := urow_of (by rw [List.length_map]; exact hlen) HS.out.wds hown3
          have hb04 := hK.low
          have HS3 := Lib.hid (HS2.out.but hK.but (by omega))
          have HR3 := Lib.hid (HR2.out.but hK.but (by omega))
          have hG2 := hK.blk
          have hgs2 := hK.but.size
          have hne2 : ∀ ad, A2 = some ad → ad.block ≠ g := fun ad ha => by have := hlo2 ad ha; omega
          have HU2 := Lib.hid hU2
          have HV1_2 := Lib.hid (urow_but HU1.out hK.but hne1)
          have q37 : w4.cell? ⟨w.heap.size, 37, none⟩ = some (.slice da s.dl s.dc) := by rw [← HDA.out]; exact HS3.out.cell HS.out.c37
          clear hown3 hU2 hK hlen
          go_wp2
          go_loopw [57] (fun kv wr => ∃ (k : Nat) (v : Value), kv = .int .i64 k ∧ k ≤ s.dl ∧ Keep g w4 (monC s (.slice A1 s.ml k1) (.slice A2 s.ql k2) (v)) v k ((s.es.take k).map Du.am) w wr) (fun kv _ => s.dl - (intOf kv).toNat)
          case atStart => exact ⟨0, .slice none 0 0, rfl, Nat.zero_le _, hG2, World.ownsRow_nil _ _ _ _, But.refl _ _, hb04⟩
          case round =>
            obtain ⟨w5, rfl⟩ : ∃ w5 : World, w5 = wr := ⟨_, rfl⟩
            obtain ⟨k, v, rfl, hk, hK⟩ := hrel
            by_cases hlt : k < s.dl
            · have e1 : decide (k < s.dl) = true := by simpa using hlt
              obtain ⟨d, hd⟩ : ∃ d, s.es[k]? = some d := ⟨_, List.getElem?_eq_getElem (by rw [HA.out.es.len Du.len (by omega)]; exact hlt)⟩
              obtain ⟨ad, rfl, _, hcs⟩ := (HL3.out w5 hK.low).cell Du.len hlt hd (by omega)
              have hc0 : w5.cell? (ad.add (k * 3)) = some (.int .i64 d.ac) := by have := hcs 0 _ rfl; rwa [Words.add_zero] at this
              have hc1 : w5.cell? ⟨(ad.add (k * 3)).block, (ad.add (k * 3)).off + 1, none⟩ = some (.int .i64 d.ti) := hcs 1 _ rfl
              have hc2 : w5.cell? ⟨(ad.add (k * 3)).block, (ad.add (k * 3)).off + 2, none⟩ = some (.int .u64 d.am) := hcs 2 _ rfl
              have HT := Lib.hid (show s.es.take (k + 1) = s.es.take k ++ [d] by rw [List.take_add_one, hd]; rfl)
              have hsz2 := hK.but.size
              have hown1 := hK.own.alloc (.cells #[.int .i64 d.ac, .int .i64 d.ti, .int .u64 d.am] 96)
              have hblk2 := (hK.blk.alloc (.cells #[.int .i64 d.ac, .int .i64 d.ti, .int .u64 d.am] 96)).alloc (.cells #[.int .u64 d.am] 22)
              have hbut2 := (hK.but.alloc (.cells #[.int .i64 d.ac, .int .i64 d.ti, .int .u64 d.am] 96)).alloc (.cells #[.int .u64 d.am] 22)
              have hlow2 := (hK.low.alloc hK.low.size (.cells #[.int .i64 d.ac, .int .i64 d.ti, .int .u64 d.am] 96))
              have hlow3 := hlow2.alloc hlow2.size (.cells #[.int .u64 d.am] 22)
              have q8 := (hK.blk.alloc (.cells #[.int .i64 d.ac, .int .i64 d.ti, .int .u64 d.am] 96)).cell (j := 8) (v := v) rfl
              have hown2 := hK.own
              have hls := hK.low.size
              clear hcs hd hK
              go_wp2_with (at_builtin; refine wpList_append_own _ rfl _ _ 31 rfl w4.heap.size 22 i0 (.int .u64 0) 1 8 Try.underlying31 hi0 hz0 hz1 hz2 rfl (by decide) _ _ _ rfl (hown1.alloc _) ⟨w5.heap.size + 1, 0, none⟩ 1 1 [.int .u64 d.am] rfl rfl (cells_new _ _ _ _ (by simp)) ?_ ?_ ?_ ?_ ?_)
              · intro u hu; simp at hu; subst hu; rfl
              · unfold maxLen; omega
              · omega
              · simp; omega
              intro v' w7 hown' hgrow _
              obtain ⟨A', c', rfl⟩ := own_slice hown'
              have hrow : ∀ j, v.ownBlock = some j → w4.heap.size ≤ j := fun j hj => (hown2.lt j hj).1
              have hB7 := hblk2.grown hgrow (fun e => by have := hrow g e; omega)
              have q7 := hB7.cell (j := 8) (v := v) rfl
              have f7 := hB7.frozen 8
              have hB8 := hB7.set 8 (.slice A' (k + 1) c')
              have hbut8 := (hbut2.grown hgrow hrow).setCell (p := ⟨g, 8, none⟩) (.inl rfl) (.slice A' (k + 1) c')
              have hlow8 := (hlow3.grown hgrow (by simp; omega) (fun j hj => by have := hrow j hj; omega)).setCell (p := ⟨g, 8, none⟩) (by show w.heap.size ≤ g; omega) (.slice A' (k + 1) c')
              have HO := Lib.hid (show w7.ownsRow w4.heap.size 22 1 (.slice A' (k + 1) c') (k + 1) (((s.es.take (k + 1)).map Du.am).map wv) by rw [HT.out, List.map_append, List.map_append, List.map_map, List.map_take]; exact hown')
              have HO8 := Lib.hid (ownsRow_setCell_below HO.out (a := ⟨g, 8, none⟩) (by show g < w4.heap.size; omega) (.slice A' (k + 1) c'))
              clear hgrow hown1 hblk2 hbut2 hlow2 hlow3 hown' hown2 hrow hB7
              go_wp2
              exact ⟨⟨k + 1, _, by go_num, by omega, hB8, HO8.out, hbut8, hlow8⟩, by simp [intOf]; omega⟩
            · have e1 : decide (k < s.dl) = false := by simpa using hlt
              obtain rfl : k = s.dl := by omega
              have hlen : s.es.length = s.dl := HA.out.es.len Du.len (by omega)
              have hown3 := hK.own
              rw [List.take_of_length_le (by rw [hlen]; exact Nat.le_refl _)] at hown3
              obtain ⟨A3, k3, rfl, hlo3, hU3⟩ := urow_of (by rw [List.length_map]; exact hlen) HS.out.wes hown3
              have hb05 := hK.low
              have HS4 := Lib.hid (HS3.out.but hK.but (by omega))
              have HR4 := Lib.hid (HR3.out.but hK.but (by omega))
              have hG3 := hK.blk
              have hgs3 := hK.but.size
              have hne3 : ∀ ad, A3 = some ad → ad.block ≠ g := fun ad ha => by have := hlo3 ad ha; omega
              have HU3 := Lib.hid hU3
              have HV1_3 := Lib.hid (urow_but HV1_2.out hK.but hne1)
              have HV2_3 := Lib.hid (urow_but HU2.out hK.but hne2)
              clear hown3 hU3 hK hlen
              go_wp2_with (first
                | refine wpList_load_blk rfl 66 (.tmp 3) rfl g rfl 66 (monC s (.slice A1 s.ml k1) (.slice A2 s.ql k2) (.slice A3 s.dl k3)) _ hG3 Try.underlying66 rfl info_money ?_
                | refine wpList_store_but rfl 66 (.tmp 2) (.tmp 69) rfl (w.heap.size + 1) (monC s (.slice A1 s.ml k1) (.slice A2 s.ql k2) (.slice A3 s.dl k3)) rfl rfl 66 _ HR4.out info_money rfl (one_monC s rfl rfl rfl) ?_)
              intro w6 hB6 hbut6
              have hb06 := below_but hb05 hbut6 (by omega) hb05.size
              have hus := HA.out.us.to hb06
              have x1 := urow_but HV1_3.out hbut6 (fun ad ha => by have := hlo1 ad ha; omega)
              have x2 := urow_but HV2_3.out hbut6 (fun ad ha => by have := hlo2 ad ha; omega)
              have x3 := urow_but HU3.out hbut6 (fun ad ha => by have := hlo3 ad ha; omega)
              have hm : Mon.Ok ⟨s.most, s.gen, s.mnt, s.brn, s.trs, A1, s.ml, k1, s.ms.map Mem.bal, s.pa, s.pl, s.pc, s.us, A2, s.ql, k2, s.ds.map Dep.am, A3, s.dl, k3, s.es.map Du.am⟩ := ⟨HS.out.most, HS.out.gen, HS.out.mnt, HS.out.brn, HS.out.trs, by show s.ml ≤ 400; omega, by show s.pl ≤ 400; omega, f3, f4⟩
              clear HV1_3 HV2_3 HU3
              go_wp2
              exact bodyPost_ret (v := .agg (monC s (.slice A1 s.ml k1) (.slice A2 s.ql k2) (.slice A3 s.dl k3))) (results_c Try.results36 _ _ _ _ _ _ rfl hB6 Try.underlying66 rfl info_money) rfl ⟨⟨s.most, s.gen, s.mnt, s.brn, s.trs, A1, s.ml, k1, s.ms.map Mem.bal, s.pa, s.pl, s.pc, s.us, A2, s.ql, k2, s.ds.map Dep.am, A3, s.dl, k3, s.es.map Du.am⟩, rfl, hm, ⟨x1, hus, x2, x3⟩, ⟨rfl, rfl, rfl, rfl, rfl⟩, ⟨rfl, rfl, rfl, rfl⟩, hb06⟩
end Go.Proofs.Ytdjeedmiicagcaa.SupplyW
