/- The walks of the pool, second part: amounts, Sum, the document's lists. Conditions: rows are read rightly and are not too long. Printed by gen_pool2.py. -/
import Derived.Test.YtdjeedmiicagcaaPool1
import Derived.Test.YtdjeedmiicagcaaPurse5
namespace Go.Proofs.Ytdjeedmiicagcaa.PoolW
open Go.RowKit
open Go.Proofs.Ytdjeedmiicagcaa.Words Go.Proofs.Ytdjeedmiicagcaa.NatW Go.Proofs.Ytdjeedmiicagcaa.PurseW

/-- a deposit, a due -/
structure Dep where
  ac : Int
  me : Int
  am : Nat
  nw : Bool
structure Du where
  ac : Int
  ti : Int
  am : Nat
def Dep.enc (d : Dep) : List Value := [.int .i64 d.ac, .int .i64 d.me, .int .u64 d.am, .bool d.nw]
def Du.enc (d : Du) : List Value := [.int .i64 d.ac, .int .i64 d.ti, .int .u64 d.am]
theorem Dep.len (d : Dep) : d.enc.length = 4 := rfl
theorem Du.len (d : Du) : d.enc.length = 3 := rfl
theorem Dep.one (ds : List Dep) : ∀ u ∈ flat Dep.enc ds, u.oneCell' = true := fun u hu => by
  obtain ⟨d, _, hd⟩ := List.mem_flatMap.1 hu
  simp [Dep.enc] at hd
  rcases hd with rfl | rfl | rfl | rfl <;> rfl
theorem Du.one (ds : List Du) : ∀ u ∈ flat Du.enc ds, u.oneCell' = true := fun u hu => by
  obtain ⟨d, _, hd⟩ := List.mem_flatMap.1 hu
  simp [Du.enc] at hd
  rcases hd with rfl | rfl | rfl <;> rfl
theorem info_u64 : (Try.prog.info? 22).map (fun i => (i.zero, i.size, i.bytes)) = some (some (.int .u64 0), 1, 8) := by kernel_rfl
def wv (n : Nat) : Value := .int .u64 n
theorem wv_at {us : List Nat} {j : Nat} (h : j < us.length) : (us.map wv)[j]? = some (.int .u64 (un us j : Nat)) := by
  rw [List.getElem?_map, un, List.getD_eq_getElem?_getD, List.getElem?_eq_getElem h]; rfl
theorem urow_of {w : World} {base : Nat} {e : TypeId} {v : Value} {n : Nat} {us : List Nat} (hl : us.length = n) (hw : Wd us) (h : w.ownsRow base e 1 v n (us.map wv)) : ∃ A c, v = .slice A n c ∧ (∀ ad, A = some ad → base ≤ ad.block) ∧ URow w w.heap.size A n us := by
  obtain ⟨A, c, hv, _, _, hlo, hr⟩ := Rd.own h (fun j hj => wv_at (by omega))
  exact ⟨A, c, hv, hlo, hl, hw, hr⟩
theorem own_to' {w w' : World} {b n s : Nat} {e : TypeId} {v : Value} {xs : List Value} (h : w.ownsRow b e s v n xs) (hb : Below w.heap.size w w') : w'.ownsRow b e s v n xs :=
  h.kept (row := none) ⟨hb.os, hb.tape, hb.output, hb.size, fun i hi _ => hb.block i hi⟩ (by cases v.ownBlock <;> simp)
theorem own_low {w : World} {b b' n s : Nat} {e : TypeId} {v : Value} {xs : List Value} (h : w.ownsRow b' e s v n xs) (hb : b ≤ b') : w.ownsRow b e s v n xs := by
  refine ⟨h.1, ?_⟩
  rcases h.2 with h2 | ⟨g, cap, cur, hv, hg, rest⟩
  · exact .inl h2
  · exact .inr ⟨g, cap, cur, hv, Nat.le_trans hb hg, rest⟩
theorem cells_new (w : World) (xs : List Value) (e : TypeId) (n : Nat) (hn : n = w.heap.size) : ∀ j u, xs[j]? = some u → (w.alloc (.cells xs.toArray e)).cell? ((⟨n, 0, none⟩ : Addr).add j) = some u := fun j u hu => by
  rw [add0, World.cell?_alloc_at _ _ _ _ hn]
  simpa using hu
theorem am_dep (d : Dep) (w : World) : Calls Try.prog 76 #[.agg #[.int .i64 d.ac, .int .i64 d.me, .int .u64 d.am, .bool d.nw]] w fun e w' => e = .returned (.int .u64 d.am) ∧ Below w.heap.size w w' := by
  go_enter Try.func76, Try.ntmps76
  go_wp2
  go_ret
  exact ⟨rfl, (Below.refl _ _).alloc (Nat.le_refl _) _⟩
theorem am_due (d : Du) (w : World) : Calls Try.prog 78 #[.agg #[.int .i64 d.ac, .int .i64 d.ti, .int .u64 d.am]] w fun e w' => e = .returned (.int .u64 d.am) ∧ Below w.heap.size w w' := by
  go_enter Try.func78, Try.ntmps78
  go_wp2
  go_ret
  exact ⟨rfl, (Below.refl _ _).alloc (Nat.le_refl _) _⟩

set_option maxHeartbeats 1000000 in
theorem amounts_dep (A : Option Addr) (n c : Nat) (ds : List Dep) (w : World) (h : SRow w w.heap.size A n 4 (flat Dep.enc ds)) (hn : n ≤ 1000) :
    Calls Try.prog 75 #[.slice A n c, .func (.func 76) #[] #[]] w fun e w' => ∃ v, e = .returned v ∧ w'.ownsRow w.heap.size 22 1 v n ((ds.map Dep.am).map wv) ∧ Below w.heap.size w w' := by
  obtain ⟨i0, hi0, hz0, hz1, hz2⟩ := info_parts info_u64
  have HL := Lib.hid (h.len Dep.len (by omega))
  have HR := Lib.hid (fun (W : World) (hb : Below w.heap.size w W) => h.below hb)
  clear h
  go_enter Try.func75, Try.ntmps75
  go_wp2
  go_loopw [5, 10] (fun sv kv wr => ∃ k : Nat, kv = .int .i64 k ∧ k ≤ n ∧ wr.ownsRow w.heap.size 22 1 sv k (((ds.take k).map Dep.am).map wv) ∧ Below w.heap.size w wr) (fun _ kv _ => n - (intOf kv).toNat)
  case atStart => exact ⟨0, rfl, Nat.zero_le _, World.ownsRow_nil _ _ _ _, Below.refl _ _⟩
  case round =>
    obtain ⟨k, rfl, hk, hown, hbr⟩ := hrel
    by_cases hlt : k < n
    · have e1 : decide (k < n) = true := by simpa using hlt
      obtain ⟨d, hd⟩ : ∃ d, ds[k]? = some d := ⟨_, List.getElem?_eq_getElem (by rw [HL.out]; exact hlt)⟩
      obtain ⟨ad, rfl, _, hcs⟩ := (HR.out wr hbr).cell Dep.len hlt hd (by omega)
      have hc0 : wr.cell? (ad.add (k * 4)) = some (.int .i64 d.ac) := by have := hcs 0 _ rfl; rwa [Words.add_zero] at this
      have hc1 : wr.cell? ⟨(ad.add (k * 4)).block, (ad.add (k * 4)).off + 1, none⟩ = some (.int .i64 d.me) := hcs 1 _ rfl
      have hc2 : wr.cell? ⟨(ad.add (k * 4)).block, (ad.add (k * 4)).off + 2, none⟩ = some (.int .u64 d.am) := hcs 2 _ rfl
      have hc3 : wr.cell? ⟨(ad.add (k * 4)).block, (ad.add (k * 4)).off + 3, none⟩ = some (.bool d.nw) := hcs 3 _ rfl
      have HT := Lib.hid (show ds.take (k + 1) = ds.take k ++ [d] by rw [List.take_add_one, hd]; rfl)
      have hs := hbr.size
      have hb1 := hbr.alloc hs (.cells #[.int .i64 d.ac, .int .i64 d.me, .int .u64 d.am, .bool d.nw] 80)
      have hown1 := hown.alloc (.cells #[.int .i64 d.ac, .int .i64 d.me, .int .u64 d.am, .bool d.nw] 80)
      clear hcs hd hown hbr
      go_wp2_with fail
      refine (am_dep d _).mono ?_
      rintro e w2 ⟨rfl, hb2⟩
      have hown2 := own_to' hown1 hb2
      have hb3 := hb1.trans (hb2.mono hb1.size)
      have hs3 := hb3.size
      clear hown1 hb1 hb2
      go_wp2_with (at_builtin; refine wpList_append_own _ rfl _ _ 31 rfl w.heap.size 22 i0 (.int .u64 0) 1 8 Try.underlying31 hi0 hz0 hz1 hz2 rfl (by decide) _ _ _ rfl (hown2.alloc _) ⟨w2.heap.size, 0, none⟩ 1 1 [.int .u64 d.am] rfl rfl (cell_one_new _ _ _) ?_ ?_ ?_ ?_ ?_)
      · intro u hu; simp at hu; subst hu; rfl
      · unfold maxLen; omega
      · omega
      · simp; omega
      intro v' w7 hown' hgrow _
      have hb7 := app_below hb3 hown2 hgrow
      have HO := Lib.hid (show w7.ownsRow w.heap.size 22 1 v' (k + 1) (((ds.take (k + 1)).map Dep.am).map wv) by rw [HT.out, List.map_append, List.map_append]; have h0 := hown'; simp at h0 ⊢; exact h0)
      clear hgrow hown2 hb3 hown'
      go_wp2
      exact ⟨⟨k + 1, by go_num, by omega, HO.out, hb7⟩, by simp [intOf]; omega⟩
    · have e1 : decide (k < n) = false := by simpa using hlt
      obtain rfl : k = n := by omega
      rw [List.take_of_length_le (by rw [HL.out]; exact Nat.le_refl _)] at hown
      have HO := Lib.hid hown
      clear hown
      go_wp2
      go_ret
      exact ⟨_, rfl, HO.out, hbr⟩

set_option maxHeartbeats 1000000 in
theorem amounts_due (A : Option Addr) (n c : Nat) (ds : List Du) (w : World) (h : SRow w w.heap.size A n 3 (flat Du.enc ds)) (hn : n ≤ 1000) :
    Calls Try.prog 77 #[.slice A n c, .func (.func 78) #[] #[]] w fun e w' => ∃ v, e = .returned v ∧ w'.ownsRow w.heap.size 22 1 v n ((ds.map Du.am).map wv) ∧ Below w.heap.size w w' := by
  obtain ⟨i0, hi0, hz0, hz1, hz2⟩ := info_parts info_u64
  have HL := Lib.hid (h.len Du.len (by omega))
  have HR := Lib.hid (fun (W : World) (hb : Below w.heap.size w W) => h.below hb)
  clear h
  go_enter Try.func77, Try.ntmps77
  go_wp2
  go_loopw [5, 10] (fun sv kv wr => ∃ k : Nat, kv = .int .i64 k ∧ k ≤ n ∧ wr.ownsRow w.heap.size 22 1 sv k (((ds.take k).map Du.am).map wv) ∧ Below w.heap.size w wr) (fun _ kv _ => n - (intOf kv).toNat)
  case atStart => exact ⟨0, rfl, Nat.zero_le _, World.ownsRow_nil _ _ _ _, Below.refl _ _⟩
  case round =>
    obtain ⟨k, rfl, hk, hown, hbr⟩ := hrel
    by_cases hlt : k < n
    · have e1 : decide (k < n) = true := by simpa using hlt
      obtain ⟨d, hd⟩ : ∃ d, ds[k]? = some d := ⟨_, List.getElem?_eq_getElem (by rw [HL.out]; exact hlt)⟩
      obtain ⟨ad, rfl, _, hcs⟩ := (HR.out wr hbr).cell Du.len hlt hd (by omega)
      have hc0 : wr.cell? (ad.add (k * 3)) = some (.int .i64 d.ac) := by have := hcs 0 _ rfl; rwa [Words.add_zero] at this
      have hc1 : wr.cell? ⟨(ad.add (k * 3)).block, (ad.add (k * 3)).off + 1, none⟩ = some (.int .i64 d.ti) := hcs 1 _ rfl
      have hc2 : wr.cell? ⟨(ad.add (k * 3)).block, (ad.add (k * 3)).off + 2, none⟩ = some (.int .u64 d.am) := hcs 2 _ rfl
      have HT := Lib.hid (show ds.take (k + 1) = ds.take k ++ [d] by rw [List.take_add_one, hd]; rfl)
      have hs := hbr.size
      have hb1 := hbr.alloc hs (.cells #[.int .i64 d.ac, .int .i64 d.ti, .int .u64 d.am] 96)
      have hown1 := hown.alloc (.cells #[.int .i64 d.ac, .int .i64 d.ti, .int .u64 d.am] 96)
      clear hcs hd hown hbr
      go_wp2_with fail
      refine (am_due d _).mono ?_
      rintro e w2 ⟨rfl, hb2⟩
      have hown2 := own_to' hown1 hb2
      have hb3 := hb1.trans (hb2.mono hb1.size)
      have hs3 := hb3.size
      clear hown1 hb1 hb2
      go_wp2_with (at_builtin; refine wpList_append_own _ rfl _ _ 31 rfl w.heap.size 22 i0 (.int .u64 0) 1 8 Try.underlying31 hi0 hz0 hz1 hz2 rfl (by decide) _ _ _ rfl (hown2.alloc _) ⟨w2.heap.size, 0, none⟩ 1 1 [.int .u64 d.am] rfl rfl (cell_one_new _ _ _) ?_ ?_ ?_ ?_ ?_)
      · intro u hu; simp at hu; subst hu; rfl
      · unfold maxLen; omega
      · omega
      · simp; omega
      intro v' w7 hown' hgrow _
      have hb7 := app_below hb3 hown2 hgrow
      have HO := Lib.hid (show w7.ownsRow w.heap.size 22 1 v' (k + 1) (((ds.take (k + 1)).map Du.am).map wv) by rw [HT.out, List.map_append, List.map_append]; have h0 := hown'; simp at h0 ⊢; exact h0)
      clear hgrow hown2 hb3 hown'
      go_wp2
      exact ⟨⟨k + 1, by go_num, by omega, HO.out, hb7⟩, by simp [intOf]; omega⟩
    · have e1 : decide (k < n) = false := by simpa using hlt
      obtain rfl : k = n := by omega
      rw [List.take_of_length_le (by rw [HL.out]; exact Nat.le_refl _)] at hown
      have HO := Lib.hid hown
      clear hown
      go_wp2
      go_ret
      exact ⟨_, rfl, HO.out, hbr⟩

/-- what a sum is, or why there is none -/
def sumr (us : List Nat) (r : Nat × Int) : Prop := r = if sm us us.length < 18446744073709551616 then (sm us us.length, 0) else (0, 10)
theorem msum_any (A : Option Addr) (n c L : Nat) (us : List Nat) (w : World) (h : URow w L A n us) (hn : n ≤ 1000) (r : Nat × Int) (hr : sumr us r) :
    Calls Try.prog 66 #[.slice A n c] w fun e w' => e = .returned (.tuple #[.int .u64 r.1, .int .i64 r.2]) ∧ w = w' := by
  unfold sumr at hr
  rw [h.1] at hr
  by_cases hs : sm us n < 18446744073709551616
  · rw [if_pos hs] at hr; subst hr; exact msum_ok A n c L us w h hn hs
  · rw [if_neg hs] at hr; subst hr; exact msum_bad A n c L us w h hn (by omega)
/-- the amounts of deposits and dues -/
def ams (ds : List Dep) (es : List Du) : List Nat := ds.map Dep.am ++ es.map Du.am
set_option maxHeartbeats 1000000 in
theorem psum_any (A B : Option Addr) (n c m d : Nat) (ds : List Dep) (es : List Du) (w : World) (h : SRow w w.heap.size A n 4 (flat Dep.enc ds)) (h' : SRow w w.heap.size B m 3 (flat Du.enc es)) (hn : n ≤ 400) (hm : m ≤ 400)
    (hw : Wd (ams ds es)) (r : Nat × Int) (hr : sumr (ams ds es) r) :
    Calls Try.prog 51 #[.slice A n c, .slice B m d] w fun e w' => e = .returned (.tuple #[.int .u64 r.1, .int .i64 r.2]) ∧ Below w.heap.size w w' := by
  obtain ⟨i0, hi0, hz0, hz1, hz2⟩ := info_parts info_u64
  have HA := Lib.hid (amounts_dep A n c ds w h (by omega))
  have HB := Lib.hid (fun (W : World) (hb : Below w.heap.size w W) => amounts_due B m d es W (h'.to hb) (by omega))
  have hl1 := h.len Dep.len (by omega)
  have hl2 := h'.len Du.len (by omega)
  have HL := Lib.hid (show (ams ds es).length = n + m by simp [ams, hl1, hl2])
  have HL2 := Lib.hid (show (es.map Du.am).length = m by simp [hl2])
  have HW := Lib.hid hw
  have HW2 := Lib.hid (show Wd (es.map Du.am) from fun b hb => hw b (List.mem_append.2 (.inr hb)))
  have HR := Lib.hid hr
  obtain ⟨ra, rb⟩ := r
  clear h h' hl1 hl2 hw hr
  go_enter Try.func51, Try.ntmps51
  go_wp2_with fail
  refine HA.out.mono ?_
  rintro e w1 ⟨v1, rfl, ho1, hb1⟩
  have hs1 := hb1.size
  clear HA
  go_wp2_with fail
  refine (HB.out w1 hb1).mono ?_
  rintro e w2 ⟨v2, rfl, ho2, hb2⟩
  have hs2 := hb2.size
  have ho1' := own_to' ho1 hb2
  have hbb := hb1.trans (hb2.mono hs1)
  obtain ⟨A2, c2, rfl, _, hu2⟩ := urow_of HL2.out HW2.out ho2
  have hx : (List.range m).map (fun j => Value.int .u64 (un (es.map Du.am) j : Nat)) = (es.map Du.am).map wv := by
    apply List.ext_getElem (by have := HL2.out; simp at this ⊢; omega)
    intro j g1 g2
    have g3 : j < (es.map Du.am).length := by have := HL2.out; simp at g1 ⊢; simp at this; omega
    have := wv_at g3
    rw [List.getElem?_eq_getElem g2] at this
    have := Option.some.inj this
    rw [this]; simp
  have HX := Lib.hid hx
  clear HB ho1 ho2 hb1 hb2 hx
  go_wp2_with (at_builtin; refine wpList_append_whole _ rfl _ _ 31 rfl w.heap.size 22 i0 (.int .u64 0) 8 Try.underlying31 hi0 hz0 hz1 hz2 rfl _ _ _ rfl ho1' A2 m c2 _ rfl hu2.2.2 (fun _ => rfl) ?_ ?_ (by omega) ?_)
  · unfold maxLen; omega
  · omega
  intro v3 w3 ho3 hg3
  have hb3 := hbb.grown hg3 (by omega) (fun j hj => (ho1'.lt j hj).1)
  have ho4 : w3.ownsRow w.heap.size 22 1 v3 (n + m) ((ams ds es).map wv) := by
    have e : (ams ds es).map wv = (ds.map Dep.am).map wv ++ (es.map Du.am).map wv := by simp [ams]
    rw [e, ← HX.out]
    simpa using ho3
  obtain ⟨A4, c4, rfl, _, hu4⟩ := urow_of HL.out HW.out ho4
  have HS := Lib.hid (msum_any A4 (n + m) c4 _ (ams ds es) w3 hu4 (by omega) _ HR.out)
  clear ho3 hg3 ho4 hu4 hbb ho1' hu2
  generalize n + m = nm at *
  simp only at HS
  go_wp2_with fail
  refine HS.out.mono ?_
  rintro e w' ⟨rfl, rfl⟩
  go_wp2
  go_ret2
  exact ⟨rfl, hb3⟩

theorem info_deps_any : (Try.prog.info? 87).map (fun i => (i.zero, i.size, i.bytes)) = some (some (.agg #[.int .i64 0, .int .i64 0, .int .u64 0, .bool false]), 4, 32) := by kernel_rfl
set_option maxHeartbeats 1000000 in
theorem deps_any (A : Option Addr) (n c : Nat) (ds : List Dep) (w : World) (h : SRow w w.heap.size A n 4 (flat Dep.enc ds)) (hn : n ≤ 1000) :
    Calls Try.prog 49 #[.slice A n c] w fun e w' => ∃ A' c', e = .returned (.slice A' n c') ∧ SRow w' w'.heap.size A' n 4 (flat Dep.enc ds) ∧ (∀ ad, A' = some ad → w.heap.size ≤ ad.block) ∧ Below w.heap.size w w' := by
  obtain ⟨i0, hi0, hz0, hz1, hz2⟩ := info_parts info_deps_any
  have HL := Lib.hid (h.len Dep.len (by omega))
  have HR := Lib.hid (fun (W : World) (hb : Below w.heap.size w W) => h.below hb)
  clear h
  go_enter Try.func49, Try.ntmps49
  go_wp2
  go_loopw [3, 8] (fun sv kv wr => ∃ k : Nat, kv = .int .i64 k ∧ k ≤ n ∧ wr.ownsRow w.heap.size 87 4 sv k (flat Dep.enc (ds.take k)) ∧ Below w.heap.size w wr) (fun _ kv _ => n - (intOf kv).toNat)
  case atStart => exact ⟨0, rfl, Nat.zero_le _, World.ownsRow_nil _ _ _ _, Below.refl _ _⟩
  case round =>
    obtain ⟨k, rfl, hk, hown, hbr⟩ := hrel
    by_cases hlt : k < n
    · have e1 : decide (k < n) = true := by simpa using hlt
      obtain ⟨d, hd⟩ : ∃ d, ds[k]? = some d := ⟨_, List.getElem?_eq_getElem (by rw [HL.out]; exact hlt)⟩
      obtain ⟨ad, rfl, _, hcs⟩ := (HR.out wr hbr).cell Dep.len hlt hd (by omega)
      have hc0 : wr.cell? (ad.add (k * 4)) = some (.int .i64 d.ac) := by have := hcs 0 _ rfl; rwa [Words.add_zero] at this
      have hc1 : wr.cell? ⟨(ad.add (k * 4)).block, (ad.add (k * 4)).off + 1, none⟩ = some (.int .i64 d.me) := hcs 1 _ rfl
      have hc2 : wr.cell? ⟨(ad.add (k * 4)).block, (ad.add (k * 4)).off + 2, none⟩ = some (.int .u64 d.am) := hcs 2 _ rfl
      have hc3 : wr.cell? ⟨(ad.add (k * 4)).block, (ad.add (k * 4)).off + 3, none⟩ = some (.bool d.nw) := hcs 3 _ rfl
      have HT := Lib.hid (show ds.take (k + 1) = ds.take k ++ [d] by rw [List.take_add_one, hd]; rfl)
      have hs := hbr.size
      have hb1 := hbr.alloc hs (.cells #[.int .i64 d.ac, .int .i64 d.me, .int .u64 d.am, .bool d.nw] 80)
      have hown1 := hown.alloc (.cells #[.int .i64 d.ac, .int .i64 d.me, .int .u64 d.am, .bool d.nw] 80)
      have hs1 := hb1.size
      clear hcs hd hown hbr
      go_wp2_with (at_builtin; refine wpList_append_own _ rfl _ _ 83 rfl w.heap.size 87 i0 (.agg #[.int .i64 0, .int .i64 0, .int .u64 0, .bool false]) 4 32 Try.underlying83 hi0 hz0 hz1 hz2 rfl (by decide) _ _ _ rfl (hown1.alloc _) ⟨wr.heap.size + 1, 0, none⟩ 1 1 (Dep.enc d) rfl rfl (cells_new _ _ _ _ (by simp)) ?_ ?_ ?_ ?_ ?_)
      · intro u hu; exact Dep.one [d] u (by rw [flat_one]; exact hu)
      · unfold maxLen; omega
      · omega
      · simp; omega
      intro v' w7 hown' hgrow _
      have hb7 := app_below hb1 hown1 hgrow
      have HO := Lib.hid (show w7.ownsRow w.heap.size 87 4 v' (k + 1) (flat Dep.enc (ds.take (k + 1))) by rw [HT.out, flat_append, flat_one]; exact hown')
      clear hgrow hown1 hb1 hown'
      go_wp2
      exact ⟨⟨k + 1, by go_num, by omega, HO.out, hb7⟩, by simp [intOf]; omega⟩
    · have e1 : decide (k < n) = false := by simpa using hlt
      obtain rfl : k = n := by omega
      rw [List.take_of_length_le (by rw [HL.out]; exact Nat.le_refl _)] at hown
      obtain ⟨A', c', rfl, _, _, hlo, hr⟩ := SRow.own hown
      have HO := Lib.hid hr
      have HLo := Lib.hid hlo
      clear hown hr hlo
      go_wp2
      go_ret
      exact ⟨A', c', rfl, HO.out, HLo.out, hbr⟩

theorem info_dues_any : (Try.prog.info? 125).map (fun i => (i.zero, i.size, i.bytes)) = some (some (.agg #[.int .i64 0, .int .i64 0, .int .u64 0]), 3, 24) := by kernel_rfl
set_option maxHeartbeats 1000000 in
theorem dues_any (A : Option Addr) (n c : Nat) (ds : List Du) (w : World) (h : SRow w w.heap.size A n 3 (flat Du.enc ds)) (hn : n ≤ 1000) :
    Calls Try.prog 53 #[.slice A n c] w fun e w' => ∃ A' c', e = .returned (.slice A' n c') ∧ SRow w' w'.heap.size A' n 3 (flat Du.enc ds) ∧ (∀ ad, A' = some ad → w.heap.size ≤ ad.block) ∧ Below w.heap.size w w' := by
  obtain ⟨i0, hi0, hz0, hz1, hz2⟩ := info_parts info_dues_any
  have HL := Lib.hid (h.len Du.len (by omega))
  have HR := Lib.hid (fun (W : World) (hb : Below w.heap.size w W) => h.below hb)
  clear h
  go_enter Try.func53, Try.ntmps53
  go_wp2
  go_loopw [3, 8] (fun sv kv wr => ∃ k : Nat, kv = .int .i64 k ∧ k ≤ n ∧ wr.ownsRow w.heap.size 125 3 sv k (flat Du.enc (ds.take k)) ∧ Below w.heap.size w wr) (fun _ kv _ => n - (intOf kv).toNat)
  case atStart => exact ⟨0, rfl, Nat.zero_le _, World.ownsRow_nil _ _ _ _, Below.refl _ _⟩
  case round =>
    obtain ⟨k, rfl, hk, hown, hbr⟩ := hrel
    by_cases hlt : k < n
    · have e1 : decide (k < n) = true := by simpa using hlt
      obtain ⟨d, hd⟩ : ∃ d, ds[k]? = some d := ⟨_, List.getElem?_eq_getElem (by rw [HL.out]; exact hlt)⟩
      obtain ⟨ad, rfl, _, hcs⟩ := (HR.out wr hbr).cell Du.len hlt hd (by omega)
      have hc0 : wr.cell? (ad.add (k * 3)) = some (.int .i64 d.ac) := by have := hcs 0 _ rfl; rwa [Words.add_zero] at this
      have hc1 : wr.cell? ⟨(ad.add (k * 3)).block, (ad.add (k * 3)).off + 1, none⟩ = some (.int .i64 d.ti) := hcs 1 _ rfl
      have hc2 : wr.cell? ⟨(ad.add (k * 3)).block, (ad.add (k * 3)).off + 2, none⟩ = some (.int .u64 d.am) := hcs 2 _ rfl
      have HT := Lib.hid (show ds.take (k + 1) = ds.take k ++ [d] by rw [List.take_add_one, hd]; rfl)
      have hs := hbr.size
      have hb1 := hbr.alloc hs (.cells #[.int .i64 d.ac, .int .i64 d.ti, .int .u64 d.am] 96)
      have hown1 := hown.alloc (.cells #[.int .i64 d.ac, .int .i64 d.ti, .int .u64 d.am] 96)
      have hs1 := hb1.size
      clear hcs hd hown hbr
      go_wp2_with (at_builtin; refine wpList_append_own _ rfl _ _ 92 rfl w.heap.size 125 i0 (.agg #[.int .i64 0, .int .i64 0, .int .u64 0]) 3 24 Try.underlying92 hi0 hz0 hz1 hz2 rfl (by decide) _ _ _ rfl (hown1.alloc _) ⟨wr.heap.size + 1, 0, none⟩ 1 1 (Du.enc d) rfl rfl (cells_new _ _ _ _ (by simp)) ?_ ?_ ?_ ?_ ?_)
      · intro u hu; exact Du.one [d] u (by rw [flat_one]; exact hu)
      · unfold maxLen; omega
      · omega
      · simp; omega
      intro v' w7 hown' hgrow _
      have hb7 := app_below hb1 hown1 hgrow
      have HO := Lib.hid (show w7.ownsRow w.heap.size 125 3 v' (k + 1) (flat Du.enc (ds.take (k + 1))) by rw [HT.out, flat_append, flat_one]; exact hown')
      clear hgrow hown1 hb1 hown'
      go_wp2
      exact ⟨⟨k + 1, by go_num, by omega, HO.out, hb7⟩, by simp [intOf]; omega⟩
    · have e1 : decide (k < n) = false := by simpa using hlt
      obtain rfl : k = n := by omega
      rw [List.take_of_length_le (by rw [HL.out]; exact Nat.le_refl _)] at hown
      obtain ⟨A', c', rfl, _, _, hlo, hr⟩ := SRow.own hown
      have HO := Lib.hid hr
      have HLo := Lib.hid hlo
      clear hown hr hlo
      go_wp2
      go_ret
      exact ⟨A', c', rfl, HO.out, HLo.out, hbr⟩
end Go.Proofs.Ytdjeedmiicagcaa.PoolW
