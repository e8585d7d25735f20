/- The walks of the pool, fourteenth part: Ripe. Conditions: rows are read rightly and are not too long. Printed by gen_pool14.py. -/
import Derived.Test.YtdjeedmiicagcaaPool13
import Derived.Deep.AppendLies
namespace Go.Proofs.Ytdjeedmiicagcaa.PoolW
open Go.RowKit
open Go.Proofs.Ytdjeedmiicagcaa.Words Go.Proofs.Ytdjeedmiicagcaa.NatW Go.Proofs.Ytdjeedmiicagcaa.PurseW

/-- what is ripe, what is not -/
def rp (now : Int) (ds : List Du) : List Du := ds.filter fun d => decide (d.ti ≤ now)
def rs (now : Int) (ds : List Du) : List Du := ds.filter fun d => !decide (d.ti ≤ now)
theorem rp_hit {now : Int} {ds : List Du} {k : Nat} {d : Du} (hd : ds[k]? = some d) (h : d.ti ≤ now) : rp now (ds.take (k + 1)) = rp now (ds.take k) ++ [d] := by
  rw [List.take_add_one, hd, rp, rp, List.filter_append]; simp [h]
theorem rs_miss {now : Int} {ds : List Du} {k : Nat} {d : Du} (hd : ds[k]? = some d) (h : d.ti ≤ now) : rs now (ds.take (k + 1)) = rs now (ds.take k) := by
  rw [List.take_add_one, hd, rs, rs, List.filter_append]; simp [h]
theorem rs_hit {now : Int} {ds : List Du} {k : Nat} {d : Du} (hd : ds[k]? = some d) (h : ¬ d.ti ≤ now) : rs now (ds.take (k + 1)) = rs now (ds.take k) ++ [d] := by
  rw [List.take_add_one, hd, rs, rs, List.filter_append]; simp; omega
theorem rp_miss {now : Int} {ds : List Du} {k : Nat} {d : Du} (hd : ds[k]? = some d) (h : ¬ d.ti ≤ now) : rp now (ds.take (k + 1)) = rp now (ds.take k) := by
  rw [List.take_add_one, hd, rp, rp, List.filter_append]; simp; omega
theorem rp_len (now : Int) (ds : List Du) (k : Nat) : (rp now (ds.take k)).length ≤ k := Nat.le_trans (List.length_filter_le _ _) (by simp; omega)
theorem rs_len (now : Int) (ds : List Du) (k : Nat) : (rs now (ds.take k)).length ≤ k := Nat.le_trans (List.length_filter_le _ _) (by simp; omega)

theorem size_two (w : World) (a b : Obj) : ((w.alloc a).alloc b).heap.size = w.heap.size + 1 + 1 := by simp
set_option maxHeartbeats 1000000 in
set_option maxRecDepth 100000 in
theorem ripe_any (A : Option Addr) (n c : Nat) (ds : List Du) (now : Int) (w : World) (h : SRow w w.heap.size A n 3 (flat Du.enc ds)) (hn : n ≤ 900) :
    Calls Try.prog 55 #[.slice A n c, .int .i64 now] w fun e w' => ∃ v u, e = .returned (.tuple #[v, u]) ∧ w'.ownsRow w.heap.size 96 3 v (rp now ds).length (flat Du.enc (rp now ds)) ∧ w'.ownsRow w.heap.size 96 3 u (rs now ds).length (flat Du.enc (rs now ds)) ∧ Below w.heap.size w w' := by
  obtain ⟨i0, hi0, hz0, hz1, hz2⟩ := info_parts info_due
  have HL := Lib.hid (h.len Du.len (by omega))
  have HR := Lib.hid (fun (W : World) (hb : Below w.heap.size w W) => h.below hb)
  clear h
  go_enter Try.func55, Try.ntmps55
  go_wp2
  go_loopw [4, 5, 10] (fun v u kv wr => ∃ k : Nat, kv = .int .i64 k ∧ k ≤ n ∧ wr.ownsRow w.heap.size 96 3 v (rp now (ds.take k)).length (flat Du.enc (rp now (ds.take k))) ∧ wr.ownsRow w.heap.size 96 3 u (rs now (ds.take k)).length (flat Du.enc (rs now (ds.take k))) ∧ (∀ g, v.ownBlock = some g → u.ownBlock ≠ some g) ∧ Below w.heap.size w wr) (fun _ _ kv _ => n - (intOf kv).toNat)
  case atStart => exact ⟨0, rfl, Nat.zero_le _, World.ownsRow_nil _ _ _ _, World.ownsRow_nil _ _ _ _, (fun g hg => by cases hg), Below.refl _ _⟩
  case round =>
    obtain ⟨k, rfl, hk, hv, hu, hap, hbr⟩ := hrel
    by_cases hlt : k < n
    · have e1 : decide (k < n) = true := by simpa using hlt
      obtain ⟨d, hd⟩ : ∃ d, ds[k]? = some d := ⟨_, List.getElem?_eq_getElem (by rw [HL.out]; exact hlt)⟩
      obtain ⟨ad, rfl, _, hcs⟩ := (HR.out wr hbr).cell Du.len hlt hd (by omega)
      have hc0 : wr.cell? (ad.add (k * 3)) = some (.int .i64 d.ac) := by have := hcs 0 _ rfl; rwa [Words.add_zero] at this
      have hc1 : wr.cell? ⟨(ad.add (k * 3)).block, (ad.add (k * 3)).off + 1, none⟩ = some (.int .i64 d.ti) := hcs 1 _ rfl
      have hc2 : wr.cell? ⟨(ad.add (k * 3)).block, (ad.add (k * 3)).off + 2, none⟩ = some (.int .u64 d.am) := hcs 2 _ rfl
      have hs := hbr.size
      have hb1 := hbr.alloc hs (.cells #[.int .i64 d.ac, .int .i64 d.ti, .int .u64 d.am] 96)
      have hs1 := hb1.size
      by_cases ht : d.ti ≤ now
      · have d2 : decide (d.ti ≤ now) = true := by simpa using ht
        have hw1 := hv.alloc (.cells #[.int .i64 d.ac, .int .i64 d.ti, .int .u64 d.am] 96)
        have hw2 := hw1.alloc (.cells #[.int .i64 d.ac, .int .i64 d.ti, .int .u64 d.am] 96)
        have ho1 := hu.alloc (.cells #[.int .i64 d.ac, .int .i64 d.ti, .int .u64 d.am] 96)
        have ho2 := ho1.alloc (.cells #[.int .i64 d.ac, .int .i64 d.ti, .int .u64 d.am] 96)
        have HTa := Lib.hid (rp_hit hd ht)
        have HTb := Lib.hid (rs_miss hd ht)
        have hnl := (rp_len now ds k)
        clear hcs hd hv hu hbr
        go_wp2_with (at_builtin; refine wpList_append_lies _ rfl _ _ 58 rfl w.heap.size 96 i0 (.agg #[.int .i64 0, .int .i64 0, .int .u64 0]) 3 24 Try.underlying58 hi0 hz0 hz1 hz2 rfl (by decide) _ _ _ rfl hw2 ⟨wr.heap.size + 1, 0, none⟩ 1 1 (Du.enc d) rfl rfl (cells_new _ _ _ _ (by simp)) (fun x hx => Du.one [d] x (by rw [flat_one]; exact hx)) (by omega) (by unfold maxLen; omega) (by omega) (by simp; omega) _ rfl ?_)
        intro g cap w7 hown' hgrow hat hlt'
        have hb7 := app_below hb1 hw1 hgrow
        have hne : u5.ownBlock ≠ some g := by
          rcases hat with hat | hat
          · exact hap g hat
          · intro hh
            have hl2 := (ho2.lt g hh).2
            rw [size_two] at hl2
            omega
        have HO := Lib.hid (show w7.ownsRow w.heap.size 96 3 (.slice (some ⟨g, 0, none⟩) ((rp now (ds.take k)).length + 1) cap) (rp now (ds.take (k + 1))).length (flat Du.enc (rp now (ds.take (k + 1)))) by rw [HTa.out, List.length_append, flat_append, flat_one]; exact hown')
        have HU := Lib.hid (show w7.ownsRow w.heap.size 96 3 u5 (rs now (ds.take (k + 1))).length (flat Du.enc (rs now (ds.take (k + 1)))) by rw [HTb.out]; exact ho2.kept hgrow (by
          rcases hob : u5.ownBlock with _ | q
          · exact .inl rfl
          · right
            intro hh
            exact hap q hh.symm hob))
        clear hgrow hw1 hw2 ho1 ho2 hb1 hown' HTa HTb
        go_wp2
        exact ⟨⟨k + 1, by go_num, by omega, HO.out, HU.out, fun q hq => by injection hq with hq; subst hq; exact hne, hb7⟩, by simp [intOf]; omega⟩
      · have d2 : decide (d.ti ≤ now) = false := by simpa using ht
        have hw1 := hu.alloc (.cells #[.int .i64 d.ac, .int .i64 d.ti, .int .u64 d.am] 96)
        have hw2 := hw1.alloc (.cells #[.int .i64 d.ac, .int .i64 d.ti, .int .u64 d.am] 96)
        have ho1 := hv.alloc (.cells #[.int .i64 d.ac, .int .i64 d.ti, .int .u64 d.am] 96)
        have ho2 := ho1.alloc (.cells #[.int .i64 d.ac, .int .i64 d.ti, .int .u64 d.am] 96)
        have HTa := Lib.hid (rs_hit hd ht)
        have HTb := Lib.hid (rp_miss hd ht)
        have hnl := (rs_len now ds k)
        clear hcs hd hv hu hbr
        go_wp2_with (at_builtin; refine wpList_append_lies _ rfl _ _ 58 rfl w.heap.size 96 i0 (.agg #[.int .i64 0, .int .i64 0, .int .u64 0]) 3 24 Try.underlying58 hi0 hz0 hz1 hz2 rfl (by decide) _ _ _ rfl hw2 ⟨wr.heap.size + 1, 0, none⟩ 1 1 (Du.enc d) rfl rfl (cells_new _ _ _ _ (by simp)) (fun x hx => Du.one [d] x (by rw [flat_one]; exact hx)) (by omega) (by unfold maxLen; omega) (by omega) (by simp; omega) _ rfl ?_)
        intro g cap w7 hown' hgrow hat hlt'
        have hb7 := app_below hb1 hw1 hgrow
        have hne : u4.ownBlock ≠ some g := by
          rcases hat with hat | hat
          · exact fun hh => hap g hh hat
          · intro hh
            have hl2 := (ho2.lt g hh).2
            rw [size_two] at hl2
            omega
        have HO := Lib.hid (show w7.ownsRow w.heap.size 96 3 (.slice (some ⟨g, 0, none⟩) ((rs now (ds.take k)).length + 1) cap) (rs now (ds.take (k + 1))).length (flat Du.enc (rs now (ds.take (k + 1)))) by rw [HTa.out, List.length_append, flat_append, flat_one]; exact hown')
        have HU := Lib.hid (show w7.ownsRow w.heap.size 96 3 u4 (rp now (ds.take (k + 1))).length (flat Du.enc (rp now (ds.take (k + 1)))) by rw [HTb.out]; exact ho2.kept hgrow (by
          rcases hob : u4.ownBlock with _ | q
          · exact .inl rfl
          · right
            intro hh
            exact hap q hob hh.symm))
        clear hgrow hw1 hw2 ho1 ho2 hb1 hown' HTa HTb
        go_wp2
        exact ⟨⟨k + 1, by go_num, by omega, HU.out, HO.out, fun q hq hh => by injection hh with hh; subst hh; exact hne hq, hb7⟩, by simp [intOf]; omega⟩
    · have e1 : decide (k < n) = false := by simpa using hlt
      obtain rfl : k = n := by omega
      rw [List.take_of_length_le (by rw [HL.out]; exact Nat.le_refl _)] at hv hu
      have HO := Lib.hid hv
      have HU := Lib.hid hu
      clear hv hu
      go_wp2
      go_ret2
      exact ⟨_, _, rfl, HO.out, HU.out, hbr⟩
end Go.Proofs.Ytdjeedmiicagcaa.PoolW
