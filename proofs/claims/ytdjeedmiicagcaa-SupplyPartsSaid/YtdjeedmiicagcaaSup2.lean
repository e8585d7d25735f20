/- The walks of the supply, second part: balances. Conditions: rows are read rightly and are not too long. -/
import Derived.Test.YtdjeedmiicagcaaSup1
namespace Go.Proofs.Ytdjeedmiicagcaa.SupplyW
open Go.RowKit
open Go.Proofs.Ytdjeedmiicagcaa.Words Go.Proofs.Ytdjeedmiicagcaa.NatW Go.Proofs.Ytdjeedmiicagcaa.PurseW Go.Proofs.Ytdjeedmiicagcaa.PoolW

/-- a member -/
structure Mem where
  bal : Nat
  eff : Nat
  sco : Nat
  str : Int
  own : Int
  sta : Int
def Mem.enc (d : Mem) : List Value := [.int .u64 d.bal, .int .u64 d.eff, .int .u64 d.sco, .int .i64 d.str, .int .i64 d.own, .int .i64 d.sta]
theorem Mem.len (d : Mem) : d.enc.length = 6 := rfl
set_option maxHeartbeats 1000000 in
theorem balances_any (A : Option Addr) (n c : Nat) (ds : List Mem) (w : World) (h : SRow w w.heap.size A n 6 (flat Mem.enc ds)) (hn : n ≤ 1000) :
    Calls Try.prog 68 #[.slice A n c] w fun e w' => ∃ v, e = .returned v ∧ w'.ownsRow w.heap.size 22 1 v n ((ds.map Mem.bal).map wv) ∧ Below w.heap.size w w' := by
  obtain ⟨i0, hi0, hz0, hz1, hz2⟩ := info_parts PoolW.info_u64
  have HL := Lib.hid (h.len Mem.len (by omega))
  have HR := Lib.hid (fun (W : World) (hb : Below w.heap.size w W) => h.below hb)
  clear h
  go_enter Try.func68, Try.ntmps68
  go_wp2
  go_loopw [3, 8] (fun sv kv wr => ∃ k : Nat, kv = .int .i64 k ∧ k ≤ n ∧ wr.ownsRow w.heap.size 22 1 sv k (((ds.take k).map Mem.bal).map wv) ∧ Below w.heap.size w wr) (fun _ kv _ => n - (intOf kv).toNat)
  case atStart => exact ⟨0, rfl, Nat.zero_le _, World.ownsRow_nil _ _ _ _, Below.refl _ _⟩
  case round =>
    obtain ⟨k, rfl, hk, hown, hbr⟩ := hrel
    by_cases hlt : k < n
    · have e1 : decide (k < n) = true := by simpa using hlt
      obtain ⟨d, hd⟩ : ∃ d, ds[k]? = some d := ⟨_, List.getElem?_eq_getElem (by rw [HL.out]; exact hlt)⟩
      obtain ⟨ad, rfl, _, hcs⟩ := (HR.out wr hbr).cell Mem.len hlt hd (by omega)
      have hc0 : wr.cell? (ad.add (k * 6)) = some (.int .u64 d.bal) := by have := hcs 0 _ rfl; rwa [Words.add_zero] at this
      have hc1 : wr.cell? ⟨(ad.add (k * 6)).block, (ad.add (k * 6)).off + 1, none⟩ = some (.int .u64 d.eff) := hcs 1 _ rfl
      have hc2 : wr.cell? ⟨(ad.add (k * 6)).block, (ad.add (k * 6)).off + 2, none⟩ = some (.int .u64 d.sco) := hcs 2 _ rfl
      have hc3 : wr.cell? ⟨(ad.add (k * 6)).block, (ad.add (k * 6)).off + 3, none⟩ = some (.int .i64 d.str) := hcs 3 _ rfl
      have hc4 : wr.cell? ⟨(ad.add (k * 6)).block, (ad.add (k * 6)).off + 4, none⟩ = some (.int .i64 d.own) := hcs 4 _ rfl
      have hc5 : wr.cell? ⟨(ad.add (k * 6)).block, (ad.add (k * 6)).off + 5, none⟩ = some (.int .i64 d.sta) := hcs 5 _ rfl
      have HT := Lib.hid (show ds.take (k + 1) = ds.take k ++ [d] by rw [List.take_add_one, hd]; rfl)
      have hs := hbr.size
      have hb1 := hbr.alloc hs (.cells #[.int .u64 d.bal, .int .u64 d.eff, .int .u64 d.sco, .int .i64 d.str, .int .i64 d.own, .int .i64 d.sta] 115)
      have hown1 := hown.alloc (.cells #[.int .u64 d.bal, .int .u64 d.eff, .int .u64 d.sco, .int .i64 d.str, .int .i64 d.own, .int .i64 d.sta] 115)
      have hs1 := hb1.size
      clear hcs hd hown hbr
      go_wp2_with (at_builtin; refine wpList_append_own _ rfl _ _ 31 rfl w.heap.size 22 i0 (.int .u64 0) 1 8 Try.underlying31 hi0 hz0 hz1 hz2 rfl (by decide) _ _ _ rfl (hown1.alloc _) ⟨wr.heap.size + 1, 0, none⟩ 1 1 [.int .u64 d.bal] rfl rfl (cells_new _ _ _ _ (by simp)) ?_ ?_ ?_ ?_ ?_)
      · intro u hu; simp at hu; subst hu; rfl
      · unfold maxLen; omega
      · omega
      · simp; omega
      intro v' w7 hown' hgrow _
      have hb7 := app_below hb1 hown1 hgrow
      have HO := Lib.hid (show w7.ownsRow w.heap.size 22 1 v' (k + 1) (((ds.take (k + 1)).map Mem.bal).map wv) by rw [HT.out, List.map_append, List.map_append, List.map_map, List.map_take]; exact hown')
      clear hgrow hown1 hb1 hown'
      go_wp2
      exact ⟨⟨k + 1, by go_num, by omega, HO.out, hb7⟩, by simp [intOf]; omega⟩
    · have e1 : decide (k < n) = false := by simpa using hlt
      obtain rfl : k = n := by omega
      rw [List.take_of_length_le (by rw [HL.out]; exact Nat.le_refl _)] at hown
      have HO := Lib.hid hown
      clear hown
      go_wp2
      go_ret
      exact ⟨_, rfl, HO.out, hbr⟩
end Go.Proofs.Ytdjeedmiicagcaa.SupplyW
