/- The walks of the supply, third part: all of a sheet. No conditions. -/
import Derived.Test.YtdjeedmiicagcaaSup2
namespace Go.Proofs.Ytdjeedmiicagcaa.SupplyW
open Go.RowKit
open Go.Proofs.Ytdjeedmiicagcaa.Words Go.Proofs.Ytdjeedmiicagcaa.NatW Go.Proofs.Ytdjeedmiicagcaa.PurseW Go.Proofs.Ytdjeedmiicagcaa.PoolW

/-- a row of numbers that is made on the spot -/
theorem urow_lit (W : World) (us : List Nat) (hw : Wd us) (cs : Array Value) (hcs : cs = (us.map wv).toArray) (n : Nat) (hn : us.length = n) (t : TypeId) (L g : Nat) (hg : g = W.heap.size) (hL : g < L) :
    URow (W.alloc (.cells cs t)) L (some ⟨g, 0, none⟩) n us := by
  subst hcs
  exact ⟨hn, hw, fun j hj => ⟨_, rfl, hL, cells_new W (us.map wv) t g hg j _ (wv_at (by omega))⟩⟩
set_option maxHeartbeats 1000000 in
theorem total_any (a b c d t : Nat) (hw : Wd [a, b, c, d, t]) (r : Nat × Int) (hr : sumr [a, b, c, d, t] r) (w : World) :
    Calls Try.prog 42 #[.agg #[.int .u64 a, .int .u64 b, .int .u64 c, .int .u64 d, .int .u64 t]] w fun e w' => e = .returned (.tuple #[.int .u64 r.1, .int .i64 r.2]) ∧ Below w.heap.size w w' := by
  have hb1 : Below w.heap.size w (w.alloc (.cells #[.int .u64 a, .int .u64 b, .int .u64 c, .int .u64 d, .int .u64 t] 69)) := (Below.refl _ _).alloc (Nat.le_refl _) _
  have hb2 := hb1.alloc hb1.size (.cells #[.int .u64 a, .int .u64 b, .int .u64 c, .int .u64 d, .int .u64 t] 22)
  have HU := Lib.hid (urow_lit (w.alloc (.cells #[.int .u64 a, .int .u64 b, .int .u64 c, .int .u64 d, .int .u64 t] 69)) [a, b, c, d, t] hw #[.int .u64 a, .int .u64 b, .int .u64 c, .int .u64 d, .int .u64 t] rfl 5 rfl 22 (w.heap.size + 2) (w.heap.size + 1) (by simp) (by omega))
  have HM := Lib.hid (msum_any (some ⟨w.heap.size + 1, 0, none⟩) 5 5 _ [a, b, c, d, t] _ HU.out (by omega) r hr)
  clear hr hw hb1
  go_enter Try.func42, Try.ntmps42
  go_wp2_with fail
  refine HM.out.mono ?_
  rintro e w' ⟨rfl, rfl⟩
  go_wp2
  go_ret2
  exact ⟨rfl, hb2⟩
end Go.Proofs.Ytdjeedmiicagcaa.SupplyW
