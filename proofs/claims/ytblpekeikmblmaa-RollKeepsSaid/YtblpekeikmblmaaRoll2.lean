/- The walks of the roll, second part: a ring in memory; Run, which ranges over a function; the document's Run. Conditions: rows are read rightly and are not too long. -/
import Derived.RangeFuncNested
import Derived.RangeFuncBound
import Derived.RangeFuncCalls
import Derived.RangeFuncLeaves
import Derived.RangeFuncFrom
import Derived.Shelf.Abstract
import Derived.Shelf.RegionOpen
import Derived.WalkKit
import Derived.OwnWalkIn
import Derived.TacticsInMore
import Derived.LoopNIn
import Derived.LoopIn
import Derived.Scope
import Derived.WalkMore
import Derived.Test.YtblpekeikmblmaaRoll1
namespace Go.Proofs.Ytblpekeikmblmaa.BitsW
open Go.RowKit Go.Shelf
open Go.Proofs.Ytblpekeikmblmaa.Words Go.Proofs.Ytblpekeikmblmaa.Bit

attribute [local go_sem] Oper.semAt_some

def ro (rs : List (List Nat)) (i : Nat) : List Nat := rs.getD i []
/-- a slice of slices of bytes -/
def RAt (w : World) (B : Nat) (A : Option Addr) (n : Nat) (rs : List (List Nat)) : Prop :=
  rs.length = n ∧ ∀ i, i < n → ∃ ad Ai ci, A = some ad ∧ ad.block < B ∧ w.cell? (ad.add i) = some (.slice Ai (ro rs i).length ci) ∧ BRow w B Ai (ro rs i).length (ro rs i) ∧ (ro rs i).length ≤ ci
theorem RAt.below {w w' : World} {B : Nat} {A : Option Addr} {n : Nat} {rs : List (List Nat)} (h : RAt w B A n rs) (hb : Below B w w') : RAt w' B A n rs := ⟨h.1, fun i hi => by
  obtain ⟨ad, Ai, ci, e, hl, hc, hr, hci⟩ := h.2 i hi
  exact ⟨ad, Ai, ci, e, hl, (hb.cell (by rw [block_add]; exact hl)).trans hc, hr.below hb, hci⟩⟩
theorem RAt.more {w : World} {B B' : Nat} {A : Option Addr} {n : Nat} {rs : List (List Nat)} (h : RAt w B A n rs) (hB : B ≤ B') : RAt w B' A n rs := ⟨h.1, fun i hi => by
  obtain ⟨ad, Ai, ci, e, hl, hc, hr, hci⟩ := h.2 i hi
  exact ⟨ad, Ai, ci, e, by omega, hc, hr.more hB, hci⟩⟩
theorem RAt.to {w w' : World} {A : Option Addr} {n : Nat} {rs : List (List Nat)} (h : RAt w w.heap.size A n rs) (hb : Below w.heap.size w w') : RAt w' w'.heap.size A n rs := (h.below hb).more hb.size

/-- the length of a run -/
def runN (rs : List (List Nat)) (i : Int) : Nat := (rs.takeWhile fun b => bitI b i).length
theorem runN_le (rs : List (List Nat)) (i : Int) : runN rs i ≤ rs.length := (List.takeWhile_sublist _).length_le
theorem runN_cons (b : List Nat) (rs : List (List Nat)) (i : Int) : runN (b :: rs) i = if bitI b i = true then runN rs i + 1 else 0 := by
  unfold runN
  rw [List.takeWhile_cons]
  split <;> simp
theorem runN_of : ∀ (rs : List (List Nat)) (i : Int) (r : Nat), r ≤ rs.length → (∀ k, k < r → bitI (ro rs k) i = true) → (r = rs.length ∨ bitI (ro rs r) i = false) → runN rs i = r
  | [], i, r, hr, _, _ => by simp at hr; subst hr; rfl
  | b :: rs, i, r, hr, h1, h2 => by
    rw [runN_cons]
    rcases r with _ | r
    · rcases h2 with h2 | h2
      · simp at h2
      · rw [if_neg (by simpa [ro] using h2)]
    · have h0 := h1 0 (by omega)
      rw [if_pos (by simpa [ro] using h0)]
      rw [runN_of rs i r (by simpa using hr) (fun k hk => by have := h1 (k + 1) (by omega); simpa [ro] using this) (by
        rcases h2 with h2 | h2
        · left; simpa using h2
        · right; simpa [ro] using h2)]

def upto {α : Type} (f : Nat → α) (k : Nat) : List α := (List.range k).map f
theorem upto_succ {α : Type} (f : Nat → α) (k : Nat) : upto f (k + 1) = upto f k ++ [f k] := by simp [upto, List.range_succ]
theorem mem_upto {α : Type} (f : Nat → α) {k i : Nat} (h : i < k) : f i ∈ upto f k := by rw [upto, List.mem_map]; exact ⟨i, List.mem_range.2 h, rfl⟩
theorem upto_at {α : Type} (f : Nat → α) {k i : Nat} (h : i < k) : (upto f k)[i]? = some (f i) := by rw [upto, List.getElem?_map, List.getElem?_range h]; rfl
theorem runN_all {rs : List (List Nat)} {m : Int} {n : Nat} (hl : rs.length = n) (h : ∀ y ∈ upto (fun j => bitI (ro rs j) m) n, y = true) : runN rs m = n :=
  runN_of rs m n (by omega) (fun k hk => h _ (mem_upto (fun j => bitI (ro rs j) m) hk)) (.inl hl.symm)
theorem runN_stop {rs : List (List Nat)} {m : Int} {n k : Nat} {p : List Bool} (hl : rs.length = n) (hk : k ≤ n) (h : p ++ [false] = upto (fun j => bitI (ro rs j) m) k) (hp : ∀ y ∈ p, y = true) : runN rs m = p.length := by
  have hlen : p.length + 1 = k := by have := congrArg List.length h; simpa [upto] using this
  refine runN_of rs m _ (by omega) (fun i hi => ?_) (.inr ?_)
  · have h1 := upto_at (fun j => bitI (ro rs j) m) (k := k) (i := i) (by omega)
    rw [← h, List.getElem?_append_left hi] at h1
    exact hp _ (List.mem_of_getElem? h1)
  · have h1 := upto_at (fun j => bitI (ro rs j) m) (k := k) (i := p.length) (by omega)
    rw [← h, List.getElem?_append_right (Nat.le_refl _)] at h1
    simpa using h1.symm
theorem upto_length {α : Type} (f : Nat → α) (k : Nat) : (upto f k).length = k := by simp [upto]

/-- what a round keeps: what lay below n₀, and block b -/
def KB (n₀ b : Nat) (W W' : World) : Prop := Below n₀ W W' ∧ W'.heap[b]? = W.heap[b]?
theorem KB.refl (n₀ b : Nat) (W : World) : KB n₀ b W W := ⟨Below.refl _ _, rfl⟩
theorem KB.trans {n₀ b : Nat} {A B C : World} (h : KB n₀ b A B) (k : KB n₀ b B C) : KB n₀ b A C := ⟨h.1.trans k.1, k.2.trans h.2⟩
theorem KB.drewN (n₀ b : Nat) (W : World) (q : Nat) : KB n₀ b W (W.drewN q) := ⟨below_drewN (Below.refl _ _) q, rfl⟩
theorem KB.put {n₀ b : Nat} {w : World} (hn : n₀ ≤ w.heap.size) (hb : b < w.heap.size) (W : World) (l : Nat) (o o' : Obj) (hl : w.heap.size ≤ l) (h : W.heap[l]? = some o) (h1 : o.isCells = false) (h2 : o.isWalk = false) : KB n₀ b W (W.putObj l o') :=
  ⟨belowK_b hn W l o o' hl h h1 h2, World.putObj_heap_other (by omega)⟩

set_option maxRecDepth 100000 in
set_option maxHeartbeats 2000000 in
/-- the iterator that tells, epoch by epoch, whether a member was there -/
theorem seen1_in (l Br Bm n₀ : Nat) (A : Option Addr) (n c : Nat) (rs : List (List Nat)) (m : Int) (hm : m ≤ 9223372036854775807) (hlen : ∀ i, i < n → (ro rs i).length ≤ 1000000) (hn : n ≤ 1000000) (J Jx : List Bool → World → Prop) (hJq : ∀ pre W q, J pre W → J pre (W.drewN q))
    (hY : ∀ pre x W, J pre W → pre.length < n → YieldAt Fence.wide 1 Try.prog l #[.bool x] W fun e W' =>
      (e = .returned (.bool true) ∧ J (pre ++ [x]) W' ∧ KB n₀ Bm W W') ∨ (e = .returned (.bool false) ∧ Jx (pre ++ [x]) W'))
    (W : World) (hBr : W.cell? ⟨Br, 0, none⟩ = some (.slice A n c)) (hBm : W.cell? ⟨Bm, 0, none⟩ = some (.int .i64 m)) (hR : RAt W n₀ A n rs) (h0 : J [] W) :
    CallsIn Fence.wide 2 Try.prog 64 #[.func (.yield l) #[] #[], .pointer (some ⟨Br, 0, none⟩), .pointer (some ⟨Bm, 0, none⟩)] W fun e W' => (∃ v, e = .returned v) ∧
      ((∃ ys, ys = upto (fun j => bitI (ro rs j) m) n ∧ J ys W') ∨ (∃ pre, (∃ k, k ≤ n ∧ pre = upto (fun j => bitI (ro rs j) m) k) ∧ Jx pre W')) := by
  refine callsIn_of_wp Try.func64 rfl trivial ?_ rfl
  simp only [Try.ntmps64, List.size_toArray, List.length_cons, List.length_nil, Nat.reduceAdd, Nat.reduceSub, Array.replicate_succ, Array.replicate_zero, List.push_toArray, List.append_toArray, List.nil_append, List.cons_append]
  gi_wp2
  gi_loopw [8] (fun i wr => ∃ k : Nat, k ≤ n ∧ i = .int .i64 k ∧ J (upto (fun j => bitI (ro rs j) m) k) wr ∧ KB n₀ Bm W wr)
    (fun i _ => n - (intOf i).toNat)
  case atStart => exact ⟨0, Nat.zero_le _, rfl, h0, KB.refl _ _ _⟩
  case round =>
    obtain ⟨k, hk, rfl, hJs, hnx⟩ := hrel
    by_cases hlt : k < n
    · have e1 : decide (k < n) = true := by simpa using hlt
      obtain ⟨ad, Ai, ci, rfl, hadl, hc, hrow, _⟩ := (hR.below hnx.1).2 k hlt
      have hmc : wr.cell? ⟨Bm, 0, none⟩ = some (.int .i64 m) := (World.cell?_of_block (a := ⟨Bm, 0, none⟩) hnx.2).trans hBm
      have HG := Lib.hid (get_any Ai _ ci n₀ m (ro rs k) wr hrow (hlen k hlt) hm)
      have HY := Lib.hid (fun q => hY _ (bitI (ro rs k) m) (wr.drewN q) (hJq _ _ q hJs) (by rw [upto_length]; exact hlt))
      have HU := Lib.hid (upto_succ (fun j => bitI (ro rs j) m) k)
      clear hrow hY hJs hR
      generalize (ro rs k).length = nk at hc HG
      generalize bitI (ro rs k) m = x at HG HY HU
      gi_wp2_with (refine ⟨trivial, ?_⟩; gi_at_call 25; refine (callsIn_wide.2 HG.out).mono ?_; rintro e w' ⟨rfl, q, rfl⟩; obtain ⟨fn, tmps, assign, body, hy, hR⟩ := HY.out q)
      refine hR.mono ?_
      rintro e W3 (⟨rfl, hJ3, hk3⟩ | ⟨rfl, hJx3⟩)
      · have hd := KB.drewN n₀ Bm wr q
        have hnx3 := Lib.hid (hnx.trans (hd.trans hk3))
        clear hd hk3
        gi_wp2
        go_roundw
        case rel => exact ⟨k + 1, by omega, by simp, by rw [HU.out]; exact hJ3, hnx3.out⟩
        case measure => simp [intOf]; omega
      · gi_wp2
        refine bodyPost_ret (results_none rfl _ _ _) rfl ?_
        exact ⟨⟨_, rfl⟩, .inr ⟨_, ⟨k + 1, by omega, HU.out.symm⟩, hJx3⟩⟩
    · have e1 : decide (k < n) = false := by simpa using hlt
      obtain rfl : k = n := by omega
      gi_wp2
      go_end0
      exact ⟨⟨_, rfl⟩, .inl ⟨_, rfl, hJs⟩⟩

theorem wpIn_scope {n : Nat} {P : Program} {Q : Exit → Act → World → Prop} {a : Act} {w : World} {c : Code} (h : c.wpIn Fence.wide n P (Exit.noGoto Q) a w) : (Code.scope c).wpIn Fence.wide n P Q a w :=
  wpIn_wide.2 (wp_scope_straight (wpIn_wide.1 h))
set_option maxHeartbeats 1000000 in
theorem seen_in (A : Option Addr) (n c : Nat) (m : Int) (w : World) :
    CallsIn Fence.wide 2 Try.prog 61 #[.slice A n c, .int .i64 m] w fun e w' => e = .returned (.func (.func 64) #[] #[.pointer (some ⟨w.heap.size, 0, none⟩), .pointer (some ⟨w.heap.size + 1, 0, none⟩)]) ∧
      w' = (w.alloc (.cells #[.slice A n c] 49)).alloc (.cells #[.int .i64 m] 3) := by
  refine callsIn_of_wp Try.func61 rfl trivial ?_ rfl
  simp only [Try.ntmps61, List.size_toArray, List.length_cons, List.length_nil, Nat.reduceAdd, Nat.reduceSub, Array.replicate_succ, Array.replicate_zero, List.push_toArray, List.append_toArray, List.nil_append, List.cons_append]
  gi_wp2
  go_ret
  exact ⟨rfl, rfl⟩
theorem seen_stops (Br Bm n₀ : Nat) (A : Option Addr) (n c : Nat) (rs : List (List Nat)) (m : Int) (hm : m ≤ 9223372036854775807) (hlen : ∀ i, i < n → (ro rs i).length ≤ 1000000) (hn : n ≤ 1000000) (w : World)
    (hBr : w.cell? ⟨Br, 0, none⟩ = some (.slice A n c)) (hBm : w.cell? ⟨Bm, 0, none⟩ = some (.int .i64 m)) (hBr0 : Br < w.heap.size) (hBm0 : Bm < w.heap.size) (hn0 : n₀ ≤ w.heap.size) (hR : RAt w n₀ A n rs) :
    SeqStopsK Fence.wide 2 Try.prog 64 #[.pointer (some ⟨Br, 0, none⟩), .pointer (some ⟨Bm, 0, none⟩)] (fun x : Bool => #[Value.bool x]) (KB n₀ Bm)
      (fun ys => ys = upto (fun j => bitI (ro rs j) m) n) (fun pre => ∃ k, k ≤ n ∧ pre = upto (fun j => bitI (ro rs j) m) k) n w := fun l J Jx W hW hJ _ hY h0 =>
  seen1_in l Br Bm n₀ A n c rs m hm hlen hn J Jx (fun pre W' q h => hJ pre W' (W'.drewN q) none h ⟨rfl, rfl, rfl, Nat.le_refl _, fun _ _ _ => rfl⟩ (fun r e => by cases e)) hY W
    ((hW.cell (p := ⟨Br, 0, none⟩) hBr0).trans hBr) ((hW.cell (p := ⟨Bm, 0, none⟩) hBm0).trans hBm) (hR.below (hW.mono hn0)) h0

set_option maxRecDepth 100000 in
set_option maxHeartbeats 2000000 in
theorem run_any (A : Option Addr) (n c : Nat) (rs : List (List Nat)) (m : Int) (hm : m ≤ 9223372036854775807) (hlen : ∀ i, i < n → (ro rs i).length ≤ 1000000) (hn : n ≤ 1000000) (w : World) (hR : RAt w w.heap.size A n rs) :
    Calls Try.prog 38 #[.slice A n c, .int .i64 m] w fun e w' => e = .returned (.int .i64 (runN rs m : Nat)) ∧ Below w.heap.size w w' := by
  refine (callsIn_wide (n := 3)).1 ?_
  refine callsIn_of_wp_marks Try.func38 rfl trivial ?_ rfl
  simp only [Try.ntmps38, List.size_toArray, List.length_cons, List.length_nil, Nat.reduceAdd, Nat.reduceSub, Array.replicate_succ, Array.replicate_zero, List.push_toArray, List.append_toArray, List.nil_append, List.cons_append]
  gi_wp2
  refine wpIn_scope ?_
  gi_wp2
  refine wpIn_label ?_
  gi_wp2_with (refine ⟨trivial, ?_⟩; gi_at_call 61; refine (seen_in A n c m _).mono ?_; rintro e w' ⟨rfl, rfl⟩)
  obtain ⟨W, hW⟩ : ∃ W, ((w.alloc (.cells #[.int .i64 0] 3)).alloc (.cells #[.slice A n c] 49)).alloc (.cells #[.int .i64 m] 3) = W := ⟨_, rfl⟩
  have hB0 : Below w.heap.size w W := by rw [← hW]; exact (((Below.refl _ w).alloc (Nat.le_refl _) _).alloc (by simp) _).alloc (by simp; omega) _
  have hsz : W.heap.size = w.heap.size + 3 := by rw [← hW]; simp
  have c0 : W.cell? ⟨w.heap.size, 0, none⟩ = some (.int .i64 0) := by
    rw [← hW, World.cell?_alloc_lt _ _ _ (by simp; omega), World.cell?_alloc_lt _ _ _ (by simp), World.cell?_alloc_at _ _ _ _ rfl]; rfl
  have f0 : W.frozen? ⟨w.heap.size, 0, none⟩ = false := by
    rw [← hW, World.frozen?_alloc_old _ _ _ (by simp; omega), World.frozen?_alloc_old _ _ _ (by simp), World.frozen?_alloc_at _ _ _ _ rfl]
  have c1 : W.cell? ⟨w.heap.size + 1, 0, none⟩ = some (.slice A n c) := by
    rw [← hW, World.cell?_alloc_lt _ _ _ (by simp), World.cell?_alloc_at _ _ _ _ (by simp)]; rfl
  have c2 : W.cell? ⟨w.heap.size + 1 + 1, 0, none⟩ = some (.int .i64 m) := by
    rw [← hW, World.cell?_alloc_at _ _ _ _ (by simp)]; rfl
  have hRW := (hR.below hB0)
  rw [hW]
  clear hW
  refine wpIn_rangeFunc_ownF rfl (by omega) (gf := 64) (lb := #[.pointer (some ⟨w.heap.size + 1, 0, none⟩), .pointer (some ⟨w.heap.size + 1 + 1, 0, none⟩)]) rfl trivial (enters_of Try.func64 (by kernel_rfl) rfl)
    (seen_stops (w.heap.size + 1) (w.heap.size + 1 + 1) w.heap.size A n c rs m hm hlen hn W c1 c2 (by omega) (by omega) (by omega) hRW) KB.trans (KB.put (by omega) (by omega)) (Below.refl _ _) (fun _ => rfl)
    (fun pre W' => ((∀ y ∈ pre, y = true) ∧ W'.cell? ⟨w.heap.size, 0, none⟩ = some (.int .i64 pre.length) ∧ W'.frozen? ⟨w.heap.size, 0, none⟩ = false) ∧ Below w.heap.size w W')
    (fun cd pre W' => (cd = .exit 0 ∧ ∃ p', pre = p' ++ [false] ∧ (∀ y ∈ p', y = true) ∧ W'.cell? ⟨w.heap.size, 0, none⟩ = some (.int .i64 p'.length)) ∧ Below w.heap.size w W')
    (OwnFrom.and (Own.from (fun s A B row hs hg hr => ⟨hs.1, cell_kept hs.2.1 hg hr, (frozen_kept hs.2.1 hg hr).trans hs.2.2⟩) _) (ownFrom_below (Nat.le_refl _) (by omega)))
    (fun cd => OwnFrom.and (Own.from (fun s A B row hs hg hr => by obtain ⟨h1, p', h2, h3, h4⟩ := hs; exact ⟨h1, p', h2, h3, cell_kept h4 hg hr⟩) _) (ownFrom_below (Nat.le_refl _) (by omega)))
    ⟨⟨by simp, c0, f0⟩, hB0⟩
    (fun x => { tmps := #[.slice A n c, .int .i64 m, undef, undef, .int .i64 0, .pointer (some ⟨w.heap.size, 0, none⟩), .bool x, .slice A n c, .int .i64 m, .func (.func 64) #[] #[.pointer (some ⟨w.heap.size + 1, 0, none⟩), .pointer (some ⟨w.heap.size + 1 + 1, 0, none⟩)], .bool x, undef, undef, undef, undef, undef], defers := [] }) ?assign ?body ?done ?stop
  case assign =>
    intro l x W K hK
    gi_wp2
    exact hK
  case body =>
    rintro l pre x W' ⟨⟨hp, hcw, hfr⟩, hB⟩ hlt
    cases x with
    | true =>
      gi_wp2
      exact ⟨KeepsOthers.setCell _ _ _, ⟨(Below.refl w.heap.size W').setCell (p := ⟨w.heap.size, 0, none⟩) (Nat.le_refl _) _, Below.heap_setCell W' ⟨w.heap.size, 0, none⟩ _ _ (by show w.heap.size + 1 + 1 ≠ w.heap.size; omega)⟩,
        ⟨fun y hy => by rw [List.mem_append] at hy; rcases hy with hy | hy; exact hp y hy; simpa using hy, by rw [List.length_append]; exact World.cell?_setCell_same' _ _ _ (by rw [hcw]; rfl), by rw [World.frozen?_setCell]; exact hfr⟩, hB.setCell (p := ⟨w.heap.size, 0, none⟩) (Nat.le_refl _) _⟩
    | false =>
      gi_wp2
      exact ⟨KeepsOthers.refl _, ⟨rfl, pre, rfl, hp, hcw⟩, hB⟩
  case done =>
    rintro D ys W' hD rfl ⟨⟨hp, hcw, _⟩, hB⟩ hK
    have HR := Lib.hid (runN_all hR.1 hp)
    have hB2 := Lib.hid (hB.trans (belowK_b (w := w) (Nat.le_refl _) W' D _ (.deferred none) (by omega) hK rfl rfl))
    rw [upto_length] at hcw
    gi_wp2
    rw [Exit.noGoto_ret]
    refine ⟨by simp, .inl ⟨_, _, rfl, run_takeDeferred hK, ?_⟩⟩
    exact ⟨_, results_tmp rfl _ _ _, by rw [HR.out] <;> rfl, hB2.out⟩
  case stop =>
    rintro D cd pre W' hD ⟨k, hk, hpre⟩ ⟨⟨rfl, p', hp', hp, hcw⟩, hB⟩ hK
    have HR := Lib.hid (runN_stop hR.1 hk (hp'.symm.trans hpre) hp)
    have hB2 := Lib.hid (hB.trans (belowK_b (w := w) (Nat.le_refl _) W' D _ (.deferred none) (by omega) hK rfl rfl))
    clear hp' hpre
    gi_wp2
    rw [Exit.noGoto_ret]
    refine ⟨by simp, .inl ⟨_, _, rfl, run_takeDeferred hK, ?_⟩⟩
    exact ⟨_, results_tmp rfl _ _ _, by rw [HR.out] <;> rfl, hB2.out⟩
end Go.Proofs.Ytblpekeikmblmaa.BitsW
