/- The walks of package bits and of bullionref06, first part: Size, spot, own, Pack; the document's Pack; the comparison of bytes. Conditions: rows are read rightly and are not too long. -/
import Derived.Test.YtblpekeikmblmaaWords
import Derived.Test.YtblpekeikmblmaaBit
namespace Go.Proofs.Ytblpekeikmblmaa.BitsW
open Go.RowKit
open Go.Proofs.Ytblpekeikmblmaa.Words Go.Proofs.Ytblpekeikmblmaa.Bit

/-- a row of bytes, of bools, in memory -/
def BRow (w : World) (B : Nat) (A : Option Addr) (n : Nat) (bs : List Nat) : Prop := bs.length = n ∧ Byt bs ∧ Rd w B A n (fun j => .int .u8 (by_ bs j))
def LRow (w : World) (B : Nat) (A : Option Addr) (n : Nat) (l : List Bool) : Prop := l.length = n ∧ Rd w B A n (fun j => .bool (bo l j))
theorem BRow.below {w w' : World} {B : Nat} {A : Option Addr} {n : Nat} {bs : List Nat} (h : BRow w B A n bs) (hb : Below B w w') : BRow w' B A n bs := ⟨h.1, h.2.1, h.2.2.below hb⟩
theorem BRow.more {w : World} {B B' : Nat} {A : Option Addr} {n : Nat} {bs : List Nat} (h : BRow w B A n bs) (hB : B ≤ B') : BRow w B' A n bs := ⟨h.1, h.2.1, h.2.2.more hB⟩
theorem BRow.to {w w' : World} {A : Option Addr} {n : Nat} {bs : List Nat} (h : BRow w w.heap.size A n bs) (hb : Below w.heap.size w w') : BRow w' w'.heap.size A n bs := ⟨h.1, h.2.1, h.2.2.to hb⟩
theorem BRow.drewN {w : World} {B : Nat} {A : Option Addr} {n : Nat} {bs : List Nat} (h : BRow w B A n bs) (q : Nat) : BRow (w.drewN q) B A n bs := h
theorem LRow.below {w w' : World} {B : Nat} {A : Option Addr} {n : Nat} {l : List Bool} (h : LRow w B A n l) (hb : Below B w w') : LRow w' B A n l := ⟨h.1, h.2.below hb⟩
theorem LRow.more {w : World} {B B' : Nat} {A : Option Addr} {n : Nat} {l : List Bool} (h : LRow w B A n l) (hB : B ≤ B') : LRow w B' A n l := ⟨h.1, h.2.more hB⟩
theorem LRow.to {w w' : World} {A : Option Addr} {n : Nat} {l : List Bool} (h : LRow w w.heap.size A n l) (hb : Below w.heap.size w w') : LRow w' w'.heap.size A n l := ⟨h.1, h.2.to hb⟩

def byc (b : Nat) : Value := .int .u8 b
theorem bys_at {bs : List Nat} {j : Nat} (h : j < bs.length) : (bs.map byc)[j]? = some (.int .u8 (by_ bs j)) := by
  rw [List.getElem?_map, List.getElem?_eq_getElem h, by_lt h]; rfl
theorem brow_of_own {w : World} {base : Nat} {e : TypeId} {v : Value} {n : Nat} {bs : List Nat} (hn : bs.length = n) (hb : Byt bs) (h : w.ownsRow base e 1 v n (bs.map byc)) :
    ∃ A c, v = .slice A n c ∧ n ≤ c ∧ c ≤ maxLen ∧ (∀ ad, A = some ad → base ≤ ad.block) ∧ BRow w w.heap.size A n bs := by
  obtain ⟨A, c, hv, hc, hm, hlo, hr⟩ := Rd.own h (fun j hj => bys_at (by omega))
  exact ⟨A, c, hv, hc, hm, hlo, hn, hb, hr⟩
def boc (b : Bool) : Value := .bool b
theorem bos_at {l : List Bool} {j : Nat} (h : j < l.length) : (l.map boc)[j]? = some (.bool (bo l j)) := by
  rw [List.getElem?_map, List.getElem?_eq_getElem h, bo_lt h]; rfl
theorem lrow_of_own {w : World} {base : Nat} {e : TypeId} {v : Value} {n : Nat} {l : List Bool} (hn : l.length = n) (h : w.ownsRow base e 1 v n (l.map boc)) :
    ∃ A c, v = .slice A n c ∧ n ≤ c ∧ c ≤ maxLen ∧ (∀ ad, A = some ad → base ≤ ad.block) ∧ LRow w w.heap.size A n l := by
  obtain ⟨A, c, hv, hc, hm, hlo, hr⟩ := Rd.own h (fun j hj => bos_at (by omega))
  exact ⟨A, c, hv, hc, hm, hlo, hn, hr⟩
theorem own_drewN {w : World} {base : Nat} {e : TypeId} {size : Nat} {v : Value} {n : Nat} {xs : List Value} (h : w.ownsRow base e size v n xs) (q : Nat) : (w.drewN q).ownsRow base e size v n xs := h

theorem info_u8 : (Try.prog.info? 5).map (fun i => (i.zero, i.size, i.bytes)) = some (some (.int .u8 0), 1, 1) := by kernel_rfl
theorem info_bool : (Try.prog.info? 4).map (fun i => (i.zero, i.size, i.bytes)) = some (some (.bool false), 1, 1) := by kernel_rfl

theorem size_any (n : Nat) (hn : n ≤ 1000000) (w : World) : Calls Try.prog 18 #[.int .i64 n] w fun e w' => e = .returned (.int .i64 ((n + 7) / 8 : Nat)) ∧ w = w' := by
  by_cases h : n < 1
  · obtain rfl : n = 0 := by omega
    clear h
    go_enter Try.func18, Try.ntmps18
    go_wp2
    go_ret
    exact ⟨rfl, rfl⟩
  · have d1 : decide (n < 1) = false := by simp; omega
    have e : (((n + 7) / 8 : Nat) : Int) = ((n : Int) - 1) / 8 + 1 := by omega
    have E := Lib.hid e
    clear e
    go_enter Try.func18, Try.ntmps18
    go_wp2
    go_ret
    exact ⟨by rw [E.out]; rfl, rfl⟩

theorem spot_out (A : Option Addr) (n c : Nat) (i : Int) (hi : i ≤ 9223372036854775807) (h : i < 0 ∨ (n : Int) ≤ i / 8) (w : World) :
    Calls Try.prog 55 #[.slice A n c, .int .i64 i] w fun e w' => e = .returned (.tuple #[.int .i64 0, .int .u8 0, .bool false]) ∧ w = w' := by
  by_cases h0 : i < 0
  · have d1 : decide (i < 0) = true := by simpa using h0
    clear h
    go_enter Try.func55, Try.ntmps55
    go_wp2
    go_ret3
    exact ⟨rfl, rfl⟩
  · have d1 : decide (i < 0) = false := by simpa using h0
    have h1 : 0 ≤ i := by omega
    have d2 : decide ((n : Int) ≤ i / 8) = true := by simp; omega
    clear h h0
    go_enter Try.func55, Try.ntmps55
    go_wp2
    go_ret3
    exact ⟨rfl, rfl⟩
theorem spot_in (A : Option Addr) (n c i : Nat) (hn : n ≤ 1000000) (h : i / 8 < n) (w : World) :
    Calls Try.prog 55 #[.slice A n c, .int .i64 i] w fun e w' => e = .returned (.tuple #[.int .i64 (i / 8 : Nat), .int .u8 (2 ^ (i % 8) : Nat), .bool true]) ∧ ∃ q, w' = w.drewN q := by
  have d0 : decide ((i : Int) < 0) = false := by simp
  have hi : i ≤ 8000008 := by omega
  have d1 : decide ((n : Int) ≤ (i : Int) / 8) = false := by simp; omega
  go_enter Try.func55, Try.ntmps55
  go_wp2
  go_quiet (fail)
  go_wp2
  go_ret3
  have e1 : (2 : Int) ^ (i % 8) % 256 = ((2 ^ (i % 8) : Nat) : Int) := by
    have := two_pow_lt (k := i % 8) (by omega)
    have e0 : (2 : Int) ^ (i % 8) = ((2 ^ (i % 8) : Nat) : Int) := by rw [Int.natCast_pow]; rfl
    rw [e0]
    generalize 2 ^ (i % 8) = p at *
    omega
  exact ⟨by rw [← e1]; rfl, nq, rfl⟩

set_option maxHeartbeats 1000000 in
theorem own_any (A : Option Addr) (n c : Nat) (bs : List Nat) (w : World) (h : BRow w w.heap.size A n bs) (hn : n ≤ 1000000) :
    Calls Try.prog 56 #[.slice A n c] w fun e w' => ∃ v, e = .returned v ∧ w'.ownsRow w.heap.size 5 1 v n (bs.map byc) ∧ Below w.heap.size w w' := by
  obtain ⟨i0, hi0, hz0, hz1, hz2⟩ := info_parts info_u8
  obtain ⟨hl, hb, hr⟩ := h
  have hx : (List.range n).map (fun j => Value.int .u8 (by_ bs j)) = bs.map byc := by
    apply List.ext_getElem (by simp [hl])
    intro j h1 h2
    simp at h1 h2
    simp [byc, by_lt h2]
  have HX := Lib.hid hx
  clear hl hb hx
  go_enter Try.func56, Try.ntmps56
  go_wp2_with (at_builtin; refine wpList_append_whole _ rfl _ _ 85 rfl w.heap.size 5 i0 (.int .u8 0) 1 Try.underlying85 hi0 hz0 hz1 hz2 rfl _ _ _ rfl (World.ownsRow_nil _ _ _ _) A n c _ rfl hr (fun _ => rfl) ?_ ?_ (Nat.le_refl _) ?_)
  · unfold maxLen; omega
  · omega
  intro v' w1 hown hg
  rw [HX.out] at hown
  have hb1 : Below w.heap.size w w1 := (Below.refl _ _).grown hg (Nat.le_refl _) (fun _ h => by cases h)
  clear hg
  go_wp2
  go_ret
  exact ⟨_, rfl, hown, hb1⟩

set_option maxHeartbeats 1000000 in
theorem same_yes (A B : Option Addr) (n c d L : Nat) (bs : List Nat) (w : World) (h : BRow w L A n bs) (h' : BRow w L B n bs) (hn : n ≤ 1000000) :
    Calls Try.prog 16 #[.slice A n c, .slice B n d] w fun e w' => e = .returned (.bool true) ∧ ∃ q, w' = w.drewN q := by
  have hA := h.2.2
  have hB := h'.2.2
  clear h h'
  go_enter Try.func16, Try.ntmps16
  go_wp2
  go_loopw [5] (fun v wr => ∃ (k q : Nat), v = .int .i64 k ∧ k ≤ n ∧ wr = w.drewN q) (fun v _ => n - (intOf v).toNat)
  case atStart => exact ⟨0, 0, rfl, Nat.zero_le _, rfl⟩
  case round =>
    obtain ⟨k, q, rfl, hk, rfl⟩ := hrel
    by_cases hlt : k < n
    · have d1 : decide (k < n) = true := by simpa using hlt
      obtain ⟨a, rfl, _, ha⟩ := hA k hlt
      obtain ⟨b, rfl, _, hb⟩ := hB k hlt
      clear hA hB
      go_wp2
      go_quiet (fail)
      go_wp2
      exact ⟨⟨k + 1, _, by go_num, by omega, rfl⟩, by simp [intOf]; omega⟩
    · have d1 : decide (k < n) = false := by simpa using hlt
      go_wp2
      go_ret
      exact ⟨rfl, q, rfl⟩

/-- rows made by the call itself: a byte read and written -/
theorem own_byte {w : World} {base : Nat} {e : TypeId} {g L : Nat} {bs : List Nat} (h : w.ownsRow base e 1 (.slice (some ⟨g, 0, none⟩) L L) L (bs.map byc)) (hl : bs.length = L) {j : Nat} (hj : j < L) :
    w.cell? ⟨g, j, none⟩ = some (.int .u8 (by_ bs j)) := by rw [h.cellAt j (by omega)]; exact bys_at (by omega)

set_option maxHeartbeats 1000000 in
theorem rpack_any (A : Option Addr) (n c : Nat) (l : List Bool) (w : World) (h : LRow w w.heap.size A n l) (hn : n ≤ 1000000) :
    Calls Try.prog 17 #[.slice A n c] w fun e w' => ∃ g, e = .returned (.slice (some ⟨g, 0, none⟩) ((n + 7) / 8) ((n + 7) / 8)) ∧ w.heap.size ≤ g ∧ BRow w' w'.heap.size (some ⟨g, 0, none⟩) ((n + 7) / 8) (pks l) ∧ Below w.heap.size w w' := by
  obtain ⟨i0, hi0, hz0, hz1, hz2⟩ := info_parts info_u8
  obtain ⟨hl, hr⟩ := h
  have HL := Lib.hid hl
  clear hl
  go_enter Try.func17, Try.ntmps17
  go_wp2_with (at_make; refine wpList_make_full _ rfl _ _ 24 rfl w.heap.size 5 i0 (.int .u8 0) 1 Try.underlying24 hi0 hz0 hz1 _ _ _ _ ((n + 7) / 8) rfl rfl (by omega) (by omega) ?_ (by unfold maxLen; omega) (Nat.le_refl _) ?_)
  · rw [hz2]; omega
  intro w1 hown hgrow
  have hb1 : Below w.heap.size w w1 := (Below.refl _ _).grown hgrow (Nat.le_refl _) (fun _ h => by cases h)
  have hown1 : w1.ownsRow w.heap.size 5 1 (.slice (some ⟨w.heap.size, 0, none⟩) ((n + 7) / 8) ((n + 7) / 8)) ((n + 7) / 8) ((List.replicate ((n + 7) / 8) 0).map byc) := by
    have e : (madeCells #[Value.int .u8 0] ((n + 7) / 8)).toList = (List.replicate ((n + 7) / 8) 0).map byc := by
      rw [List.map_replicate]; exact toList_madeCells_one _ _
    rw [← e]; exact hown
  have hst := Lib.hid (PackI.start l)
  clear hown hgrow
  go_wp2
  go_loopw [4] (fun iv wr => ∃ (k : Nat) (i : Int) (bs : List Nat), iv = .int .i64 i ∧ i = (k : Int) - 1 ∧ k ≤ n ∧ PackI l k bs ∧ Byt bs ∧ wr.ownsRow w.heap.size 5 1 (.slice (some ⟨w.heap.size, 0, none⟩) ((n + 7) / 8) ((n + 7) / 8)) ((n + 7) / 8) (bs.map byc) ∧ Below w.heap.size w wr) (fun iv _ => (intOf iv + 1).toNat)
  case atStart => exact ⟨n, _, _, rfl, rfl, Nat.le_refl _, by have := hst.out; rw [HL.out] at this; exact this, byt_zeros _, hown1, hb1⟩
  case round =>
    clear hown1 hb1
    obtain ⟨k, i, bs, rfl, hi, hk, hI, hB, hown, hbw⟩ := hrel
    rcases Nat.eq_zero_or_pos k with h0 | h0
    · subst h0
      obtain rfl : i = -1 := by omega
      obtain rfl := hI.done
      have hlen : (pks l).length = (n + 7) / 8 := by rw [hI.1, HL.out]
      have hdone : w.heap.size ≤ w.heap.size ∧ BRow wr wr.heap.size (some ⟨w.heap.size, 0, none⟩) ((n + 7) / 8) (pks l) := by
        obtain ⟨A2, c2, hv, _, _, hlo, hrow⟩ := brow_of_own hlen hB hown
        simp only [Value.slice.injEq, true_and] at hv
        obtain ⟨rfl, rfl⟩ := hv
        exact ⟨Nat.le_refl _, hrow⟩
      clear hi hI hown hlen
      go_wp2
      go_ret
      exact ⟨_, rfl, hdone.1, hdone.2, hbw⟩
    · obtain ⟨m, rfl⟩ : ∃ m, k = m + 1 := ⟨k - 1, by omega⟩
      obtain rfl : i = (m : Int) := by omega
      obtain ⟨ad, rfl, _, hc⟩ := hr m (by omega)
      have hcb := hbw.cell (p := ad.add m) (by rw [block_add]; assumption)
      have hc' : wr.cell? (ad.add m) = some (.bool (bo l m)) := hcb.trans hc
      have hlen : bs.length = (n + 7) / 8 := by rw [hI.1, HL.out]
      have hj : m / 8 < (n + 7) / 8 := by omega
      have hby := own_byte hown hlen hj
      have hfz := hown.frozenAt (m / 8)
      have hB1 := hB.by_ (m / 8)
      obtain ⟨hS, hlt⟩ := hI.step (show m < l.length by rw [HL.out]; omega)
      have HS := Lib.hid hS
      clear hr hc hcb hi h0 hI hS hlen hst
      cases hbo : bo l m
      all_goals
        rw [hbo] at hc' hlt HS
        simp only [Bool.false_eq_true, if_false, if_true] at hlt HS
        clear hbo
        go_wp2
        exact ⟨⟨m, _, _, rfl, by omega, by omega, HS.out, byt_set hB hlt, by rw [List.map_set]; exact (hown.stored _ _).1, hbw.setCell (Nat.le_refl _) _⟩, by simp [intOf]⟩

theorem spot_p (A : Option Addr) (n c i p : Nat) (hp : p = 2 ^ (i % 8)) (hn : n ≤ 1000000) (h : i / 8 < n) (w : World) :
    Calls Try.prog 55 #[.slice A n c, .int .i64 i] w fun e w' => e = .returned (.tuple #[.int .i64 (i / 8 : Nat), .int .u8 p, .bool true]) ∧ ∃ q, w' = w.drewN q := by
  subst hp; exact spot_in A n c i hn h w

theorem pack_big (A : Option Addr) (n c : Nat) (w : World) (hn : 256 < n) : Calls Try.prog 15 #[.slice A n c] w fun e w' => e = .returned (.tuple #[.slice none 0 0, .int .i64 3]) ∧ w = w' := by
  have d1 : decide ((256 : Int) < n) = true := by simp; omega
  go_enter Try.func15, Try.ntmps15
  go_wp2
  go_ret2
  exact ⟨rfl, rfl⟩

set_option maxHeartbeats 1000000 in
set_option maxRecDepth 100000 in
theorem pack_any (A : Option Addr) (n c : Nat) (l : List Bool) (w : World) (h : LRow w w.heap.size A n l) (hn : n ≤ 256) :
    Calls Try.prog 15 #[.slice A n c] w fun e w' => ∃ g, e = .returned (.tuple #[.slice (some ⟨g, 0, none⟩) ((n + 7) / 8) ((n + 7) / 8), .int .i64 0]) ∧ w.heap.size ≤ g ∧ BRow w' w'.heap.size (some ⟨g, 0, none⟩) ((n + 7) / 8) (pks l) ∧ Below w.heap.size w w' := by
  obtain ⟨i0, hi0, hz0, hz1, hz2⟩ := info_parts info_u8
  obtain ⟨hl, hr⟩ := h
  have HL := Lib.hid hl
  have d1 : decide ((256 : Int) < n) = false := by simp; omega
  clear hl
  go_enter Try.func15, Try.ntmps15
  go_wp2_with (first
    | (go_at_call 18; refine (size_any n (by omega) _).mono ?_; rintro e w' ⟨rfl, rfl⟩)
    | (at_make; refine wpList_make_full _ rfl _ _ 85 rfl w.heap.size 5 i0 (.int .u8 0) 1 Try.underlying85 hi0 hz0 hz1 _ _ _ _ ((n + 7) / 8) rfl rfl (by omega) (by omega) ?_ (by unfold maxLen; omega) (Nat.le_refl _) ?_))
  · rw [hz2]; omega
  intro w1 hown hgrow
  have hb1 : Below w.heap.size w w1 := (Below.refl _ _).grown hgrow (Nat.le_refl _) (fun _ h => by cases h)
  have hown1 : w1.ownsRow w.heap.size 5 1 (.slice (some ⟨w.heap.size, 0, none⟩) ((n + 7) / 8) ((n + 7) / 8)) ((n + 7) / 8) ((List.replicate ((n + 7) / 8) 0).map byc) := by
    have e : (madeCells #[Value.int .u8 0] ((n + 7) / 8)).toList = (List.replicate ((n + 7) / 8) 0).map byc := by
      rw [List.map_replicate]; exact toList_madeCells_one _ _
    rw [← e]; exact hown
  have hst := Lib.hid (PkI.start l)
  clear hown hgrow
  go_wp2
  go_loopw [19] (fun iv wr => ∃ (k : Nat) (bs : List Nat), iv = .int .i64 k ∧ k ≤ n ∧ PkI l k bs ∧ wr.ownsRow w.heap.size 5 1 (.slice (some ⟨w.heap.size, 0, none⟩) ((n + 7) / 8) ((n + 7) / 8)) ((n + 7) / 8) (bs.map byc) ∧ Below w.heap.size w wr) (fun iv _ => n - (intOf iv).toNat)
  case atStart => exact ⟨0, _, rfl, Nat.zero_le _, by have := hst.out; rw [HL.out] at this; exact this, hown1, hb1⟩
  case round =>
    clear hown1 hb1 hst
    obtain ⟨k, bs, rfl, hk, hI, hown, hbw⟩ := hrel
    have hlen : bs.length = (n + 7) / 8 := by rw [hI.1, HL.out]
    by_cases hlt : k < n
    · have d2 : decide (k < n) = true := by simpa using hlt
      obtain ⟨ad, rfl, _, hc⟩ := hr k hlt
      have hc' : wr.cell? (ad.add k) = some (.bool (bo l k)) := (hbw.cell (p := ad.add k) (by rw [block_add]; assumption)).trans hc
      have hj : k / 8 < (n + 7) / 8 := by omega
      have hby := own_byte hown hlen hj
      have hfz := hown.frozenAt (k / 8)
      have hB1 := hI.2.1.by_ (k / 8)
      obtain ⟨p, hp⟩ : ∃ p, p = 2 ^ (k % 8) := ⟨_, rfl⟩
      have hp8 : p < 256 := by rw [hp]; exact two_pow_lt (Nat.mod_lt _ (by omega))
      have hS := Lib.hid (spot_p (some ⟨w.heap.size, 0, none⟩) ((n + 7) / 8) ((n + 7) / 8) k p hp (by omega) hj)
      have hor := u8_or_nat (by_ bs (k / 8)) p hB1 hp8
      have HP := Lib.hid hp
      clear hr hc hp
      cases hbo : bo l k
      · rw [hbo] at hc'
        have HI := Lib.hid (hI.off hbo)
        clear hbo hI
        go_wp2_with (go_at_call 55; refine (hS.out _).mono ?_; rintro e w' ⟨rfl, q, rfl⟩)
        exact ⟨⟨k + 1, bs, by go_num, by omega, HI.out, own_drewN hown q, below_drewN hbw q⟩, by simp [intOf]; omega⟩
      · rw [hbo] at hc'
        have HI := Lib.hid (hI.on hbo (by rw [HL.out]; exact hlt))
        clear hbo hI
        go_wp2_with (go_at_call 55; refine (hS.out _).mono ?_; rintro e w' ⟨rfl, q, rfl⟩)
        exact ⟨⟨k + 1, _, by go_num, by omega, HI.out, by rw [List.map_set, ← HP.out]; exact ((own_drewN hown q).stored _ _).1, (below_drewN hbw q).setCell (Nat.le_refl _) _⟩, by simp [intOf]; omega⟩
    · have d2 : decide (k < n) = false := by simpa using hlt
      obtain rfl : k = n := by omega
      obtain rfl := PkI.done (l := l) (by rw [HL.out]; exact hI)
      have hdone : BRow wr wr.heap.size (some ⟨w.heap.size, 0, none⟩) ((k + 7) / 8) (pks l) := by
        obtain ⟨A2, c2, hv, _, _, hlo, hrow⟩ := brow_of_own hlen hI.2.1 hown
        simp only [Value.slice.injEq, true_and] at hv
        obtain ⟨rfl, rfl⟩ := hv
        exact hrow
      clear hI hown hlen
      go_wp2
      go_ret2
      exact ⟨_, rfl, Nat.le_refl _, hdone, hbw⟩
end Go.Proofs.Ytblpekeikmblmaa.BitsW
