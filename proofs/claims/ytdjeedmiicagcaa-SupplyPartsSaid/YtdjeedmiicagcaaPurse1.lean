/- The walks of the purse, first part: sums, one sum changed, two rows compared. Conditions: rows are read rightly and are not too long. -/
import Derived.Test.YtdjeedmiicagcaaWords
import Derived.Shelf.Spec.BitsCarry
import Derived.Laws.CopyOwn
namespace Go.Proofs
open Go.Shelf
def Try.lays25_ren : Go.Shelf.Ren := ⟨fun | 25 => 88 | n => n, fun | 22 => 22 | n => n, fun | n => n⟩
theorem Try.lays25 : Lays7.n25 Try.prog Try.lays25_ren := {
  mixed := by kernel_rfl
  f25 := Try.func88.trans (congrArg some (by kernel_rfl))
  t22 := Try.underlying22
  a22 := Try.isAgg22
  z22 := Try.sizeOf22
  v22 := Try.zeroValue22
  i22 := by kernel_rfl }
def Try.lays26_ren : Go.Shelf.Ren := ⟨fun | 26 => 87 | n => n, fun | 22 => 22 | n => n, fun | n => n⟩
theorem Try.lays26 : Lays7.n26 Try.prog Try.lays26_ren := {
  mixed := by kernel_rfl
  f26 := Try.func87.trans (congrArg some (by kernel_rfl))
  t22 := Try.underlying22
  a22 := Try.isAgg22
  z22 := Try.sizeOf22
  v22 := Try.zeroValue22
  i22 := by kernel_rfl }
end Go.Proofs
namespace Go.Proofs.Ytdjeedmiicagcaa.PurseW
open Go.RowKit
open Go.Proofs.Ytdjeedmiicagcaa.Words

def un (us : List Nat) (j : Nat) : Nat := us.getD j 0
def uw (b : Nat) : Value := .int .u64 b
theorem un_lt {us : List Nat} {k : Nat} (h : k < us.length) : un us k = us[k] := by
  unfold un; rw [List.getD_eq_getElem?_getD, List.getElem?_eq_getElem h]; rfl
theorem us_at {us : List Nat} {j : Nat} (h : j < us.length) : (us.map uw)[j]? = some (.int .u64 (un us j)) := by
  rw [List.getElem?_map, List.getElem?_eq_getElem h, un_lt h]; rfl
def Wd (us : List Nat) : Prop := ∀ b ∈ us, b < 18446744073709551616
theorem Wd.un {us : List Nat} (h : Wd us) (k : Nat) : un us k < 18446744073709551616 := by
  by_cases hk : k < us.length
  · rw [un_lt hk]; exact h _ (List.getElem_mem hk)
  · unfold PurseW.un; rw [List.getD_eq_getElem?_getD, List.getElem?_eq_none (by omega)]; decide
theorem Wd.set {us : List Nat} (h : Wd us) {k s : Nat} (hs : s < 18446744073709551616) : Wd (us.set k s) := fun b hb => by
  rcases List.mem_or_eq_of_mem_set hb with h' | h'
  · exact h b h'
  · omega
theorem un_set {us : List Nat} {k s : Nat} (hk : k < us.length) (j : Nat) : un (us.set k s) j = if j = k then s else un us j := by
  unfold un
  rw [List.getD_eq_getElem?_getD, List.getElem?_set, List.getD_eq_getElem?_getD]
  by_cases e : j = k
  · subst e; simp [hk]
  · rw [if_neg (fun h => e h.symm), if_neg e]
def URow (w : World) (B : Nat) (A : Option Addr) (n : Nat) (us : List Nat) : Prop := us.length = n ∧ Wd us ∧ Rd w B A n (fun j => .int .u64 (un us j : Nat))
theorem URow.to {w w' : World} {A : Option Addr} {n : Nat} {us : List Nat} (h : URow w w.heap.size A n us) (hb : Below w.heap.size w w') : URow w' w'.heap.size A n us := ⟨h.1, h.2.1, h.2.2.to hb⟩
theorem urow_of_own {w : World} {base : Nat} {e : TypeId} {v : Value} {n : Nat} {us : List Nat} (hn : us.length = n) (hb : Wd us) (h : w.ownsRow base e 1 v n (us.map uw)) :
    ∃ A c, v = .slice A n c ∧ n ≤ c ∧ c ≤ maxLen ∧ (∀ ad, A = some ad → base ≤ ad.block) ∧ URow w w.heap.size A n us := by
  obtain ⟨A, c, hv, hc, hm, hlo, hr⟩ := Rd.own h (fun j hj => us_at (by omega))
  exact ⟨A, c, hv, hc, hm, hlo, hn, hb, hr⟩
theorem urow_nil (w : World) (B : Nat) : URow w B none 0 [] := ⟨rfl, fun b hb => (by cases hb), Rd.nil⟩
theorem info_u64 : (Try.prog.info? 22).map (fun i => (i.zero, i.size, i.bytes)) = some (some (.int .u64 0), 1, 8) := by kernel_rfl

theorem add64_ok (x y s : Nat) (hs : s = x + y) (h : s < 18446744073709551616) (w : World) : (callFunc 88 #[.int .u64 x, .int .u64 y, .int .u64 0]).run Try.prog w = .ok (.value (.tuple #[.int .u64 s, .int .u64 0])) w := by
  refine (Any7.bits_Add64 Try.lays25 x y 0 (by omega) w).trans ?_
  rw [show (x + y + 0) % 18446744073709551616 = s by omega, show (x + y + 0) / 18446744073709551616 = 0 by omega]; rfl
theorem add64_bad (x y s : Nat) (hs : s + 18446744073709551616 = x + y) (h : s < 18446744073709551616) (w : World) : (callFunc 88 #[.int .u64 x, .int .u64 y, .int .u64 0]).run Try.prog w = .ok (.value (.tuple #[.int .u64 s, .int .u64 1])) w := by
  refine (Any7.bits_Add64 Try.lays25 x y 0 (by omega) w).trans ?_
  rw [show (x + y + 0) % 18446744073709551616 = s by omega, show (x + y + 0) / 18446744073709551616 = 1 by omega]; rfl
theorem sub64_ok (x y d : Nat) (hs : x = y + d) (h : x < 18446744073709551616) (w : World) : (callFunc 87 #[.int .u64 x, .int .u64 y, .int .u64 0]).run Try.prog w = .ok (.value (.tuple #[.int .u64 d, .int .u64 0])) w := by
  refine (Any7.bits_Sub64 Try.lays26 x y 0 (by omega) w).trans ?_
  rw [if_neg (by omega), show (x + 18446744073709551616 - y - 0) % 18446744073709551616 = d by omega]; rfl
theorem sub64_bad (x y d : Nat) (hs : x + 18446744073709551616 = y + d) (h : x < y) (hy : y < 18446744073709551616) (w : World) : (callFunc 87 #[.int .u64 x, .int .u64 y, .int .u64 0]).run Try.prog w = .ok (.value (.tuple #[.int .u64 d, .int .u64 1])) w := by
  refine (Any7.bits_Sub64 Try.lays26 x y 0 (by omega) w).trans ?_
  rw [if_pos (by omega), show (x + 18446744073709551616 - y - 0) % 18446744073709551616 = d by omega]; rfl

theorem madd_ok (x y s : Nat) (hs : s = x + y) (h : s < 18446744073709551616) (w : World) : Calls Try.prog 63 #[.int .u64 x, .int .u64 y] w fun e w' => e = .returned (.tuple #[.int .u64 s, .int .i64 0]) ∧ w = w' := by
  have H := Lib.hid (add64_ok x y s hs h)
  clear hs h
  go_enter Try.func63, Try.ntmps63
  go_wp2_with (simp only [H.out])
  go_ret2
  exact ⟨rfl, rfl⟩
theorem madd_bad (x y : Nat) (hx : x < 18446744073709551616) (hy : y < 18446744073709551616) (h : 18446744073709551616 ≤ x + y) (w : World) : Calls Try.prog 63 #[.int .u64 x, .int .u64 y] w fun e w' => e = .returned (.tuple #[.int .u64 0, .int .i64 10]) ∧ w = w' := by
  obtain ⟨s, hs⟩ : ∃ s, s + 18446744073709551616 = x + y := ⟨x + y - 18446744073709551616, by omega⟩
  have H := Lib.hid (add64_bad x y s hs (by omega))
  clear hs h hx hy
  go_enter Try.func63, Try.ntmps63
  go_wp2_with (simp only [H.out])
  go_ret2
  exact ⟨rfl, rfl⟩
theorem msub_ok (x y d : Nat) (hs : x = y + d) (h : x < 18446744073709551616) (w : World) : Calls Try.prog 61 #[.int .u64 x, .int .u64 y] w fun e w' => e = .returned (.tuple #[.int .u64 d, .int .i64 0]) ∧ w = w' := by
  have H := Lib.hid (sub64_ok x y d hs h)
  clear hs h
  go_enter Try.func61, Try.ntmps61
  go_wp2_with (simp only [H.out])
  go_ret2
  exact ⟨rfl, rfl⟩
theorem msub_bad (x y : Nat) (h : x < y) (hy : y < 18446744073709551616) (w : World) : Calls Try.prog 61 #[.int .u64 x, .int .u64 y] w fun e w' => e = .returned (.tuple #[.int .u64 0, .int .i64 11]) ∧ w = w' := by
  obtain ⟨d, hs⟩ : ∃ d, x + 18446744073709551616 = y + d := ⟨x + 18446744073709551616 - y, by omega⟩
  have H := Lib.hid (sub64_bad x y d hs h hy)
  clear hs h hy
  go_enter Try.func61, Try.ntmps61
  go_wp2_with (simp only [H.out])
  go_ret2
  exact ⟨rfl, rfl⟩

theorem there_yes (A : Option Addr) (n c i : Nat) (h : i < n) (w : World) : Calls Try.prog 64 #[.slice A n c, .int .i64 i] w fun e w' => e = .returned (.bool true) ∧ w = w' := by
  go_enter Try.func64, Try.ntmps64
  have d1 : decide (i < n) = true := by simpa using h
  go_wp2
  go_ret
  exact ⟨rfl, rfl⟩
theorem there_no (A : Option Addr) (n c : Nat) (i : Int) (h : i < 0 ∨ (n : Int) ≤ i) (w : World) : Calls Try.prog 64 #[.slice A n c, .int .i64 i] w fun e w' => e = .returned (.bool false) ∧ w = w' := by
  by_cases h0 : i < 0
  · have d1 : decide (0 ≤ i) = false := by simp; omega
    clear h
    go_enter Try.func64, Try.ntmps64
    go_wp2
    go_ret
    exact ⟨rfl, rfl⟩
  · obtain ⟨k, rfl⟩ : ∃ k : Nat, i = k := ⟨i.toNat, by omega⟩
    have d1 : decide (k < n) = false := by simp; omega
    clear h h0
    go_enter Try.func64, Try.ntmps64
    go_wp2
    go_ret
    exact ⟨rfl, rfl⟩
theorem has_no (A : Option Addr) (n c : Nat) (i : Int) (h : i < 0 ∨ (n : Int) ≤ i) (w : World) : Calls Try.prog 26 #[.slice A n c, .int .i64 i] w fun e w' => e = .returned (.tuple #[.int .u64 0, .int .i64 170]) ∧ w = w' := by
  have H := Lib.hid (there_no A n c i h w)
  clear h
  go_enter Try.func26, Try.ntmps26
  go_wp2_with fail
  refine H.out.mono ?_
  rintro e w' ⟨rfl, rfl⟩
  go_wp2
  go_ret2
  exact ⟨rfl, rfl⟩
theorem has_yes (A : Option Addr) (n c i L : Nat) (us : List Nat) (h : i < n) (w : World) (hr : URow w L A n us) : Calls Try.prog 26 #[.slice A n c, .int .i64 i] w fun e w' => e = .returned (.tuple #[.int .u64 (un us i), .int .i64 0]) ∧ w = w' := by
  obtain ⟨ad, rfl, _, hc⟩ := hr.2.2 i h
  have hc' : w.cell? (ad.add i) = some (.int .u64 (un us i)) := hc
  have d1 : decide (i < n) = true := by simpa using h
  clear hc hr
  generalize un us i = x at hc' ⊢
  go_enter Try.func26, Try.ntmps26
  go_wp2_with fail
  refine (there_yes (some ad) n c i h w).mono ?_
  rintro e w' ⟨rfl, rfl⟩
  go_wp2
  go_ret2
  exact ⟨rfl, rfl⟩

theorem same_yes (A B : Option Addr) (n c d L : Nat) (us : List Nat) (w : World) (h : URow w L A n us) (h' : URow w L B n us) (hn : n ≤ 1000000) :
    Calls Try.prog 30 #[.slice A n c, .slice B n d] w fun e w' => e = .returned (.bool true) ∧ ∃ q, w' = w.drewN q := by
  have hA := h.2.2
  have hB := h'.2.2
  clear h h'
  go_enter Try.func30, Try.ntmps30
  go_wp2
  go_loopw [5] (fun v wr => ∃ (k q : Nat), v = .int .i64 k ∧ k ≤ n ∧ wr = w.drewN q) (fun v _ => n - (intOf v).toNat)
  case atStart => exact ⟨0, 0, rfl, Nat.zero_le _, rfl⟩
  case round =>
    obtain ⟨k, q, rfl, hk, rfl⟩ := hrel
    by_cases hlt : k < n
    · have d1 : decide (k < n) = true := by simpa using hlt
      obtain ⟨a, rfl, _, ha⟩ := hA k hlt
      obtain ⟨b, rfl, _, hb⟩ := hB k hlt
      have ha' : w.cell? (a.add k) = some (.int .u64 (un us k)) := ha
      have hb' : w.cell? (b.add k) = some (.int .u64 (un us k)) := hb
      clear hA hB ha hb
      generalize un us k = x at *
      go_wp2
      go_quiet (fail)
      go_wp2
      exact ⟨⟨k + 1, _, by go_num, by omega, rfl⟩, by simp [intOf]; omega⟩
    · have d1 : decide (k < n) = false := by simpa using hlt
      go_wp2
      go_ret
      exact ⟨rfl, q, rfl⟩

theorem heap_of_own {w : World} {base g : Nat} {e : TypeId} {n : Nat} {xs : List Value} (h : w.ownsRow base e 1 (.slice (some ⟨g, 0, none⟩) n n) n xs) : w.heap[g]? = some (.cells xs.toArray e (0, 0)) := by
  rcases h.2 with ⟨hv, _⟩ | ⟨g', cap, cur, hv, _, hgg, _, _, hsz, htk⟩
  · cases hv
  · cases hv
    rw [hgg]
    rw [List.take_of_length_le (by simp [hsz])] at htk
    rw [← htk]
theorem src_of {w : World} {B : Nat} {ad : Addr} {n : Nat} {us : List Nat} (hl : us.length = n) (h : Rd w B (some ad) n (fun j => .int .u64 (un us j : Nat))) : ∀ j v, (us.map uw)[j]? = some v → w.cell? (ad.add j) = some v := fun j v hv => by
  by_cases hj : j < n
  · rw [us_at (by omega)] at hv
    obtain ⟨ad', e, _, hc⟩ := h j hj
    cases e
    exact hc.trans hv
  · rw [List.getElem?_eq_none (by simp; omega)] at hv; cases hv
set_option maxRecDepth 100000 in
theorem with_any (A : Option Addr) (n c i s : Nat) (us : List Nat) (w : World) (h : URow w w.heap.size A n us) (hi : i < n) (hn : n ≤ 1000000) (hs : s < 18446744073709551616) :
    Calls Try.prog 62 #[.slice A n c, .int .i64 i, .int .u64 s] w fun e w' => ∃ B d, e = .returned (.slice B n d) ∧ URow w' w'.heap.size B n (us.set i s) ∧ Below w.heap.size w w' := by
  obtain ⟨i0, hi0, hz0, hz1, hz2⟩ := info_parts info_u64
  obtain ⟨hl, hw, hr⟩ := h
  have d1 : decide (i < n) = true := by simpa using hi
  obtain ⟨ad, rfl, _, _⟩ := hr i hi
  go_enter Try.func62, Try.ntmps62
  go_wp2_with (at_make; refine wpList_make_full _ rfl _ _ 31 rfl w.heap.size 22 i0 (.int .u64 0) 1 Try.underlying31 hi0 hz0 hz1 _ _ _ _ n rfl rfl (by omega) (by omega) ?_ (by unfold maxLen; omega) (Nat.le_refl _) ?_)
  · omega
  intro w1 hown hgrow
  have hb1 : Below w.heap.size w w1 := (Below.refl _ _).grown hgrow (Nat.le_refl _) (fun _ h => by cases h)
  have hg1 : w1.heap[w.heap.size]? = some (.cells (List.replicate n (Value.int .u64 0)).toArray 22 (0, 0)) := by
    have e : (madeCells #[Value.int .u64 0] n).toList = List.replicate n (Value.int .u64 0) := toList_madeCells_one _ _
    rw [← e]; exact heap_of_own hown
  clear hown hgrow
  have hrd1 := hr.below hb1
  have hsrc := src_of hl hrd1
  have hsp : splice (List.replicate n (Value.int .u64 0)) 0 (us.map uw) = us.map uw := by
    unfold splice
    simp [hl]
  have HSP := Lib.hid hsp
  clear hsp hrd1 hr
  go_wp2_with (refine wpList_copy_splice rfl (.tmp 11) (.tmp 12) 31 31 rfl 22 Try.underlying31 (by kernel_rfl) (some ⟨w.heap.size, 0, none⟩) (some ad) n n n c rfl rfl w.heap.size 0 (List.replicate n (Value.int .u64 0)) 22 hg1 (us.map uw) (by simp [hl]) (fun _ => ⟨rfl, ad, rfl, hsrc⟩) (by simp [hl]) (fun v hv => by rw [List.mem_map] at hv; obtain ⟨b, _, rfl⟩ := hv; rfl) w.heap.size w hb1 (Nat.le_refl _) ?_)
  intro w2 hg2 hb2
  have hg2' := hg2.out
  rw [HSP.out] at hg2'
  have hown2 : w2.ownsRow w.heap.size 22 1 (.slice (some ⟨w.heap.size, 0, none⟩) n n) n (us.map uw) :=
    ⟨by simp [hl], .inr ⟨_, n, _, rfl, Nat.le_refl _, hg2', Nat.le_refl _, by unfold maxLen; omega, by simp [hl], by rw [List.take_of_length_le (by simp [hl])]⟩⟩
  have hci := (hown2.cellAt i (by omega)).trans (us_at (by omega))
  have hfz := hown2.frozenAt i
  clear hg2 hg2' hg1 hsrc hb1
  generalize un us i = old at hci
  go_wp2
  go_ret
  have hst := (hown2.stored i (.int .u64 s)).1
  rw [show (us.map uw).set i (.int .u64 s) = (us.set i s).map uw by rw [List.map_set]; rfl] at hst
  have hb3 : Below w.heap.size w (w2.setCell ⟨w.heap.size, i, none⟩ (.int .u64 s)) := hb2.setCell (Nat.le_refl _) _
  obtain ⟨B, d, hv, _, _, _, hrow⟩ := urow_of_own (by simp [hl]) (hw.set hs) hst
  injection hv with h1 h2 h3
  subst h1 h3
  exact ⟨_, _, rfl, hrow, hb3⟩
end Go.Proofs.Ytdjeedmiicagcaa.PurseW
