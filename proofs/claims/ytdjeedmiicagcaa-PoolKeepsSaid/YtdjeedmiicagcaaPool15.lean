/- The pool, fifteenth part: what Owe does to a good list, plain; what Ripe parts. Conditions: rows are read rightly and are not too long. -/
import Derived.Test.YtdjeedmiicagcaaPool14
namespace Go.Proofs.Ytdjeedmiicagcaa.PoolW
open Go.RowKit
open Go.Proofs.Ytdjeedmiicagcaa.Words Go.Proofs.Ytdjeedmiicagcaa.NatW Go.Proofs.Ytdjeedmiicagcaa.PurseW

def tot (ds : List Du) : Nat := (ds.map Du.am).sum
def srt (ds : List Du) : Prop := (ds.map Du.ti).Pairwise (· ≤ ·)
def pos (ds : List Du) : Prop := ∀ x ∈ ds, x.am ≠ 0
theorem sm_sum (us : List Nat) : sm us us.length = us.sum := by
  suffices h : ∀ (l us : List Nat), sm (us ++ l) (us ++ l).length = sm us us.length + l.sum by
    have := h us []
    simpa [sm] using this
  intro l
  induction l with
  | nil => intro us; simp
  | cons x l ih =>
    intro us
    have h1 := ih (us ++ [x])
    have h2 : sm (us ++ [x]) (us ++ [x]).length = sm us us.length + x := by
      have := sm_append us [x] 1
      rw [List.length_append]
      simpa [sm, un] using this
    rw [List.append_assoc] at h1
    rw [show us ++ x :: l = us ++ ([x] ++ l) from rfl, h1, h2, List.sum_cons]
    omega
theorem sumr_tot {ds : List Du} (h : tot ds < 18446744073709551616) : sumr (ams [] ds) (tot ds, 0) := by
  have e : sm (ams [] ds) (ams [] ds).length = tot ds := by rw [sm_sum]; rfl
  rw [sumr, e, if_pos h]
theorem am_le {ds : List Du} {x : Du} (h : x ∈ ds) : x.am ≤ tot ds := by
  induction ds with
  | nil => cases h
  | cons d ds ih =>
    simp only [tot, List.map_cons, List.sum_cons] at ih ⊢
    rcases List.mem_cons.1 h with rfl | h
    · omega
    · have := ih h; omega
theorem wd_tot {ds : List Du} (h : tot ds < 18446744073709551616) : Wd (ams [] ds) := by
  intro u hu
  obtain ⟨x, hx, rfl⟩ := List.mem_map.1 (by simpa [ams] using hu)
  exact Nat.lt_of_le_of_lt (am_le hx) h
theorem tot_append (a b : List Du) : tot (a ++ b) = tot a + tot b := by simp [tot]
theorem tot_set {ds : List Du} {k : Nat} {x y : Du} (hk : ds[k]? = some x) : tot (ds.set k y) + x.am = tot ds + y.am := by
  induction ds generalizing k with
  | nil => simp at hk
  | cons d ds ih =>
    cases k with
    | zero =>
      simp at hk
      subst hk
      simp [tot]; omega
    | succ k =>
      have := ih (k := k) (by simpa using hk)
      simp only [tot, List.set_cons_succ, List.map_cons, List.sum_cons] at this ⊢
      omega
/-- what stands in a list behind Owe -/
def Nxt (ds : List Du) (d : Du) (es : List Du) : Prop := tot es = tot ds + d.am ∧ srt es ∧ pos es ∧ es.length ≤ ds.length + 1
theorem nxt_zero {ds : List Du} {d : Du} (hs : srt ds) (hp : pos ds) (h : d.am = 0) : Nxt ds d ds := ⟨by omega, hs, hp, by omega⟩
theorem nxt_hit {ds : List Du} {d x : Du} {k : Nat} (hs : srt ds) (hp : pos ds) (hk : ds[k]? = some x) (h0 : 0 < d.am) (s : Nat) (he : s = x.am + d.am) : Nxt ds d (ds.set k ⟨x.ac, x.ti, s⟩) := by
  refine ⟨?_, ?_, ?_, by simp⟩
  · have := tot_set (y := ⟨x.ac, x.ti, s⟩) hk
    simp only at this
    omega
  · have e : (ds.set k ⟨x.ac, x.ti, s⟩).map Du.ti = ds.map Du.ti := by
      rw [List.map_set]
      apply List.ext_getElem?
      intro j
      rw [List.getElem?_set]
      split
      · rename_i h
        subst h
        split
        · rw [List.getElem?_map, hk]; rfl
        · rename_i h2
          rw [List.getElem?_eq_none (by omega)]
      · rfl
    rw [srt, e]
    exact hs
  · intro y hy
    rcases List.mem_or_eq_of_mem_set hy with h | rfl
    · exact hp y h
    · simp only; omega
theorem nxt_new {ds : List Du} {d : Du} {p : Nat} (hs : srt ds) (hp : pos ds) (h0 : 0 < d.am) (hpl : Place ds d p) : Nxt ds d (ds.take p ++ d :: ds.drop p) := by
  refine ⟨?_, ?_, ?_, by simp [List.length_append]; omega⟩
  · have := tot_append (ds.take p) (ds.drop p)
    rw [List.take_append_drop] at this
    rw [tot_append, this]
    simp [tot]
    omega
  · have h1 : (ds.map Du.ti).take p ++ (ds.map Du.ti).drop p = ds.map Du.ti := List.take_append_drop ..
    have hs' := hs
    rw [srt, ← h1, List.pairwise_append] at hs'
    obtain ⟨ha, hb, hab⟩ := hs'
    rw [srt, List.map_append, List.map_cons, List.map_take, List.map_drop, List.pairwise_append]
    have hdr : ∀ b ∈ (ds.map Du.ti).drop p, d.ti ≤ b := fun b hb' => by
      obtain ⟨j, hj⟩ := List.getElem?_of_mem hb'
      rw [List.getElem?_drop, List.getElem?_map] at hj
      rcases hy : ds[p + j]? with _ | y
      · rw [hy] at hj; cases hj
      · rw [hy] at hj
        have := hpl.2.1 (p + j) y (by omega) hy
        simp at hj
        omega
    have hta : ∀ a ∈ (ds.map Du.ti).take p, a ≤ d.ti := fun a ha' => by
      obtain ⟨j, hj⟩ := List.getElem?_of_mem ha'
      rw [List.getElem?_take] at hj
      split at hj
      · rename_i hlt
        rcases hpl.2.2 with h | ⟨y, hy, hle⟩
        · omega
        · have hy' : (ds.map Du.ti)[p - 1]? = some y.ti := by rw [List.getElem?_map, hy]; rfl
          rcases Nat.lt_or_ge j (p - 1) with h | h
          · have hl1 := (List.getElem?_eq_some_iff.1 hj)
            have hl2 := (List.getElem?_eq_some_iff.1 hy')
            obtain ⟨q1, q2⟩ := hl1
            obtain ⟨q3, q4⟩ := hl2
            have := (List.pairwise_iff_getElem.1 hs) j (p - 1) q1 q3 h
            rw [q2, q4] at this
            omega
          · obtain rfl : j = p - 1 := by omega
            rw [hy'] at hj
            injection hj with hj
            omega
      · cases hj
    refine ⟨ha, List.pairwise_cons.2 ⟨hdr, hb⟩, fun a ha' b hb' => ?_⟩
    rcases List.mem_cons.1 hb' with rfl | hb'
    · exact hta a ha'
    · exact Int.le_trans (hta a ha') (hdr b hb')
  · intro y hy
    rcases List.mem_append.1 hy with h | h
    · exact hp y (List.mem_of_mem_take h)
    · rcases List.mem_cons.1 h with rfl | h
      · omega
      · exact hp y (List.mem_of_mem_drop h)
theorem place_any (ds : List Du) (d : Du) : ∃ p, Place ds d p := by
  suffices h : ∀ m, m ≤ ds.length → (∀ (j : Nat) (y : Du), m ≤ j → ds[j]? = some y → d.ti < y.ti) → ∃ p, Place ds d p from
    h ds.length (Nat.le_refl _) (fun j y hj hy => by rw [List.getElem?_eq_none hj] at hy; cases hy)
  intro m
  induction m with
  | zero => exact fun _ h => ⟨0, Nat.zero_le _, h, .inl rfl⟩
  | succ m ih =>
    intro hm h
    obtain ⟨y, hy⟩ : ∃ y, ds[m]? = some y := ⟨_, List.getElem?_eq_getElem (by omega)⟩
    by_cases hlt : d.ti < y.ti
    · refine ih (by omega) fun j z hj hz => ?_
      rcases Nat.lt_or_ge m j with h1 | h1
      · exact h j z h1 hz
      · obtain rfl : j = m := by omega
        rw [hy] at hz
        injection hz with hz
        subst hz
        exact hlt
    · exact ⟨m + 1, hm, h, .inr ⟨y, hy, by omega⟩⟩
theorem first_any (p : Du → Bool) (ds : List Du) : (∃ k x, ds[k]? = some x ∧ p x = true ∧ ∀ (j : Nat) (y : Du), j < k → ds[j]? = some y → p y = false) ∨ ∀ (j : Nat) (y : Du), ds[j]? = some y → p y = false := by
  suffices h : ∀ m, (∃ k x, ds[k]? = some x ∧ p x = true ∧ ∀ (j : Nat) (y : Du), j < k → ds[j]? = some y → p y = false) ∨ ∀ (j : Nat) (y : Du), j < m → ds[j]? = some y → p y = false by
    rcases h ds.length with h | h
    · exact .inl h
    · exact .inr fun j y hy => h j y (List.getElem?_eq_some_iff.1 hy).1 hy
  intro m
  induction m with
  | zero => exact .inr fun j y hj => by omega
  | succ m ih =>
    rcases ih with h | h
    · exact .inl h
    · rcases hx : ds[m]? with _ | x
      · refine .inr fun j y hj hy => ?_
        rcases Nat.lt_or_ge j m with h1 | h1
        · exact h j y h1 hy
        · obtain rfl : j = m := by omega
          rw [hx] at hy; cases hy
      · rcases hp : p x with _ | _
        · refine .inr fun j y hj hy => ?_
          rcases Nat.lt_or_ge j m with h1 | h1
          · exact h j y h1 hy
          · obtain rfl : j = m := by omega
            rw [hx] at hy
            injection hy with hy
            subst hy
            exact hp
        · exact .inl ⟨m, x, hx, hp, h⟩
/-- Owe of any due of no more than 2^50, of a list that is in order -/
def OweEnd (w : World) (ds : List Du) (d : Du) (e : Ending) (w' : World) : Prop :=
  (∃ k : Int, k ≠ 0 ∧ e = .returned (.tuple #[.slice none 0 0, .int .i64 k]) ∧ Below w.heap.size w w') ∨ ∃ es, Nxt ds d es ∧ OweOk w es e w'
theorem owe_any (A : Option Addr) (n c : Nat) (ds : List Du) (d : Du) (w : World) (hR : SRow w w.heap.size A n 3 (flat Du.enc ds)) (hn : n ≤ 900) (hA : A = none → n = 0 ∧ c = 0) (hd : d.am ≤ 1125899906842624)
    (ht : tot ds < 4611686018427387904) (hs : srt ds) (hp : pos ds) :
    Calls Try.prog 54 #[.slice A n c, .agg #[.int .i64 d.ac, .int .i64 d.ti, .int .u64 d.am]] w (OweEnd w ds d) := by
  have hln := hR.len Du.len (by omega)
  by_cases h : OweArg d
  · rcases Nat.eq_zero_or_pos d.am with h0 | h0
    · exact (owe_zero A n c ds d w hR hn hA h h0).mono fun e w' h1 => .inr ⟨ds, nxt_zero hs hp h0, h1⟩
    · rcases first_any (eqv d) ds with ⟨k, x, hk, hx, hno⟩ | hno
      · have hxl := am_le (List.mem_of_getElem? hk)
        rcases Nat.lt_or_ge 4611686018427387904 (x.am + d.am) with hbig | hfit
        · exact (owe_hit_far A n c ds d k x w hR hn hA h ⟨h0, by omega⟩ hk hx hno hbig (by omega)).mono fun e w' h1 => .inl ⟨10, by omega, h1.1, h1.2⟩
        · exact (owe_hit_ok A n c ds d k x w hR hn hA h ⟨h0, by omega⟩ hk hx hno _ rfl hfit).mono fun e w' h1 => .inr ⟨_, nxt_hit hs hp hk h0 _ rfl, h1⟩
      · obtain ⟨p, hpl⟩ := place_any ds d
        exact (owe_new A n c ds d p w hR hn hA h ⟨h0, by omega⟩ hno hpl (insert_any d ds (by omega) p hpl.1)).mono fun e w' h1 => .inr ⟨_, nxt_new hs hp h0 hpl, h1⟩
  · exact (owe_arg A n c d w h).mono fun e w' h1 => .inl ⟨2, by omega, h1.1, h1.2⟩

/-- what is ripe and what is not are together all of it -/
theorem ripe_tot (now : Int) (ds : List Du) : tot (rp now ds) + tot (rs now ds) = tot ds := by
  induction ds with
  | nil => rfl
  | cons d ds ih =>
    unfold rp rs tot at *
    by_cases h : d.ti ≤ now
    · simp [h] at ih ⊢; omega
    · simp [h] at ih ⊢; omega
theorem ripe_len (now : Int) (ds : List Du) : (rp now ds).length + (rs now ds).length = ds.length := by
  induction ds with
  | nil => rfl
  | cons d ds ih =>
    unfold rp rs at *
    by_cases h : d.ti ≤ now
    · simp [h] at ih ⊢; omega
    · simp [h] at ih ⊢; omega
theorem rp_le {now : Int} {ds : List Du} {j : Nat} {d : Du} (h : (rp now ds)[j]? = some d) : d.ti ≤ now := by
  have := List.mem_of_getElem? h
  simpa [rp] using (List.mem_filter.1 this).2
theorem rs_gt {now : Int} {ds : List Du} {j : Nat} {d : Du} (h : (rs now ds)[j]? = some d) : now < d.ti := by
  have := List.mem_of_getElem? h
  simpa [rs] using (List.mem_filter.1 this).2
end Go.Proofs.Ytdjeedmiicagcaa.PoolW
