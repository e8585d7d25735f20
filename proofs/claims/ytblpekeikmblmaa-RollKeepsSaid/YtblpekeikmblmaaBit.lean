/- Plain lemmas on bytes and bits: a field of bits as a list of bytes. Nothing of the program is in sight. No conditions. -/
namespace Go.Proofs.Ytblpekeikmblmaa.Bit

def by_ (bs : List Nat) (k : Nat) : Nat := bs.getD k 0
def Byt (bs : List Nat) : Prop := ∀ b ∈ bs, b < 256
/-- the bit at a place -/
def bit (bs : List Nat) (i : Nat) : Bool := (by_ bs (i / 8)).testBit (i % 8)
/-- the bool at a place -/
def bo (l : List Bool) (i : Nat) : Bool := l.getD i false

theorem by_lt {bs : List Nat} {k : Nat} (h : k < bs.length) : by_ bs k = bs[k] := by
  unfold by_; rw [List.getD_eq_getElem?_getD, List.getElem?_eq_getElem h]; rfl
theorem by_ge {bs : List Nat} {k : Nat} (h : bs.length ≤ k) : by_ bs k = 0 := by
  unfold by_; rw [List.getD_eq_getElem?_getD, List.getElem?_eq_none h]; rfl
theorem Byt.by_ {bs : List Nat} (h : Byt bs) (k : Nat) : by_ bs k < 256 := by
  by_cases hk : k < bs.length
  · rw [by_lt hk]; exact h _ (List.getElem_mem _)
  · rw [by_ge (by omega)]; omega
theorem bo_lt {l : List Bool} {k : Nat} (h : k < l.length) : bo l k = l[k] := by
  unfold bo; rw [List.getD_eq_getElem?_getD, List.getElem?_eq_getElem h]; rfl
theorem bo_ge {l : List Bool} {k : Nat} (h : l.length ≤ k) : bo l k = false := by
  unfold bo; rw [List.getD_eq_getElem?_getD, List.getElem?_eq_none h]; rfl
theorem bit_ge {bs : List Nat} {i : Nat} (h : bs.length ≤ i / 8) : bit bs i = false := by
  unfold bit; rw [by_ge h]; simp

theorem byt_set {bs : List Nat} {k x : Nat} (h : Byt bs) (hx : x < 256) : Byt (bs.set k x) := fun d hd => by
  rcases List.mem_or_eq_of_mem_set hd with hd | hd
  · exact h d hd
  · omega
theorem byt_zeros (n : Nat) : Byt (List.replicate n 0) := fun d hd => by
  have := List.eq_of_mem_replicate hd
  omega
theorem by_set {bs : List Nat} {k x : Nat} (hk : k < bs.length) (j : Nat) : by_ (bs.set k x) j = if j = k then x else by_ bs j := by
  unfold by_
  simp only [List.getD_eq_getElem?_getD, List.getElem?_set]
  by_cases e : k = j
  · subst e; simp [hk]
  · rw [if_neg e, if_neg (by omega)]
theorem by_zeros (n k : Nat) : by_ (List.replicate n 0) k = 0 := by
  unfold by_
  rw [List.getD_eq_getElem?_getD, List.getElem?_replicate]
  split <;> rfl
theorem bit_zeros (n i : Nat) : bit (List.replicate n 0) i = false := by unfold bit; rw [by_zeros]; simp

theorem two_pow_lt {k : Nat} (h : k < 8) : 2 ^ k < 256 := Nat.lt_of_lt_of_le (Nat.pow_lt_pow_right (by omega) h) (by decide)
theorem or_lt {a b : Nat} (ha : a < 256) (hb : b < 256) : a ||| b < 256 := Nat.or_lt_two_pow (n := 8) ha hb

/-- a bit is laid -/
theorem bit_or {bs : List Nat} {i : Nat} (hi : i / 8 < bs.length) (j : Nat) : bit (bs.set (i / 8) (by_ bs (i / 8) ||| 2 ^ (i % 8))) j = (bit bs j || decide (j = i)) := by
  unfold bit
  rw [by_set hi]
  by_cases e : j / 8 = i / 8
  · rw [if_pos e, Nat.testBit_or, Nat.testBit_two_pow, e]
    congr 1
    by_cases e2 : i % 8 = j % 8
    · rw [decide_eq_true e2, decide_eq_true (by omega)]
    · rw [decide_eq_false e2, decide_eq_false (by omega)]
  · rw [if_neg e, decide_eq_false (by omega), Bool.or_false]

/-- one byte joined into another -/
theorem bit_join {bs : List Nat} {k x : Nat} (hk : k < bs.length) (j : Nat) : bit (bs.set k (by_ bs k ||| x)) j = (bit bs j || (decide (j / 8 = k) && x.testBit (j % 8))) := by
  unfold bit
  rw [by_set hk]
  by_cases e : j / 8 = k
  · rw [if_pos e, Nat.testBit_or, e]; simp
  · rw [if_neg e, decide_eq_false e]; simp

theorem and_pow (x k : Nat) : x &&& 2 ^ k = if x.testBit k then 2 ^ k else 0 := by
  apply Nat.eq_of_testBit_eq
  intro j
  rw [Nat.testBit_and, Nat.testBit_two_pow]
  by_cases e : k = j
  · subst e; cases x.testBit k <;> simp
  · rw [decide_eq_false e]
    cases x.testBit k
    · simp
    · rw [if_pos rfl, Nat.testBit_two_pow, decide_eq_false e]; simp
theorem and_pow_ne (x k : Nat) : decide (x &&& 2 ^ k ≠ 0) = x.testBit k := by
  rw [and_pow]
  have := Nat.pow_pos (n := k) (show 0 < 2 by omega)
  cases x.testBit k <;> simp

/-- two lists of bytes with the same bits are one -/
theorem byte_ext {a b : Nat} (ha : a < 256) (hb : b < 256) (h : ∀ t, t < 8 → a.testBit t = b.testBit t) : a = b := by
  apply Nat.eq_of_testBit_eq
  intro t
  by_cases ht : t < 8
  · exact h t ht
  · have e1 : a.testBit t = false := Nat.testBit_lt_two_pow (Nat.lt_of_lt_of_le ha (by rw [show (256 : Nat) = 2 ^ 8 from rfl]; exact Nat.pow_le_pow_right (by omega) (by omega)))
    have e2 : b.testBit t = false := Nat.testBit_lt_two_pow (Nat.lt_of_lt_of_le hb (by rw [show (256 : Nat) = 2 ^ 8 from rfl]; exact Nat.pow_le_pow_right (by omega) (by omega)))
    rw [e1, e2]
theorem bytes_ext {as bs : List Nat} (hl : as.length = bs.length) (ha : Byt as) (hb : Byt bs) (h : ∀ i, i < 8 * as.length → bit as i = bit bs i) : as = bs := by
  apply List.ext_getElem hl
  intro k h1 h2
  rw [← by_lt h1, ← by_lt h2]
  refine byte_ext (ha.by_ k) (hb.by_ k) fun t ht => ?_
  have := h (8 * k + t) (by omega)
  unfold bit at this
  rw [show (8 * k + t) / 8 = k by omega, show (8 * k + t) % 8 = t by omega] at this
  exact this

/-- bytes are the field of some bools -/
def Packs (l : List Bool) (bs : List Nat) : Prop := bs.length = (l.length + 7) / 8 ∧ Byt bs ∧ ∀ i, bit bs i = bo l i
theorem Packs.one {l : List Bool} {as bs : List Nat} (h : Packs l as) (k : Packs l bs) : as = bs :=
  bytes_ext (h.1.trans k.1.symm) h.2.1 k.2.1 fun i _ => (h.2.2 i).trans (k.2.2 i).symm

/-- a byte of some bits, the lowest first -/
def pkr (f : Nat → Bool) : Nat → Nat
  | 0 => 0
  | t + 1 => (if f 0 then 1 else 0) + 2 * pkr (fun s => f (s + 1)) t
theorem pkr_lt (f : Nat → Bool) : ∀ (t : Nat), pkr f t < 2 ^ t := by
  intro t
  induction t generalizing f with
  | zero => simp [pkr]
  | succ t ih =>
    have := ih (fun s => f (s + 1))
    simp only [pkr]
    rw [Nat.pow_succ]
    split <;> omega
theorem testBit_pkr (f : Nat → Bool) (t s : Nat) : (pkr f t).testBit s = (decide (s < t) && f s) := by
  induction t generalizing f s with
  | zero => simp [pkr]
  | succ t ih =>
    simp only [pkr]
    cases s with
    | zero =>
      rw [Nat.testBit_zero]
      cases f 0 <;> simp <;> omega
    | succ s =>
      rw [Nat.testBit_succ, show ((if f 0 = true then 1 else 0) + 2 * pkr (fun s => f (s + 1)) t) / 2 = pkr (fun s => f (s + 1)) t by split <;> omega, ih]
      simp
/-- byte b of a list's field -/
def pk (l : List Bool) (b : Nat) : Nat := pkr (fun t => bo l (8 * b + t)) 8
theorem pk_lt (l : List Bool) (b : Nat) : pk l b < 256 := pkr_lt _ 8
theorem testBit_pk {l : List Bool} {b t : Nat} (ht : t < 8) : (pk l b).testBit t = bo l (8 * b + t) := by
  unfold pk; rw [testBit_pkr, decide_eq_true ht]; simp
def pks (l : List Bool) : List Nat := (List.range ((l.length + 7) / 8)).map (pk l)
theorem by_pks {l : List Bool} {b : Nat} (hb : b < (l.length + 7) / 8) : by_ (pks l) b = pk l b := by
  rw [by_lt (by simpa [pks] using hb)]; simp [pks]
theorem packs_pks (l : List Bool) : Packs l (pks l) := by
  refine ⟨by simp [pks], ?_, fun i => ?_⟩
  · intro d hd
    simp only [pks, List.mem_map] at hd
    obtain ⟨b, _, rfl⟩ := hd
    exact pk_lt l b
  · by_cases hi : i / 8 < (l.length + 7) / 8
    · unfold bit
      rw [by_pks hi, testBit_pk (Nat.mod_lt _ (by omega)), show 8 * (i / 8) + i % 8 = i by omega]
    · rw [bit_ge (by simp only [pks, List.length_map, List.length_range]; omega), bo_ge (by omega)]

/-- what the document's Pack has made when the places from k on are in -/
def PackI (l : List Bool) (k : Nat) (bs : List Nat) : Prop := bs.length = (l.length + 7) / 8 ∧ ∀ b, b < (l.length + 7) / 8 → by_ bs b = pk l b / 2 ^ (k - 8 * b)
theorem PackI.start (l : List Bool) : PackI l l.length (List.replicate ((l.length + 7) / 8) 0) := by
  refine ⟨by simp, fun b hb => ?_⟩
  rw [by_zeros]
  symm
  apply Nat.div_eq_of_lt
  apply Nat.lt_pow_two_of_testBit
  intro t ht
  by_cases h8 : t < 8
  · rw [testBit_pk h8, bo_ge (by omega)]
  · exact Nat.testBit_lt_two_pow (Nat.lt_of_lt_of_le (pk_lt l b) (by rw [show (256 : Nat) = 2 ^ 8 from rfl]; exact Nat.pow_le_pow_right (by omega) (by omega)))
theorem PackI.step {l : List Bool} {k : Nat} {bs : List Nat} (h : PackI l (k + 1) bs) (hk : k < l.length) :
    PackI l k (bs.set (k / 8) ((2 * by_ bs (k / 8) + if bo l k then 1 else 0))) ∧ 2 * by_ bs (k / 8) + (if bo l k then 1 else 0) < 256 := by
  have hb : k / 8 < (l.length + 7) / 8 := by omega
  have hkl : k / 8 < bs.length := by rw [h.1]; exact hb
  have e0 := h.2 (k / 8) hb
  have hv : 2 * by_ bs (k / 8) + (if bo l k then 1 else 0) = pk l (k / 8) / 2 ^ (k - 8 * (k / 8)) := by
    rw [e0, show k + 1 - 8 * (k / 8) = k - 8 * (k / 8) + 1 by omega, Nat.pow_succ, ← Nat.div_div_eq_div_mul]
    have e1 := testBit_pk (l := l) (b := k / 8) (t := k - 8 * (k / 8)) (by omega)
    rw [show 8 * (k / 8) + (k - 8 * (k / 8)) = k by omega, Nat.testBit_eq_decide_div_mod_eq] at e1
    generalize pk l (k / 8) / 2 ^ (k - 8 * (k / 8)) = q at *
    rw [← e1]
    by_cases hq : q % 2 = 1
    · simp [hq]; omega
    · simp [hq]; omega
  refine ⟨⟨by rw [List.length_set, h.1], fun b hb' => ?_⟩, by rw [hv]; exact Nat.lt_of_le_of_lt (Nat.div_le_self _ _) (pk_lt l _)⟩
  rw [by_set hkl]
  by_cases e : b = k / 8
  · rw [if_pos e, e]; exact hv
  · rw [if_neg e, h.2 b hb']
    rcases Nat.lt_or_ge (k / 8) b with h1 | h1
    · rw [show k + 1 - 8 * b = 0 by omega, show k - 8 * b = 0 by omega]
    · have z : ∀ s, 8 ≤ s → pk l b / 2 ^ s = 0 := fun s hs => Nat.div_eq_of_lt (Nat.lt_of_lt_of_le (pk_lt l b) (by rw [show (256 : Nat) = 2 ^ 8 from rfl]; exact Nat.pow_le_pow_right (by omega) hs))
      rw [z _ (by omega), z _ (by omega)]
theorem PackI.done {l : List Bool} {bs : List Nat} (h : PackI l 0 bs) : bs = pks l := by
  apply List.ext_getElem (by rw [h.1]; simp [pks])
  intro b h1 h2
  have hb : b < (l.length + 7) / 8 := by rw [← h.1]; exact h1
  rw [← by_lt h1, ← by_lt h2, h.2 b hb, by_pks hb]; simp

/-- what Pack has made when the first k are in -/
def PkI (l : List Bool) (k : Nat) (bs : List Nat) : Prop := bs.length = (l.length + 7) / 8 ∧ Byt bs ∧ ∀ i, bit bs i = (decide (i < k) && bo l i)
theorem PkI.start (l : List Bool) : PkI l 0 (List.replicate ((l.length + 7) / 8) 0) := ⟨by simp, byt_zeros _, fun i => by rw [bit_zeros]; simp⟩
theorem PkI.off {l : List Bool} {k : Nat} {bs : List Nat} (h : PkI l k bs) (hb : bo l k = false) : PkI l (k + 1) bs := by
  refine ⟨h.1, h.2.1, fun i => ?_⟩
  rw [h.2.2 i]
  by_cases e : i = k
  · subst e; rw [hb]; simp
  · rw [show decide (i < k + 1) = decide (i < k) by by_cases h' : i < k <;> simp [h'] <;> omega]
theorem PkI.on {l : List Bool} {k : Nat} {bs : List Nat} (h : PkI l k bs) (hb : bo l k = true) (hk : k < l.length) : PkI l (k + 1) (bs.set (k / 8) (by_ bs (k / 8) ||| 2 ^ (k % 8))) := by
  have hkl : k / 8 < bs.length := by rw [h.1]; omega
  refine ⟨by rw [List.length_set, h.1], byt_set h.2.1 (or_lt (h.2.1.by_ _) (two_pow_lt (Nat.mod_lt _ (by omega)))), fun i => ?_⟩
  rw [bit_or hkl, h.2.2 i]
  by_cases e : i = k
  · subst e; rw [hb]; simp
  · rw [decide_eq_false e, Bool.or_false, show decide (i < k + 1) = decide (i < k) by by_cases h' : i < k <;> simp [h'] <;> omega]
theorem PkI.done {l : List Bool} {bs : List Nat} (h : PkI l l.length bs) : bs = pks l := by
  refine Packs.one (l := l) ⟨h.1, h.2.1, fun i => ?_⟩ (packs_pks l)
  rw [h.2.2 i]
  by_cases hi : i < l.length
  · simp [hi]
  · rw [bo_ge (by omega)]; simp

theorem testBit_big {b t : Nat} (hb : b < 256) (ht : 8 ≤ t) : b.testBit t = false :=
  Nat.testBit_lt_two_pow (Nat.lt_of_lt_of_le hb (by rw [show (256 : Nat) = 2 ^ 8 from rfl]; exact Nat.pow_le_pow_right (by omega) ht))
theorem bit_at {bs : List Nat} {k t : Nat} (ht : t < 8) : bit bs (8 * k + t) = (by_ bs k).testBit t := by
  unfold bit
  rw [show (8 * k + t) / 8 = k by omega, show (8 * k + t) % 8 = t by omega]

/-- are bytes a field of n bits? -/
def Right (bs : List Nat) (n : Int) : Prop := 0 ≤ n ∧ n ≤ 256 ∧ bs.length = (n.toNat + 7) / 8 ∧ ∀ i : Nat, n ≤ i → bit bs i = false
theorem Right.top {bs : List Nat} {m : Nat} (hb : Byt bs) (h : Right bs m) (hm : 0 < m % 8) : by_ bs (bs.length - 1) / 2 ^ (m % 8) = 0 := by
  obtain ⟨_, _, hl, hz⟩ := h
  simp only [Int.toNat_natCast] at hl
  apply Nat.div_eq_of_lt
  apply Nat.lt_pow_two_of_testBit
  intro t ht
  by_cases h8 : t < 8
  · rw [← bit_at h8]; exact hz _ (by omega)
  · exact testBit_big (hb.by_ _) (by omega)
theorem Right.back {bs : List Nat} {m : Nat} (h0 : m ≤ 256) (hl : bs.length = (m + 7) / 8) (h : 0 < m % 8 → by_ bs (bs.length - 1) / 2 ^ (m % 8) = 0) : Right bs m := by
  refine ⟨by omega, by omega, by simpa using hl, fun i hi => ?_⟩
  by_cases hb : i / 8 < bs.length
  · have hm : 0 < m % 8 := by omega
    have h1 := h hm
    have e : i / 8 = bs.length - 1 := by omega
    have h2 : by_ bs (bs.length - 1) < 2 ^ (m % 8) := by
      rcases Nat.lt_or_ge (by_ bs (bs.length - 1)) (2 ^ (m % 8)) with h3 | h3
      · exact h3
      · have h4 := Nat.div_pos h3 (Nat.pow_pos (by omega))
        omega
    unfold bit
    rw [e]
    exact Nat.testBit_lt_two_pow (Nat.lt_of_lt_of_le h2 (Nat.pow_le_pow_right (by omega) (by omega)))
  · exact bit_ge (by omega)
end Go.Proofs.Ytblpekeikmblmaa.Bit
