/- Plain arithmetic: whole numbers as their decimal digits, the lowest first. Nothing of the program is in sight. No conditions. -/
namespace Go.Proofs.Ytdjeedmiicagcaa.Dec

/-- the value of the first n digits -/
def val (f : Nat → Nat) : Nat → Nat
  | 0 => 0
  | n + 1 => val f n + f n * 10 ^ n

def dg (ds : List Nat) (i : Nat) : Nat := ds.getD i 0
def dv (ds : List Nat) : Nat := val (dg ds) ds.length
def Dig (ds : List Nat) : Prop := ∀ d ∈ ds, d < 10
def Nrm (ds : List Nat) : Prop := Dig ds ∧ (0 < ds.length → 0 < dg ds (ds.length - 1))

theorem val_congr {f g : Nat → Nat} : ∀ {n : Nat}, (∀ i, i < n → f i = g i) → val f n = val g n
  | 0, _ => rfl
  | n + 1, h => by
    have e := h n (by omega)
    have ih := val_congr (n := n) fun i hi => h i (by omega)
    simp only [val, e, ih]

theorem val_lt {f : Nat → Nat} : ∀ {n : Nat}, (∀ i, i < n → f i < 10) → val f n < 10 ^ n
  | 0, _ => by simp [val]
  | n + 1, h => by
    have ih := val_lt (n := n) fun i hi => h i (by omega)
    have hn := h n (by omega)
    have h1 : f n * 10 ^ n ≤ 9 * 10 ^ n := Nat.mul_le_mul_right _ (by omega)
    have h2 : 10 ^ (n + 1) = 9 * 10 ^ n + 10 ^ n := by rw [Nat.pow_succ]; omega
    simp only [val]
    omega

theorem val_pad {f : Nat → Nat} {n : Nat} (h : ∀ i, n ≤ i → f i = 0) : ∀ {m : Nat}, n ≤ m → val f m = val f n := by
  intro m
  induction m with
  | zero => intro hm; have : n = 0 := by omega
            subst this; rfl
  | succ m ih =>
    intro hm
    by_cases e : n = m + 1
    · rw [e]
    · simp only [val]
      rw [h m (by omega), ih (by omega)]; simp

theorem val_split (f : Nat → Nat) (k : Nat) : ∀ (n : Nat), k ≤ n → ∃ R, val f n = val f k + 10 ^ k * R := by
  intro n
  induction n with
  | zero => intro hk; exact ⟨0, by have : k = 0 := by omega
                                   subst this; simp⟩
  | succ n ih =>
    intro hk
    by_cases e : k = n + 1
    · exact ⟨0, by rw [e]; simp⟩
    · obtain ⟨R, hR⟩ := ih (by omega)
      have hp : 10 ^ n = 10 ^ k * 10 ^ (n - k) := by rw [← Nat.pow_add]; congr 1; omega
      refine ⟨R + f n * 10 ^ (n - k), ?_⟩
      have e1 : f n * 10 ^ n = 10 ^ k * (f n * 10 ^ (n - k)) := by rw [hp]; exact Nat.mul_left_comm _ _ _
      simp only [val]
      rw [hR, e1, Nat.mul_add]; omega

theorem dg_of_ge {ds : List Nat} {i : Nat} (h : ds.length ≤ i) : dg ds i = 0 := by
  unfold dg; rw [List.getD_eq_getElem?_getD, List.getElem?_eq_none h]; rfl
theorem dg_of_lt {ds : List Nat} {i : Nat} (h : i < ds.length) : dg ds i = ds[i] := by
  unfold dg; rw [List.getD_eq_getElem?_getD, List.getElem?_eq_getElem h]; rfl
theorem Dig.dg {ds : List Nat} (h : Dig ds) (i : Nat) : dg ds i < 10 := by
  by_cases hi : i < ds.length
  · rw [dg_of_lt hi]; exact h _ (List.getElem_mem _)
  · rw [dg_of_ge (by omega)]; omega
theorem dv_val {ds : List Nat} {m : Nat} (h : ds.length ≤ m) : val (dg ds) m = dv ds := val_pad (fun _ hi => dg_of_ge hi) h
theorem dv_lt {ds : List Nat} (h : Dig ds) : dv ds < 10 ^ ds.length := val_lt fun i _ => h.dg i

theorem dg_append {ds es : List Nat} {i : Nat} (h : i < ds.length) : dg (ds ++ es) i = dg ds i := by
  unfold dg; simp only [List.getD_eq_getElem?_getD]; rw [List.getElem?_append_left h]
theorem dg_snoc (ds : List Nat) (d : Nat) : dg (ds ++ [d]) ds.length = d := by
  unfold dg; simp [List.getD_eq_getElem?_getD]
theorem dv_snoc (ds : List Nat) (d : Nat) : dv (ds ++ [d]) = dv ds + d * 10 ^ ds.length := by
  unfold dv
  rw [show (ds ++ [d]).length = ds.length + 1 by simp]
  simp only [val]
  rw [dg_snoc, val_congr fun i hi => dg_append hi]
theorem dig_snoc {ds : List Nat} {d : Nat} (h : Dig ds) (hd : d < 10) : Dig (ds ++ [d]) := by
  intro x hx
  rcases List.mem_append.1 hx with hx | hx
  · exact h x hx
  · simp at hx; omega
theorem dig_nil : Dig [] := fun _ h => by simp at h
theorem nrm_nil : Nrm [] := ⟨dig_nil, fun h => by simp at h⟩
theorem nrm_snoc {ds : List Nat} {d : Nat} (h : Dig ds) (hd : d < 10) (h0 : 0 < d) : Nrm (ds ++ [d]) :=
  ⟨dig_snoc h hd, fun _ => by rw [show (ds ++ [d]).length - 1 = ds.length by simp, dg_snoc]; exact h0⟩

theorem dig_take {ds : List Nat} (h : Dig ds) (n : Nat) : Dig (ds.take n) := fun d hd => h d (List.mem_of_mem_take hd)
theorem dg_take {ds : List Nat} {n i : Nat} (h : i < n) : dg (ds.take n) i = dg ds i := by
  unfold dg; simp only [List.getD_eq_getElem?_getD]; rw [List.getElem?_take_of_lt h]

/-- noughts at the upper end count for nothing -/
theorem dv_take {ds : List Nat} {n : Nat} (hn : n ≤ ds.length) (h : ∀ i, n ≤ i → i < ds.length → dg ds i = 0) : dv (ds.take n) = dv ds := by
  have hl : (ds.take n).length = n := by simp; omega
  have h' : ∀ i, n ≤ i → dg ds i = 0 := fun i hi => by
    by_cases hi' : i < ds.length
    · exact h i hi hi'
    · exact dg_of_ge (by omega)
  unfold dv
  rw [val_pad h' hn, hl]
  exact val_congr fun i hi => dg_take hi
theorem nrm_take {ds : List Nat} {n : Nat} (hd : Dig ds) (hn : n ≤ ds.length) (h : 0 < n → 0 < dg ds (n - 1)) : Nrm (ds.take n) := by
  have hl : (ds.take n).length = n := by simp; omega
  refine ⟨dig_take hd n, fun h0 => ?_⟩
  rw [hl] at h0 ⊢
  rw [dg_take (by omega)]
  exact h h0

/-- a number below 10^k has at most k digits -/
theorem Nrm.len {ds : List Nat} (h : Nrm ds) {k : Nat} (hk : dv ds < 10 ^ k) : ds.length ≤ k := by
  rcases Nat.lt_or_ge k ds.length with hlt | hge
  · exfalso
    have h0 := h.2 (by omega)
    obtain ⟨n, hn⟩ : ∃ n, ds.length = n + 1 := ⟨ds.length - 1, by omega⟩
    rw [hn] at h0
    have hv : dv ds = val (dg ds) n + dg ds n * 10 ^ n := by unfold dv; rw [hn]; rfl
    have h1 : 1 * 10 ^ n ≤ dg ds n * 10 ^ n := Nat.mul_le_mul_right _ h0
    have h2 : 10 ^ k ≤ 10 ^ n := Nat.pow_le_pow_right (by omega) (by omega)
    omega
  · exact hge

theorem val_cmp {f g : Nat → Nat} (hf : ∀ i, f i < 10) {i : Nat} : ∀ {n : Nat}, i < n → (∀ j, i < j → j < n → f j = g j) → f i < g i → val f n < val g n := by
  intro n
  induction n with
  | zero => intro h; omega
  | succ n ih =>
    intro hi he hlt
    by_cases e : i = n
    · subst e
      have h1 : val f i < 10 ^ i := val_lt fun j _ => hf j
      have h2 : (f i + 1) * 10 ^ i ≤ g i * 10 ^ i := Nat.mul_le_mul_right _ hlt
      rw [Nat.add_mul] at h2
      simp only [val]
      omega
    · have h1 := ih (by omega) (fun j h1 h2 => he j h1 (by omega)) hlt
      have h2 := he n (by omega) (by omega)
      simp only [val, h2]
      omega

/-- one digit more from the top -/
theorem val_horner {f : Nat → Nat} (hf : ∀ i, f i < 10) {n i : Nat} (hi : i < n) : val f n / 10 ^ i = 10 * (val f n / 10 ^ (i + 1)) + f i := by
  obtain ⟨R, hR⟩ := val_split f (i + 1) n hi
  have h1 : val f i < 10 ^ i := val_lt fun j _ => hf j
  have h2 : val f (i + 1) < 10 ^ (i + 1) := val_lt fun j _ => hf j
  have hp : 0 < 10 ^ i := Nat.pow_pos (by omega)
  have e1 : val f n / 10 ^ (i + 1) = R := by
    rw [hR, Nat.add_mul_div_left _ _ (Nat.pow_pos (by omega)), Nat.div_eq_of_lt h2]; omega
  have e2 : val f n = val f i + 10 ^ i * (f i + 10 * R) := by
    rw [hR, Nat.pow_succ]; simp only [val]; rw [Nat.mul_add, Nat.mul_comm (f i), Nat.mul_assoc]; omega
  rw [e1, e2, Nat.add_mul_div_left _ _ hp, Nat.div_eq_of_lt h1]; omega

/-! the round of a sum: M is as long as the longer number -/
def AddI (ds es : List Nat) (M : Nat) (out : List Nat) (carry i : Nat) : Prop :=
  Dig out ∧ out.length = i ∧ carry ≤ 1 ∧ dv out + carry * 10 ^ i = val (dg ds) i + val (dg es) i ∧ (i ≤ M ∨ i = M + 1 ∧ carry = 0)
theorem AddI.start (ds es : List Nat) (M : Nat) : AddI ds es M [] 0 0 := ⟨dig_nil, rfl, by omega, by simp [dv, val], .inl (by omega)⟩
theorem AddI.step {ds es out : List Nat} {M carry i : Nat} (hd : Dig ds) (he : Dig es) (hM : ds.length ≤ M) (hM' : es.length ≤ M) (h : AddI ds es M out carry i) (hgo : i < M ∨ 0 < carry) :
    AddI ds es M (out ++ [(dg ds i + dg es i + carry) % 10]) ((dg ds i + dg es i + carry) / 10) (i + 1) := by
  obtain ⟨h1, h2, h3, h4, h5⟩ := h
  have a := hd.dg i
  have b := he.dg i
  refine ⟨dig_snoc h1 (by omega), by simp [h2], by omega, ?_, ?_⟩
  · rw [dv_snoc, h2]
    simp only [val]
    rw [Nat.pow_succ]
    generalize 10 ^ i = p at *
    have e : dg ds i + dg es i + carry = (dg ds i + dg es i + carry) % 10 + 10 * ((dg ds i + dg es i + carry) / 10) := by omega
    have e2 : (dg ds i + dg es i + carry) * p = (dg ds i + dg es i + carry) % 10 * p + (dg ds i + dg es i + carry) / 10 * (p * 10) := by
      rw [Nat.mul_comm p 10, ← Nat.mul_assoc, ← Nat.add_mul]; congr 1; omega
    rw [Nat.add_mul, Nat.add_mul] at e2
    omega
  · rcases Nat.lt_or_ge i M with hi | hi
    · exact .inl (by omega)
    · rw [dg_of_ge (by omega), dg_of_ge (by omega)]
      exact .inr (by omega)
theorem AddI.done {ds es out : List Nat} {M i : Nat} (hM : ds.length ≤ M) (hM' : es.length ≤ M) (h : AddI ds es M out 0 i) (hi : M ≤ i) : Dig out ∧ dv out = dv ds + dv es := by
  obtain ⟨h1, _, _, h4, _⟩ := h
  refine ⟨h1, ?_⟩
  rw [dv_val (by omega), dv_val (by omega)] at h4
  omega

/-! the round of a difference -/
def SubI (ds es : List Nat) (out : List Nat) (borrow i : Nat) : Prop :=
  Dig out ∧ out.length = i ∧ borrow ≤ 1 ∧ dv out + val (dg es) i = val (dg ds) i + borrow * 10 ^ i
theorem SubI.start (ds es : List Nat) : SubI ds es [] 0 0 := ⟨dig_nil, rfl, by omega, by simp [dv, val]⟩
theorem SubI.stay {ds es out : List Nat} {borrow i s : Nat} (hd : Dig ds) (h : SubI ds es out borrow i) (hs : s + dg es i + borrow = dg ds i) : SubI ds es (out ++ [s]) 0 (i + 1) := by
  obtain ⟨h1, h2, h3, h4⟩ := h
  have a := hd.dg i
  refine ⟨dig_snoc h1 (by omega), by simp [h2], by omega, ?_⟩
  rw [dv_snoc, h2]
  simp only [val]
  have e : (s + dg es i + borrow) * 10 ^ i = dg ds i * 10 ^ i := by rw [hs]
  rw [Nat.add_mul, Nat.add_mul] at e
  omega
theorem SubI.lend {ds es out : List Nat} {borrow i s : Nat} (hs' : s < 10) (h : SubI ds es out borrow i) (hs : s + dg es i + borrow = dg ds i + 10) : SubI ds es (out ++ [s]) 1 (i + 1) := by
  obtain ⟨h1, h2, h3, h4⟩ := h
  refine ⟨dig_snoc h1 (by omega), by simp [h2], by omega, ?_⟩
  rw [dv_snoc, h2]
  simp only [val]
  have e : (s + dg es i + borrow) * 10 ^ i = (dg ds i + 10) * 10 ^ i := by rw [hs]
  rw [Nat.add_mul, Nat.add_mul, Nat.add_mul] at e
  rw [Nat.pow_succ]
  omega
theorem SubI.done {ds es out : List Nat} {borrow : Nat} (he : Nrm es) (h : SubI ds es out borrow ds.length) (hle : dv es ≤ dv ds) (hd : Dig ds) : Dig out ∧ dv out = dv ds - dv es := by
  obtain ⟨h1, h2, h3, h4⟩ := h
  have hl : es.length ≤ ds.length := he.len (by have := dv_lt hd; omega)
  rw [dv_val (Nat.le_refl _), dv_val hl] at h4
  have h5 := dv_lt h1
  rw [h2] at h5
  have : borrow = 0 := by
    rcases Nat.eq_zero_or_pos borrow with h | h
    · exact h
    · obtain rfl : borrow = 1 := by omega
      omega
  subst this
  exact ⟨h1, by omega⟩

/-! the rounds of a product -/
theorem val_upd {f g : Nat → Nat} {j : Nat} (he : ∀ i, i ≠ j → f i = g i) : ∀ {n : Nat}, j < n → val f n + g j * 10 ^ j = val g n + f j * 10 ^ j := by
  intro n
  induction n with
  | zero => intro h; omega
  | succ n ih =>
    intro hj
    simp only [val]
    by_cases e : j = n
    · subst e
      rw [val_congr fun i hi => he i (by omega)]
      omega
    · have h1 := ih (by omega)
      rw [he n (by omega)]
      omega
theorem dg_set {ds : List Nat} {j x : Nat} (hj : j < ds.length) (i : Nat) : dg (ds.set j x) i = if i = j then x else dg ds i := by
  unfold dg
  simp only [List.getD_eq_getElem?_getD, List.getElem?_set]
  by_cases e : j = i
  · subst e; simp [hj]
  · rw [if_neg e, if_neg (by omega)]
theorem dv_set {ds : List Nat} {j x : Nat} (hj : j < ds.length) : dv (ds.set j x) + dg ds j * 10 ^ j = dv ds + x * 10 ^ j := by
  unfold dv
  rw [List.length_set]
  have h := val_upd (f := dg (ds.set j x)) (g := dg ds) (j := j) (fun i hi => by rw [dg_set hj, if_neg hi]) hj
  rw [dg_set hj, if_pos rfl] at h
  exact h
theorem dig_set {ds : List Nat} {j x : Nat} (h : Dig ds) (hx : x < 10) : Dig (ds.set j x) := fun d hd => by
  rcases List.mem_or_eq_of_mem_set hd with hd | hd
  · exact h d hd
  · omega
theorem dv_zeros (n : Nat) : dv (List.replicate n 0) = 0 := by
  unfold dv
  have h : ∀ m, val (dg (List.replicate n 0)) m = 0 := by
    intro m
    induction m with
    | zero => rfl
    | succ m ih =>
      simp only [val, ih]
      have : dg (List.replicate n 0) m = 0 := by
        unfold dg
        rw [List.getD_eq_getElem?_getD, List.getElem?_replicate]
        split <;> rfl
      rw [this]; simp
  exact h _
theorem dig_zeros (n : Nat) : Dig (List.replicate n 0) := fun d hd => by
  have := List.eq_of_mem_replicate hd
  omega

/-- 'as' times 'bs': rows below i are in, of row i the places below k -/
def MulI (as bs d : List Nat) (carry i k : Nat) : Prop :=
  Dig d ∧ d.length = as.length + bs.length + 1 ∧ carry ≤ 9 ∧ dv d + carry * 10 ^ (i + k) = val (dg as) i * dv bs + dg as i * val (dg bs) k * 10 ^ i ∧ (k ≤ bs.length ∨ k = bs.length + 1 ∧ carry = 0)
def MulO (as bs d : List Nat) (i : Nat) : Prop := Dig d ∧ d.length = as.length + bs.length + 1 ∧ dv d = val (dg as) i * dv bs
theorem MulO.start (as bs : List Nat) : MulO as bs (List.replicate (as.length + bs.length + 1) 0) 0 :=
  ⟨dig_zeros _, by simp, by rw [dv_zeros]; simp [val]⟩
theorem MulO.row {as bs d : List Nat} {i : Nat} (h : MulO as bs d i) : MulI as bs d 0 i 0 :=
  ⟨h.1, h.2.1, by omega, by rw [h.2.2]; simp [val], .inl (by omega)⟩
theorem MulI.place {as bs d : List Nat} {carry i k : Nat} (h : MulI as bs d carry i k) (hi : i < as.length) : i + k < d.length := by
  obtain ⟨_, h2, _, _, h5⟩ := h
  omega
theorem mul_bd {a b : Nat} (ha : a ≤ 9) (hb : b ≤ 9) : a * b ≤ 81 := Nat.le_trans (Nat.mul_le_mul ha hb) (by omega)
theorem MulI.step {as bs d : List Nat} {carry i k : Nat} (ha : Dig as) (hb : Dig bs) (h : MulI as bs d carry i k) (hi : i < as.length) (hgo : k < bs.length ∨ 0 < carry) :
    MulI as bs (d.set (i + k) ((dg d (i + k) + dg as i * dg bs k + carry) % 10)) ((dg d (i + k) + dg as i * dg bs k + carry) / 10) i (k + 1) := by
  have hp := h.place hi
  obtain ⟨h1, h2, h3, h4, h5⟩ := h
  have a1 := ha.dg i
  have a2 := hb.dg k
  have a3 := h1.dg (i + k)
  have a4 := mul_bd (a := dg as i) (b := dg bs k) (by omega) (by omega)
  have hset := dv_set (ds := d) (x := (dg d (i + k) + dg as i * dg bs k + carry) % 10) hp
  have hmain : dv (d.set (i + k) ((dg d (i + k) + dg as i * dg bs k + carry) % 10)) + (dg d (i + k) + dg as i * dg bs k + carry) / 10 * 10 ^ (i + (k + 1)) = val (dg as) i * dv bs + dg as i * val (dg bs) (k + 1) * 10 ^ i := by
    have e1 : dg as i * val (dg bs) (k + 1) * 10 ^ i = dg as i * val (dg bs) k * 10 ^ i + dg as i * dg bs k * 10 ^ (i + k) := by
      simp only [val]
      rw [Nat.mul_add, Nat.add_mul]
      congr 1
      rw [Nat.pow_add, ← Nat.mul_assoc, Nat.mul_assoc (dg as i * dg bs k), Nat.mul_comm (10 ^ k), ← Nat.mul_assoc]
    rw [e1, show i + (k + 1) = i + k + 1 by omega, Nat.pow_succ]
    generalize dg as i * dg bs k = ab at *
    generalize dg d (i + k) = x at *
    generalize 10 ^ (i + k) = p at *
    have e2 : (x + ab + carry) * p = (x + ab + carry) % 10 * p + (x + ab + carry) / 10 * (p * 10) := by
      rw [Nat.mul_comm p 10, ← Nat.mul_assoc, ← Nat.add_mul]; congr 1; omega
    rw [Nat.add_mul, Nat.add_mul] at e2
    omega
  refine ⟨dig_set h1 (by omega), by rw [List.length_set, h2], by omega, hmain, ?_⟩
  rcases Nat.lt_or_ge k bs.length with hk | hk
  · exact .inl (by omega)
  · obtain rfl : k = bs.length := by omega
    refine .inr ⟨rfl, ?_⟩
    rw [dv_val (Nat.le_succ _)] at hmain
    have b1 : val (dg as) i * dv bs + dg as i * dv bs * 10 ^ i = val (dg as) (i + 1) * dv bs := by
      simp only [val]; rw [Nat.add_mul, Nat.mul_assoc (dg as i), Nat.mul_comm (dv bs) (10 ^ i), ← Nat.mul_assoc]
    have b2 : val (dg as) (i + 1) < 10 ^ (i + 1) := val_lt fun j _ => ha.dg j
    have b3 := dv_lt hb
    have b4 : val (dg as) (i + 1) * dv bs < 10 ^ (i + (bs.length + 1)) := by
      rw [show i + (bs.length + 1) = i + 1 + bs.length by omega, Nat.pow_add]
      exact Nat.mul_lt_mul_of_lt_of_le b2 (Nat.le_of_lt b3) (Nat.pow_pos (by omega))
    rw [b1] at hmain
    rcases Nat.eq_zero_or_pos ((dg d (i + bs.length) + dg as i * dg bs bs.length + carry) / 10) with h0 | h0
    · exact h0
    · have := Nat.mul_le_mul_right (10 ^ (i + (bs.length + 1))) h0
      omega
theorem MulI.done {as bs d : List Nat} {i k : Nat} (h : MulI as bs d 0 i k) (hk : bs.length ≤ k) : MulO as bs d (i + 1) := by
  obtain ⟨h1, h2, _, h4, _⟩ := h
  refine ⟨h1, h2, ?_⟩
  rw [dv_val hk] at h4
  simp only [val]
  rw [Nat.add_mul, Nat.mul_assoc (dg as i), Nat.mul_comm (10 ^ i), ← Nat.mul_assoc]
  omega
theorem MulO.done {as bs d : List Nat} (h : MulO as bs d as.length) : dv d = dv as * dv bs := by rw [h.2.2, dv_val (Nat.le_refl _)]

/-! from the top: what has been read off a number -/
theorem horner {ds : List Nat} (h : Dig ds) {m : Nat} (hm : m < ds.length) : dv ds / 10 ^ m = 10 * (dv ds / 10 ^ (m + 1)) + dg ds m := by
  rw [← dv_val (Nat.le_refl _)]; exact val_horner (fun i => h.dg i) hm
theorem horner_top {ds : List Nat} (h : Dig ds) : dv ds / 10 ^ ds.length = 0 := Nat.div_eq_of_lt (dv_lt h)
end Go.Proofs.Ytdjeedmiicagcaa.Dec
