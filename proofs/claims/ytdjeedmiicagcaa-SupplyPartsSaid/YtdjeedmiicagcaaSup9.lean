/- How an argument that is a state reads: lemmas for a law's last step. No conditions. -/
import Derived.Test.YtdjeedmiicagcaaSup8
import Derived.Test.YtdjeedmiicagcaaStructs
namespace Go.Proofs.Ytdjeedmiicagcaa.SupplyW
open Go.ChangeShapes Go.WideShapes Go.ChangeAt Go.RowKit Go.Deep
open Go.Proofs.Ytdjeedmiicagcaa.Words Go.Proofs.Ytdjeedmiicagcaa.Agg Go.Proofs.Ytdjeedmiicagcaa.PurseW Go.Proofs.Ytdjeedmiicagcaa.PoolW

section
variable {H : Type} {enc : TypeId × Value → H} {P : Program} {w : World} {base : Nat} {spare : Nat → Bool} {held : Bool}
theorem one_of_okWide {r : Reach} {b : Nat} {t : TypeId} {v : Value} (h : Cell.okWide P w r b t v) : v.oneCell' = true := by
  cases v <;> first | rfl | (unfold Cell.okWide at h; split at h <;> first | contradiction | (unfold Cell.ok at h; split at h <;> first | contradiction | simp_all))
theorem one_of_struct {r : Reach} {b : Nat} {t : TypeId} {fs : Array Field} {cs : Array Value} (hs : P.underlying t = some (.struct fs)) (h : Value.okWide P w r b t (.agg cs)) : cs.all (·.oneCell') = true := by
  simp only [Value.okWide, hs] at h
  obtain ⟨cs', h1, _, ts, _, _, h4⟩ := h
  injection h1 with h1
  subst h1
  rw [Array.all_eq_true_iff_forall_mem]
  intro v hv
  obtain ⟨i, hi⟩ := Array.mem_iff_getElem?.1 hv
  obtain ⟨u, _, hu⟩ := h4 i v hi
  exact one_of_okWide hu
/-- a field of a struct that is read -/
theorem field_at {t : TypeId} {fs : Array Field} {cs : Array Value} {d : DataW H} {p : List MemPlace} (hs : P.underlying t = some (.struct fs)) (h : DataW.Trod enc P w base spare held t (.agg cs) d p) (i : Nat) (f : Field) (hf : fs[i]? = some f) (hC : P.cellsOf f.type = 1) (hlt : f.offset < cs.size) :
    ∃ v y n, cs[f.offset]? = some v ∧ DataW.trod enc P w base spare held n f.type [v] = some y := by
  obtain ⟨fuel, hx⟩ := h
  obtain ⟨xs, n, _, _, _, hl, hg⟩ := DataW.trod_struct hs hx
  have h1 := hg i f hf
  have hi : i < xs.length := by rw [hl]; exact (Array.getElem?_eq_some_iff.1 hf).1
  rw [hC, List.getElem?_eq_getElem hi] at h1
  have e : ((Value.agg cs).cells.toList.drop f.offset).take 1 = [cs[f.offset]] := by
    show (cs.toList.drop f.offset).take 1 = _
    rw [List.drop_eq_getElem_cons (by simpa using hlt)]
    simp
  have h2 : DataW.trod enc P w base spare held n f.type [cs[f.offset]] = some xs[i] := by
    rw [← e]; exact h1
  exact ⟨_, _, n, Array.getElem?_eq_getElem hlt, h2⟩
theorem u64_at {t : TypeId} {fs : Array Field} {cs : Array Value} {d : DataW H} {p : List MemPlace} (hs : P.underlying t = some (.struct fs)) (h : DataW.Trod enc P w base spare held t (.agg cs) d p) (i : Nat) (f : Field) (hf : fs[i]? = some f) (hC : P.cellsOf f.type = 1) (hlt : f.offset < cs.size)
    (hk : P.underlying f.type = some (.int .u64)) : ∃ x : Nat, cs[f.offset]? = some (.int .u64 x) ∧ x < 18446744073709551616 := by
  obtain ⟨v, y, n, hv, ht⟩ := field_at hs h i f hf hC hlt
  obtain ⟨h1, h2⟩ := Opens.cell_int hk ht
  obtain ⟨h3, h4⟩ := u64_back h1 h2
  exact ⟨_, by rw [hv, h3]; rfl, h4⟩
theorem slice_at {t e : TypeId} {fs : Array Field} {cs : Array Value} {d : DataW H} {p : List MemPlace} (hs : P.underlying t = some (.struct fs)) (h : DataW.Trod enc P w base spare held t (.agg cs) d p) (i : Nat) (f : Field) (hf : fs[i]? = some f) (hC : P.cellsOf f.type = 1) (hlt : f.offset < cs.size)
    (hk : P.underlying f.type = some (.slice e)) : ∃ A n c d' p', cs[f.offset]? = some (.slice A n c) ∧ DataW.Trod enc P w base spare held f.type (.slice A n c) d' p' := by
  obtain ⟨v, y, n, hv, ht⟩ := field_at hs h i f hf hC hlt
  rcases open_slice hk ht with ⟨h1, _⟩ | ⟨a, len, cap, _, _, _, _, h1, _⟩
  · injection h1 with h1
    subst h1
    exact ⟨none, 0, 0, y.1, y.2, hv, n, ht⟩
  · injection h1 with h1
    subst h1
    exact ⟨some a, len, cap, y.1, y.2, hv, n, ht⟩
def memOf (w : World) (A : Option Addr) (i : Nat) : Mem := ⟨(Opens.toInt (Opens.cellOf w A (i * 6))).toNat, (Opens.toInt (Opens.cellOf w A (i * 6 + 1))).toNat, (Opens.toInt (Opens.cellOf w A (i * 6 + 2))).toNat, Opens.toInt (Opens.cellOf w A (i * 6 + 3)), Opens.toInt (Opens.cellOf w A (i * 6 + 4)), Opens.toInt (Opens.cellOf w A (i * 6 + 5))⟩
theorem cellOf_is {w : World} {a : Addr} {k : Nat} {v : Value} (h : w.cell? (a.add k) = some v) : Opens.cellOf w (some a) k = v := by simp only [Opens.cellOf, h]
theorem open_mems {t e : TypeId} {g0 g1 g2 s0 s1 s2 s3 : Field} {A : Option Addr} {n c : Nat} {d : DataW H} {p : List MemPlace} (ht : P.underlying t = some (.slice e)) (he : P.underlying e = some (.struct #[g0, g1, g2]))
    (hC : P.cellsOf e = 6) (o0 : g0.offset = 0) (o1 : g1.offset = 4) (o2 : g2.offset = 5) (k0 : P.cellsOf g0.type = 4) (k1 : P.cellsOf g1.type = 1) (k2 : P.cellsOf g2.type = 1)
    (hs : P.underlying g0.type = some (.struct #[s0, s1, s2, s3])) (hone : oneCellFields P #[s0, s1, s2, s3] = true)
    (u0 : P.underlying s0.type = some (.int .u64)) (u1 : P.underlying s1.type = some (.int .u64)) (u2 : P.underlying s2.type = some (.int .u64)) (u3 : P.underlying s3.type = some (.int .i64))
    (v1 : P.underlying g1.type = some (.int .i64)) (v2 : P.underlying g2.type = some (.int .i64))
    (h : DataW.Trod enc P w base spare held t (.slice A n c) d p) : ∃ ms : List Mem, SRow w w.heap.size A n 6 (flat Mem.enc ms) ∧ ∀ m ∈ ms, m.bal < 18446744073709551616 := by
  obtain ⟨fuel, hf⟩ := h
  have key : ∀ i, i < n → ∃ ad, A = some ad ∧ ad.block < w.heap.size ∧ (∀ j, j < 6 → w.cell? (ad.add (i * 6 + j)) = (Mem.enc (memOf w A i))[j]?) ∧ (memOf w A i).bal < 18446744073709551616 := by
    rcases open_slice ht hf with ⟨hcs, _⟩ | ⟨a, len, cap, m, k, D, Pl, hcs, _, hl, hm, hmm, _, hx⟩
    · simp [Value.cells] at hcs
      obtain ⟨rfl, rfl, rfl⟩ := hcs
      exact fun i hi => absurd hi (by omega)
    · simp [Value.cells] at hcs
      obtain ⟨rfl, rfl, rfl⟩ := hcs
      have hle : n ≤ m := by rw [hmm]; split <;> omega
      intro i hi
      obtain ⟨cs', hc, ht'⟩ := hx i (by omega)
      rw [hC] at hc
      obtain ⟨_, hcl, hat⟩ := World.cells?_some hc
      obtain ⟨xs, n', _, _, _, hlen, hg⟩ := DataW.trod_struct he ht'
      match cs', hcl with
      | [c0, c1, c2, c3, c4, c5], _ =>
        match xs, hlen with
        | [y0, y1, y2], _ =>
          have w1 := hg 1 g1 rfl
          have w2 := hg 2 g2 rfl
          have w0 := hg 0 g0 rfl
          rw [o1, k1] at w1
          rw [o2, k2] at w2
          rw [o0, k0] at w0
          obtain ⟨zs, n2, _, _, _, hlen2, hg2⟩ := DataW.trod_struct hs w0
          match zs, hlen2 with
          | [z0, z1, z2, z3], _ =>
            obtain ⟨p0, q0⟩ := hone_of hone 0 s0 rfl
            obtain ⟨p1, q1⟩ := hone_of hone 1 s1 rfl
            obtain ⟨p2, q2⟩ := hone_of hone 2 s2 rfl
            obtain ⟨p3, q3⟩ := hone_of hone 3 s3 rfl
            have x0 := hg2 0 s0 rfl
            have x1 := hg2 1 s1 rfl
            have x2 := hg2 2 s2 rfl
            have x3 := hg2 3 s3 rfl
            rw [p0, q0] at x0
            rw [p1, q1] at x1
            rw [p2, q2] at x2
            rw [p3, q3] at x3
            have b0 := Opens.cell_int u0 x0
            have b1 := Opens.cell_int u1 x1
            have b2 := Opens.cell_int u2 x2
            have b3 := Opens.cell_int u3 x3
            have b4 := Opens.cell_int v1 w1
            have b5 := Opens.cell_int v2 w2
            have a0 : w.cell? (a.add (i * 6)) = some c0 := by have := hat 0 (by omega); rw [Go.Deep.add_add] at this; exact this
            have a1 : w.cell? (a.add (i * 6 + 1)) = some c1 := by have := hat 1 (by omega); rw [Go.Deep.add_add] at this; exact this
            have a2 : w.cell? (a.add (i * 6 + 2)) = some c2 := by have := hat 2 (by omega); rw [Go.Deep.add_add] at this; exact this
            have a3 : w.cell? (a.add (i * 6 + 3)) = some c3 := by have := hat 3 (by omega); rw [Go.Deep.add_add] at this; exact this
            have a4 : w.cell? (a.add (i * 6 + 4)) = some c4 := by have := hat 4 (by omega); rw [Go.Deep.add_add] at this; exact this
            have a5 : w.cell? (a.add (i * 6 + 5)) = some c5 := by have := hat 5 (by omega); rw [Go.Deep.add_add] at this; exact this
            have r0 := u64_back b0.1 b0.2
            have r1 := u64_back b1.1 b1.2
            have r2 := u64_back b2.1 b2.2
            refine ⟨a, rfl, by have := block_lt_of_cell a0; rwa [Words.block_add] at this, fun j hj => ?_, by unfold memOf; rw [cellOf_is a0]; exact r0.2⟩
            rcases (show j = 0 ∨ j = 1 ∨ j = 2 ∨ j = 3 ∨ j = 4 ∨ j = 5 by omega) with rfl | rfl | rfl | rfl | rfl | rfl
            · show _ = some (Value.int .u64 ((Opens.toInt (Opens.cellOf w (some a) (i * 6))).toNat : Nat)); rw [Nat.add_zero, cellOf_is a0, a0]; exact congrArg some r0.1
            · show _ = some (Value.int .u64 ((Opens.toInt (Opens.cellOf w (some a) (i * 6 + 1))).toNat : Nat)); rw [cellOf_is a1, a1]; exact congrArg some r1.1
            · show _ = some (Value.int .u64 ((Opens.toInt (Opens.cellOf w (some a) (i * 6 + 2))).toNat : Nat)); rw [cellOf_is a2, a2]; exact congrArg some r2.1
            · show _ = some (Value.int .i64 (Opens.toInt (Opens.cellOf w (some a) (i * 6 + 3)))); rw [cellOf_is a3, a3]; exact congrArg some b3.1
            · show _ = some (Value.int .i64 (Opens.toInt (Opens.cellOf w (some a) (i * 6 + 4)))); rw [cellOf_is a4, a4]; exact congrArg some b4.1
            · show _ = some (Value.int .i64 (Opens.toInt (Opens.cellOf w (some a) (i * 6 + 5)))); rw [cellOf_is a5, a5]; exact congrArg some b5.1
  refine ⟨(List.range n).map (memOf w A), SRow.of_cells Mem.len (by omega) (by simp) fun i d hd => ?_, fun d hd => ?_⟩
  · have hi : i < n := by have := (List.getElem?_eq_some_iff.1 hd).1; simpa using this
    rw [List.getElem?_map, List.getElem?_range hi] at hd
    obtain rfl := Option.some.inj hd
    obtain ⟨ad, hA, hb, hc, _⟩ := key i hi
    exact ⟨ad, hA, hb, hc⟩
  · rw [List.mem_map] at hd
    obtain ⟨i, hi, rfl⟩ := hd
    rw [List.mem_range] at hi
    obtain ⟨_, _, _, _, hb⟩ := key i hi
    exact hb
set_option maxRecDepth 100000 in
theorem open_state {r : Reach} {b : Nat} {v : Value} {d : DataW H} {p : List MemPlace} (hv : Value.okWide Try.prog w r b 63 v) (h : DataW.Trod enc Try.prog w base spare held 63 v d p) :
    ∃ s : St, v = .agg s.cs ∧ s.Ok ∧ s.cs.all (·.oneCell') = true ∧ s.At w w.heap.size := by
  obtain ⟨cs, rfl, hsz⟩ := okWide_struct Try.underlying63 hv
  have hone := one_of_struct Try.underlying63 hv
  replace hsz : cs.size = 41 := hsz.trans (by kernel_rfl)
  obtain ⟨most, cmost, lmost⟩ := u64_at Try.underlying63 h 1 _ rfl (by kernel_rfl) (by rw [hsz]; decide) Try.underlying22
  obtain ⟨gen, cgen, lgen⟩ := u64_at Try.underlying63 h 2 _ rfl (by kernel_rfl) (by rw [hsz]; decide) Try.underlying22
  obtain ⟨mnt, cmnt, lmnt⟩ := u64_at Try.underlying63 h 3 _ rfl (by kernel_rfl) (by rw [hsz]; decide) Try.underlying22
  obtain ⟨brn, cbrn, lbrn⟩ := u64_at Try.underlying63 h 4 _ rfl (by kernel_rfl) (by rw [hsz]; decide) Try.underlying22
  obtain ⟨trs, ctrs, ltrs⟩ := u64_at Try.underlying63 h 5 _ rfl (by kernel_rfl) (by rw [hsz]; decide) Try.underlying22
  obtain ⟨pa, pl, pc, dpa, ppa, cpa, hpa⟩ := slice_at Try.underlying63 h 9 _ rfl (by kernel_rfl) (by rw [hsz]; decide) Try.underlying31
  obtain ⟨ma, ml, mc, dma, pma, cma, hma⟩ := slice_at Try.underlying63 h 10 _ rfl (by kernel_rfl) (by rw [hsz]; decide) Try.underlying56
  obtain ⟨qa, ql, qc, dqa, pqa, cqa, hqa⟩ := slice_at Try.underlying63 h 13 _ rfl (by kernel_rfl) (by rw [hsz]; decide) Try.underlying57
  obtain ⟨da, dl, dc, dda, pda, cda, hda⟩ := slice_at Try.underlying63 h 14 _ rfl (by kernel_rfl) (by rw [hsz]; decide) Try.underlying58
  obtain ⟨_, _, us, hul, huw, hur⟩ := Opens.open_words Try.underlying31 Try.underlying22 (by kernel_rfl) hpa
  obtain ⟨ms, hms, hmb⟩ := open_mems Try.underlying56 Try.underlying115 (by kernel_rfl) rfl rfl rfl (by kernel_rfl) (by kernel_rfl) (by kernel_rfl) Try.underlying113 (by kernel_rfl) Try.underlying22 Try.underlying22 Try.underlying22 Try.underlying3 Try.underlying3 Try.underlying3 hma
  obtain ⟨_, _, _, ds, hds, hdk⟩ := open_deps Try.underlying57 Try.underlying80 (by kernel_rfl) (by kernel_rfl) Try.underlying3 Try.underlying3 Try.underlying22 Try.underlying4 hqa
  obtain ⟨_, _, _, es, hes, hek⟩ := open_dues Try.underlying58 Try.underlying96 (by kernel_rfl) (by kernel_rfl) Try.underlying3 Try.underlying3 Try.underlying22 hda
  have hw := wd_ams hdk hek
  refine ⟨{ cs := cs, most := most, gen := gen, mnt := mnt, brn := brn, trs := trs, pa := pa, pl := pl, pc := pc, us := us, ma := ma, ml := ml, mc := mc, ms := ms, qa := qa, ql := ql, qc := qc, ds := ds, da := da, dl := dl, dc := dc, es := es }, rfl, ⟨hsz, cmost, cgen, cmnt, cbrn, ctrs, cpa, cma, cqa, cda, lmost, lgen, lmnt, lbrn, ltrs, ?_, ?_, ?_⟩, hone, ⟨⟨hul, huw, hur⟩, hms, hds, hes⟩⟩
  · intro x hx
    obtain ⟨m, hm, rfl⟩ := List.mem_map.1 hx
    exact hmb m hm
  · intro x hx
    exact hw x (List.mem_append_left _ hx)
  · intro x hx
    exact hw x (List.mem_append_right _ hx)
end
end Go.Proofs.Ytdjeedmiicagcaa.SupplyW
