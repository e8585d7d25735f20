/- The walks of the pool, ninth part: a deposit more, of both sides; two lists compared. Conditions: rows are read rightly and are not too long. Printed by gen_pool9.py. -/
import Derived.Test.YtdjeedmiicagcaaPool7
import Derived.Deep.RegionWith
import Derived.Deep.RegionLaw
import Derived.Deep.AppendLies
namespace Go.Proofs.Ytdjeedmiicagcaa.PoolW
open Go.RowKit
open Go.Proofs.Ytdjeedmiicagcaa.Words Go.Proofs.Ytdjeedmiicagcaa.NatW Go.Proofs.Ytdjeedmiicagcaa.PurseW

set_option maxRecDepth 100000 in
theorem clone_dep (A : Option Addr) (n c : Nat) (ds : List Dep) (w : World) (h : SRow w w.heap.size A n 4 (flat Dep.enc ds)) (hn : n ≤ 1000) (hA : A = none → n = 0 ∧ c = 0) :
    Calls Try.prog 74 #[.slice A n c] w fun e w' => ∃ v, e = .returned v ∧ w'.ownsRow w.heap.size 80 4 v n (flat Dep.enc ds) ∧ Below w.heap.size w w' := by
  obtain ⟨i0, hi0, hz0, hz1, hz2⟩ := info_parts info_dep
  rcases A with _ | ad
  · obtain ⟨rfl, rfl⟩ := hA rfl
    have hd : ds = [] := List.eq_nil_of_length_eq_zero (h.len Dep.len (by omega))
    subst hd
    have hq := fun w => Lib.run_eql_slice_nil (P := Try.prog) w 57 80 none 0 0 0 0 Try.underlying57
    clear h
    go_enter Try.func74, Try.ntmps74
    go_wp2
    go_ret
    exact ⟨_, rfl, World.ownsRow_nil _ _ _ _, Below.refl _ _⟩
  · have hq := fun w => Lib.run_eql_slice_nil (P := Try.prog) w 57 80 (some ad) n c 0 0 Try.underlying57
    have h2 := h.to (show Below w.heap.size w (w.alloc (.cells #[] 80)) from (Below.refl _ _).alloc (Nat.le_refl _) _)
    clear h
    go_enter Try.func74, Try.ntmps74
    go_wp2_with (at_builtin; refine wpList_append_rows _ rfl _ _ 57 rfl w.heap.size 80 i0 (.agg #[.int .i64 0, .int .i64 0, .int .u64 0, .bool false]) 4 32 Try.underlying57 hi0 hz0 hz1 hz2 rfl (by decide) _ _ _ rfl (own_empty w 80 w.heap.size 4 (Nat.le_refl _)) (some ad) n c _ rfl h2 (Dep.one ds) ?_ ?_ (by simp) ?_)
    · unfold maxLen; omega
    · omega
    intro v w1 hown hg
    have ho : w1.ownsRow w.heap.size 80 4 v n (flat Dep.enc ds) := by simpa using hown
    have hb : Below w.heap.size w w1 := ((Below.refl _ _).alloc (Nat.le_refl _) (.cells #[] 80)).grown hg (by simp) (fun k hk => by cases hk; exact Nat.le_refl _)
    clear hown hg h2 hq
    go_wp2
    go_ret
    exact ⟨_, rfl, ho, hb⟩

/-- a deposit that may be -/
def DepArg (d : Dep) : Prop := 0 ≤ d.ac ∧ d.ac ≤ 63 ∧ 0 ≤ d.me ∧ d.me ≤ 127 ∧ (d.nw = true → d.me = 0)
def DepAm (d : Dep) : Prop := 1 ≤ d.am ∧ d.am ≤ 4611686018427387904
/-- the ways that a deposit is none -/
theorem not_arg {d : Dep} (h : ¬ DepArg d) : (d.ac < 0 ∨ 63 < d.ac) ∨ (0 ≤ d.ac ∧ d.ac ≤ 63 ∧ (d.me < 0 ∨ 127 < d.me)) ∨ (0 ≤ d.ac ∧ d.ac ≤ 63 ∧ 0 ≤ d.me ∧ d.me ≤ 127 ∧ d.nw = true ∧ d.me ≠ 0) := by
  by_cases h1 : 0 ≤ d.ac ∧ d.ac ≤ 63
  · by_cases h2 : 0 ≤ d.me ∧ d.me ≤ 127
    · refine .inr (.inr ⟨h1.1, h1.2, h2.1, h2.2, ?_⟩)
      by_cases h3 : d.nw = true
      · exact ⟨h3, fun h4 => h ⟨h1.1, h1.2, h2.1, h2.2, fun _ => h4⟩⟩
      · exact absurd ⟨h1.1, h1.2, h2.1, h2.2, fun h4 => absurd h4 h3⟩ h
    · exact .inr (.inl ⟨h1.1, h1.2, by omega⟩)
  · exact .inl (by omega)

theorem add_arg (A : Option Addr) (n c : Nat) (d : Dep) (w : World) (h : ¬ DepArg d) :
    Calls Try.prog 47 #[.slice A n c, .agg #[.int .i64 d.ac, .int .i64 d.me, .int .u64 d.am, .bool d.nw]] w (fun e w' => e = .returned (.tuple #[.slice none 0 0, .int .i64 2]) ∧ Below w.heap.size w w') := by
  rcases not_arg h with h1 | ⟨h1, h2, h3⟩ | ⟨h1, h2, h3, h4, h5, h6⟩
  · have HW1 := Lib.hid (within_no d.ac 0 63 h1)
    clear h h1
    go_enter Try.func47, Try.ntmps47
    go_wp2_with fail
    refine (HW1.out _).mono ?_
    rintro e w' ⟨rfl, rfl⟩
    go_wp2
    go_ret2
    exact ⟨rfl, (Below.refl _ _).alloc (Nat.le_refl _) _⟩
  · have HW1 := Lib.hid (within_yes d.ac 0 63 h1 h2)
    have HW2 := Lib.hid (within_no d.me 0 127 h3)
    clear h h1 h2 h3
    go_enter Try.func47, Try.ntmps47
    go_wp2_with fail
    refine (HW1.out _).mono ?_
    rintro e w' ⟨rfl, rfl⟩
    go_wp2_with fail
    refine (HW2.out _).mono ?_
    rintro e w' ⟨rfl, rfl⟩
    go_wp2
    go_ret2
    exact ⟨rfl, (Below.refl _ _).alloc (Nat.le_refl _) _⟩
  · have HW1 := Lib.hid (within_yes d.ac 0 63 h1 h2)
    have HW2 := Lib.hid (within_yes d.me 0 127 h3 h4)
    have d1 : (d.me != 0) = true := by simpa using h6
    rw [h5]
    clear h h1 h2 h3 h4 h5 h6
    go_enter Try.func47, Try.ntmps47
    go_wp2_with fail
    refine (HW1.out _).mono ?_
    rintro e w' ⟨rfl, rfl⟩
    go_wp2_with fail
    refine (HW2.out _).mono ?_
    rintro e w' ⟨rfl, rfl⟩
    go_wp2
    go_ret2
    exact ⟨rfl, (Below.refl _ _).alloc (Nat.le_refl _) _⟩

theorem add_am (A : Option Addr) (n c : Nat) (d : Dep) (w : World) (h : DepArg d) (ha : ¬ DepAm d) :
    Calls Try.prog 47 #[.slice A n c, .agg #[.int .i64 d.ac, .int .i64 d.me, .int .u64 d.am, .bool d.nw]] w (fun e w' => e = .returned (.tuple #[.slice none 0 0, .int .i64 2]) ∧ Below w.heap.size w w') := by
  have ham : decide ((d.am : Int) < 1) = true ∨ decide ((d.am : Int) < 1) = false ∧ decide ((4611686018427387904 : Int) < d.am) = true := by
    by_cases h1 : 1 ≤ d.am
    · refine .inr ⟨by rw [decide_eq_false_iff_not]; omega, ?_⟩
      rw [decide_eq_true_iff]
      have h2 : ¬ d.am ≤ 4611686018427387904 := fun h2 => ha ⟨h1, h2⟩
      omega
    · exact .inl (by rw [decide_eq_true_iff]; omega)
  clear ha
  obtain ⟨h1, h2, h3, h4, h5⟩ := h
  have HW1 := Lib.hid (within_yes d.ac 0 63 h1 h2)
  have HW2 := Lib.hid (within_yes d.me 0 127 h3 h4)
  have key : (d.nw = true ∧ (d.me != 0) = false) ∨ d.nw = false := by
    by_cases h6 : d.nw = true
    · exact .inl ⟨h6, by rw [h5 h6]; rfl⟩
    · exact .inr (by simpa using h6)
  rcases key with ⟨hnw, d1⟩ | hnw
  all_goals
    have HNW := Lib.hid hnw
    rw [hnw]
    clear h1 h2 h3 h4 h5 hnw
    rcases ham with e1 | ⟨e1, e2⟩
    · go_enter Try.func47, Try.ntmps47
      go_wp2_with fail
      refine (HW1.out _).mono ?_
      rintro e w' ⟨rfl, rfl⟩
      go_wp2_with fail
      refine (HW2.out _).mono ?_
      rintro e w' ⟨rfl, rfl⟩
      go_wp2
      go_ret2
      exact ⟨rfl, (Below.refl _ _).alloc (Nat.le_refl _) _⟩
    · go_enter Try.func47, Try.ntmps47
      go_wp2_with fail
      refine (HW1.out _).mono ?_
      rintro e w' ⟨rfl, rfl⟩
      go_wp2_with fail
      refine (HW2.out _).mono ?_
      rintro e w' ⟨rfl, rfl⟩
      go_wp2
      go_ret2
      exact ⟨rfl, (Below.refl _ _).alloc (Nat.le_refl _) _⟩

theorem add_full (A : Option Addr) (n c : Nat) (d : Dep) (w : World) (h : DepArg d) (ha : DepAm d) (hn : 256 ≤ n) :
    Calls Try.prog 47 #[.slice A n c, .agg #[.int .i64 d.ac, .int .i64 d.me, .int .u64 d.am, .bool d.nw]] w (fun e w' => e = .returned (.tuple #[.slice none 0 0, .int .i64 161]) ∧ Below w.heap.size w w') := by
  have e1 : decide ((d.am : Int) < 1) = false := by rw [decide_eq_false_iff_not]; have := ha.1; omega
  have e2 : decide ((4611686018427387904 : Int) < d.am) = false := by rw [decide_eq_false_iff_not]; have := ha.2; omega
  clear ha
  have e3 : decide ((256 : Int) ≤ n) = true := by simp; omega
  obtain ⟨h1, h2, h3, h4, h5⟩ := h
  have HW1 := Lib.hid (within_yes d.ac 0 63 h1 h2)
  have HW2 := Lib.hid (within_yes d.me 0 127 h3 h4)
  have key : (d.nw = true ∧ (d.me != 0) = false) ∨ d.nw = false := by
    by_cases h6 : d.nw = true
    · exact .inl ⟨h6, by rw [h5 h6]; rfl⟩
    · exact .inr (by simpa using h6)
  rcases key with ⟨hnw, d1⟩ | hnw
  all_goals
    have HNW := Lib.hid hnw
    rw [hnw]
    clear h1 h2 h3 h4 h5 hnw
    go_enter Try.func47, Try.ntmps47
    go_wp2_with fail
    refine (HW1.out _).mono ?_
    rintro e w' ⟨rfl, rfl⟩
    go_wp2_with fail
    refine (HW2.out _).mono ?_
    rintro e w' ⟨rfl, rfl⟩
    go_wp2
    go_ret2
    exact ⟨rfl, (Below.refl _ _).alloc (Nat.le_refl _) _⟩

/-- what a deposit more leaves -/
def AddOk (w : World) (t : TypeId) (es : List Dep) (e : Ending) (w' : World) : Prop :=
  ∃ v, e = .returned (.tuple #[v, .int .i64 0]) ∧ w'.ownsRow w.heap.size t 4 v es.length (flat Dep.enc es) ∧ Below w.heap.size w w'
theorem AddOk.mk {w : World} {t : TypeId} {es : List Dep} {e : Ending} {w' : World} (v : Value) (h1 : e = .returned (.tuple #[v, .int .i64 0])) (h2 : w'.ownsRow w.heap.size t 4 v es.length (flat Dep.enc es)) (h3 : Below w.heap.size w w') : AddOk w t es e w' := ⟨v, h1, h2, h3⟩

set_option maxHeartbeats 4000000 in
set_option maxRecDepth 100000 in
theorem add_ok (A : Option Addr) (n c : Nat) (ds : List Dep) (d : Dep) (w : World) (hR : SRow w w.heap.size A n 4 (flat Dep.enc ds)) (hA : A = none → n = 0 ∧ c = 0) (h : DepArg d) (ha : DepAm d) (hn : n < 256) :
    Calls Try.prog 47 #[.slice A n c, .agg #[.int .i64 d.ac, .int .i64 d.me, .int .u64 d.am, .bool d.nw]] w (AddOk w 80 (ds ++ [d])) := by
  obtain ⟨i0, hi0, hz0, hz1, hz2⟩ := info_parts info_dep
  have e1 : decide ((d.am : Int) < 1) = false := by rw [decide_eq_false_iff_not]; have := ha.1; omega
  have e2 : decide ((4611686018427387904 : Int) < d.am) = false := by rw [decide_eq_false_iff_not]; have := ha.2; omega
  clear ha
  have e3 : decide ((256 : Int) ≤ n) = false := by simp; omega
  have HL := Lib.hid (hR.len Dep.len (by omega))
  obtain ⟨h1, h2, h3, h4, h5⟩ := h
  have HW1 := Lib.hid (within_yes d.ac 0 63 h1 h2)
  have HW2 := Lib.hid (within_yes d.me 0 127 h3 h4)
  have key : (d.nw = true ∧ (d.me != 0) = false) ∨ d.nw = false := by
    by_cases h6 : d.nw = true
    · exact .inl ⟨h6, by rw [h5 h6]; rfl⟩
    · exact .inr (by simpa using h6)
  rcases key with ⟨hnw, d1⟩ | hnw
  · have HNW := Lib.hid hnw
    rw [hnw]
    clear h1 h2 h3 h4 h5 hnw
    obtain ⟨W0, hW0⟩ : ∃ W0, w.alloc (.cells #[.int .i64 d.ac, .int .i64 d.me, .int .u64 d.am, .bool true] 80) = W0 := ⟨_, rfl⟩
    have hbW : Below w.heap.size w W0 := by rw [← hW0]; exact (Below.refl _ _).alloc (Nat.le_refl _) _
    have hsz : w.heap.size < W0.heap.size := by rw [← hW0]; simp
    have q0 : W0.cell? ⟨w.heap.size, 0, none⟩ = some (.int .i64 d.ac) := by rw [← hW0, World.cell?_alloc_at _ _ _ _ rfl]; rfl
    have q1 : W0.cell? ⟨w.heap.size, 1, none⟩ = some (.int .i64 d.me) := by rw [← hW0, World.cell?_alloc_at _ _ _ _ rfl]; rfl
    have q2 : W0.cell? ⟨w.heap.size, 2, none⟩ = some (.int .u64 d.am) := by rw [← hW0, World.cell?_alloc_at _ _ _ _ rfl]; rfl
    have q3 : W0.cell? ⟨w.heap.size, 3, none⟩ = some (.bool true) := by rw [← hW0, World.cell?_alloc_at _ _ _ _ rfl]; rfl
    have HR := Lib.hid (hR.to hbW)
    have HW0 := Lib.hid hW0
    have HD1 := Lib.hid (show flat Dep.enc [d] = [.int .i64 d.ac, .int .i64 d.me, .int .u64 d.am, .bool true] by rw [flat_one, Dep.enc, HNW.out])
    clear hR hW0
    go_enter Try.func47, Try.ntmps47
    go_wp2_with fail
    rw [HW0.out]
    refine (HW1.out _).mono ?_
    rintro e w' ⟨rfl, rfl⟩
    go_wp2_with fail
    refine (HW2.out _).mono ?_
    rintro e w' ⟨rfl, rfl⟩
    go_wp2
    have HLN := Lib.hid (cells_new W0 [.int .i64 d.ac, .int .i64 d.me, .int .u64 d.am, .bool true] 80 W0.heap.size rfl)
    have hone : ∀ u ∈ [Value.int .i64 d.ac, .int .i64 d.me, .int .u64 d.am, .bool true], u.oneCell' = true := by simp [Value.oneCell']
    have hmx : n + 1 ≤ maxLen := by unfold maxLen; omega
    have hby : (n + 1) * 32 ≤ 140737488355328 := by omega
    go_region_law (first
      | (go_simp; go_at_call 74; refine (clone_dep A n c ds _ (HR.out.to (show Below W0.heap.size W0 W0.drew from (Below.refl _ _).drew)) (by omega) hA).mono ?_; rintro e w2 ⟨v, rfl, ho2, hbm⟩; have hbA2 : Below W0.heap.size W0 w2 := (show Below W0.heap.size W0 W0.drew from (Below.refl _ _).drew).trans hbm; have ho3 := own_low ho2 (Nat.le_refl _); have hs2 := hbA2.size; have hk0 := bcell hbA2 hsz q0; have hk1 := bcell hbA2 hsz q1; have hk2 := bcell hbA2 hsz q2; have hk3 := bcell hbA2 hsz q3; clear hbm ho2)
      | (go_simp; go_at_call 74; refine (clone_dep A n c ds _ (HR.out.to (show Below W0.heap.size W0 (W0.alloc (.cells #[.int .i64 d.ac, .int .i64 d.me, .int .u64 d.am, .bool true] 80)).drew from ((Below.refl _ _).alloc (Nat.le_refl _) _).drew)) (by omega) hA).mono ?_; rintro e w2 ⟨v, rfl, ho2, hbm⟩; have hbA2 : Below W0.heap.size W0 w2 := (show Below W0.heap.size W0 (W0.alloc (.cells #[.int .i64 d.ac, .int .i64 d.me, .int .u64 d.am, .bool true] 80)).drew from ((Below.refl _ _).alloc (Nat.le_refl _) _).drew).trans (hbm.mono (by simp)); have hnB : ∀ j u, [Value.int .i64 d.ac, .int .i64 d.me, .int .u64 d.am, .bool true][j]? = some u → w2.cell? ((⟨W0.heap.size, 0, none⟩ : Addr).add j) = some u := fun j u hu => (hbm.cell (by rw [block_add]; simp)).trans (HLN.out j u hu); have ho3 := own_low ho2 (b := W0.heap.size) (by simp); have hs2 := hbA2.size; clear hbm ho2)
      | (refine step_append_lies _ (by rfl) _ _ _ (by rfl) W0.heap.size 80 i0 _ 4 32 Try.underlying57 hi0 hz0 hz1 hz2 rfl (by omega) v n (flat Dep.enc ds) (by rfl) ho3 ⟨W0.heap.size, 0, none⟩ 1 1 [.int .i64 d.ac, .int .i64 d.me, .int .u64 d.am, .bool true] (by rfl) (by rfl) hnB hone (by omega) hmx hby hs2 w2.heap.size rfl ?_; intro gg cap w1 hown1 hgrow hat hlt)
      | (refine step_append_lies _ (by rfl) _ _ _ (by rfl) W0.heap.size 80 i0 _ 4 32 Try.underlying57 hi0 hz0 hz1 hz2 rfl (by omega) v n (flat Dep.enc ds) (by rfl) (ho3.alloc _) ⟨w2.heap.size, 0, none⟩ 1 1 [.int .i64 d.ac, .int .i64 d.me, .int .u64 d.am, .bool true] (by rfl) (by rfl) (cells_new _ _ _ _ rfl) hone (by omega) hmx hby (by simp; omega) (w2.heap.size + 1) (by simp) ?_; intro gg cap w1 hown1 hgrow hat hlt))
    all_goals
      have hbA : Below W0.heap.size W0 w1 := by
        first
          | exact hbA2.grown hgrow hs2 (fun j hj => (ho3.lt j hj).1)
          | exact (hbA2.alloc hs2 _).grown hgrow (by simp; omega) (fun j hj => (ho3.lt j hj).1)
      have hbF := Lib.hid (hbW.trans (hbA.mono hbW.size))
      have HO := Lib.hid (show w1.ownsRow w.heap.size 80 4 (.slice (some ⟨gg, 0, none⟩) (n + 1) cap) (ds ++ [d]).length (flat Dep.enc (ds ++ [d])) by
        rw [List.length_append, HL.out, flat_append, HD1.out]; exact own_low hown1 (by omega))
      clear hgrow hown1 hbA ho3 hbA2
      go_wp2
      go_ret2
      exact AddOk.mk _ rfl HO.out hbF.out
  · have HNW := Lib.hid hnw
    rw [hnw]
    clear h1 h2 h3 h4 h5 hnw
    obtain ⟨W0, hW0⟩ : ∃ W0, w.alloc (.cells #[.int .i64 d.ac, .int .i64 d.me, .int .u64 d.am, .bool false] 80) = W0 := ⟨_, rfl⟩
    have hbW : Below w.heap.size w W0 := by rw [← hW0]; exact (Below.refl _ _).alloc (Nat.le_refl _) _
    have hsz : w.heap.size < W0.heap.size := by rw [← hW0]; simp
    have q0 : W0.cell? ⟨w.heap.size, 0, none⟩ = some (.int .i64 d.ac) := by rw [← hW0, World.cell?_alloc_at _ _ _ _ rfl]; rfl
    have q1 : W0.cell? ⟨w.heap.size, 1, none⟩ = some (.int .i64 d.me) := by rw [← hW0, World.cell?_alloc_at _ _ _ _ rfl]; rfl
    have q2 : W0.cell? ⟨w.heap.size, 2, none⟩ = some (.int .u64 d.am) := by rw [← hW0, World.cell?_alloc_at _ _ _ _ rfl]; rfl
    have q3 : W0.cell? ⟨w.heap.size, 3, none⟩ = some (.bool false) := by rw [← hW0, World.cell?_alloc_at _ _ _ _ rfl]; rfl
    have HR := Lib.hid (hR.to hbW)
    have HW0 := Lib.hid hW0
    have HD1 := Lib.hid (show flat Dep.enc [d] = [.int .i64 d.ac, .int .i64 d.me, .int .u64 d.am, .bool false] by rw [flat_one, Dep.enc, HNW.out])
    clear hR hW0
    go_enter Try.func47, Try.ntmps47
    go_wp2_with fail
    rw [HW0.out]
    refine (HW1.out _).mono ?_
    rintro e w' ⟨rfl, rfl⟩
    go_wp2_with fail
    refine (HW2.out _).mono ?_
    rintro e w' ⟨rfl, rfl⟩
    go_wp2
    have HLN := Lib.hid (cells_new W0 [.int .i64 d.ac, .int .i64 d.me, .int .u64 d.am, .bool false] 80 W0.heap.size rfl)
    have hone : ∀ u ∈ [Value.int .i64 d.ac, .int .i64 d.me, .int .u64 d.am, .bool false], u.oneCell' = true := by simp [Value.oneCell']
    have hmx : n + 1 ≤ maxLen := by unfold maxLen; omega
    have hby : (n + 1) * 32 ≤ 140737488355328 := by omega
    go_region_law (first
      | (go_simp; go_at_call 74; refine (clone_dep A n c ds _ (HR.out.to (show Below W0.heap.size W0 W0.drew from (Below.refl _ _).drew)) (by omega) hA).mono ?_; rintro e w2 ⟨v, rfl, ho2, hbm⟩; have hbA2 : Below W0.heap.size W0 w2 := (show Below W0.heap.size W0 W0.drew from (Below.refl _ _).drew).trans hbm; have ho3 := own_low ho2 (Nat.le_refl _); have hs2 := hbA2.size; have hk0 := bcell hbA2 hsz q0; have hk1 := bcell hbA2 hsz q1; have hk2 := bcell hbA2 hsz q2; have hk3 := bcell hbA2 hsz q3; clear hbm ho2)
      | (go_simp; go_at_call 74; refine (clone_dep A n c ds _ (HR.out.to (show Below W0.heap.size W0 (W0.alloc (.cells #[.int .i64 d.ac, .int .i64 d.me, .int .u64 d.am, .bool false] 80)).drew from ((Below.refl _ _).alloc (Nat.le_refl _) _).drew)) (by omega) hA).mono ?_; rintro e w2 ⟨v, rfl, ho2, hbm⟩; have hbA2 : Below W0.heap.size W0 w2 := (show Below W0.heap.size W0 (W0.alloc (.cells #[.int .i64 d.ac, .int .i64 d.me, .int .u64 d.am, .bool false] 80)).drew from ((Below.refl _ _).alloc (Nat.le_refl _) _).drew).trans (hbm.mono (by simp)); have hnB : ∀ j u, [Value.int .i64 d.ac, .int .i64 d.me, .int .u64 d.am, .bool false][j]? = some u → w2.cell? ((⟨W0.heap.size, 0, none⟩ : Addr).add j) = some u := fun j u hu => (hbm.cell (by rw [block_add]; simp)).trans (HLN.out j u hu); have ho3 := own_low ho2 (b := W0.heap.size) (by simp); have hs2 := hbA2.size; clear hbm ho2)
      | (refine step_append_lies _ (by rfl) _ _ _ (by rfl) W0.heap.size 80 i0 _ 4 32 Try.underlying57 hi0 hz0 hz1 hz2 rfl (by omega) v n (flat Dep.enc ds) (by rfl) ho3 ⟨W0.heap.size, 0, none⟩ 1 1 [.int .i64 d.ac, .int .i64 d.me, .int .u64 d.am, .bool false] (by rfl) (by rfl) hnB hone (by omega) hmx hby hs2 w2.heap.size rfl ?_; intro gg cap w1 hown1 hgrow hat hlt)
      | (refine step_append_lies _ (by rfl) _ _ _ (by rfl) W0.heap.size 80 i0 _ 4 32 Try.underlying57 hi0 hz0 hz1 hz2 rfl (by omega) v n (flat Dep.enc ds) (by rfl) (ho3.alloc _) ⟨w2.heap.size, 0, none⟩ 1 1 [.int .i64 d.ac, .int .i64 d.me, .int .u64 d.am, .bool false] (by rfl) (by rfl) (cells_new _ _ _ _ rfl) hone (by omega) hmx hby (by simp; omega) (w2.heap.size + 1) (by simp) ?_; intro gg cap w1 hown1 hgrow hat hlt))
    all_goals
      have hbA : Below W0.heap.size W0 w1 := by
        first
          | exact hbA2.grown hgrow hs2 (fun j hj => (ho3.lt j hj).1)
          | exact (hbA2.alloc hs2 _).grown hgrow (by simp; omega) (fun j hj => (ho3.lt j hj).1)
      have hbF := Lib.hid (hbW.trans (hbA.mono hbW.size))
      have HO := Lib.hid (show w1.ownsRow w.heap.size 80 4 (.slice (some ⟨gg, 0, none⟩) (n + 1) cap) (ds ++ [d]).length (flat Dep.enc (ds ++ [d])) by
        rw [List.length_append, HL.out, flat_append, HD1.out]; exact own_low hown1 (by omega))
      clear hgrow hown1 hbA ho3 hbA2
      go_wp2
      go_ret2
      exact AddOk.mk _ rfl HO.out hbF.out

theorem radd_arg (A : Option Addr) (n c : Nat) (d : Dep) (w : World) (h : ¬ (DepArg d ∧ DepAm d)) :
    Calls Try.prog 48 #[.slice A n c, .agg #[.int .i64 d.ac, .int .i64 d.me, .int .u64 d.am, .bool d.nw]] w (fun e w' => e = .returned (.tuple #[.slice none 0 0, .int .i64 2]) ∧ Below w.heap.size w w') := by
  by_cases b1 : d.ac < 0
  · have e1 : decide (d.ac < 0) = true := by simpa using b1
    go_enter Try.func48, Try.ntmps48
    go_wp2
    go_ret2
    exact ⟨rfl, (Below.refl _ _).alloc (Nat.le_refl _) _⟩
  have e1 : decide (d.ac < 0) = false := by simpa using b1
  by_cases b2 : 63 < d.ac
  · have e2 : decide (63 < d.ac) = true := by simpa using b2
    go_enter Try.func48, Try.ntmps48
    go_wp2
    go_ret2
    exact ⟨rfl, (Below.refl _ _).alloc (Nat.le_refl _) _⟩
  have e2 : decide (63 < d.ac) = false := by simpa using b2
  by_cases b3 : d.me < 0
  · have e3 : decide (d.me < 0) = true := by simpa using b3
    go_enter Try.func48, Try.ntmps48
    go_wp2
    go_ret2
    exact ⟨rfl, (Below.refl _ _).alloc (Nat.le_refl _) _⟩
  have e3 : decide (d.me < 0) = false := by simpa using b3
  by_cases b4 : 127 < d.me
  · have e4 : decide (127 < d.me) = true := by simpa using b4
    go_enter Try.func48, Try.ntmps48
    go_wp2
    go_ret2
    exact ⟨rfl, (Below.refl _ _).alloc (Nat.le_refl _) _⟩
  have e4 : decide (127 < d.me) = false := by simpa using b4
  by_cases b5 : d.nw = true ∧ 0 < d.me
  · have e5 : decide (0 < d.me) = true := by simpa using b5.2
    rw [b5.1]
    clear h b1 b2 b3 b4 b5
    go_enter Try.func48, Try.ntmps48
    go_wp2
    go_ret2
    exact ⟨rfl, (Below.refl _ _).alloc (Nat.le_refl _) _⟩
  have key : (d.nw = true ∧ decide (0 < d.me) = false) ∨ d.nw = false := by
    by_cases h6 : d.nw = true
    · exact .inl ⟨h6, by rw [decide_eq_false_iff_not]; exact fun h7 => b5 ⟨h6, h7⟩⟩
    · exact .inr (by simpa using h6)
  have hm : ¬ DepAm d := fun hm => h ⟨⟨by omega, by omega, by omega, by omega, fun h6 => by
    by_cases h7 : 0 < d.me
    · exact absurd ⟨h6, h7⟩ b5
    · omega⟩, hm⟩
  clear h b1 b2 b3 b4 b5
  by_cases b6 : d.am = 0
  · have e6 : ((d.am : Int) == 0) = true := by rw [b6]; rfl
    clear b6 hm
    rcases key with ⟨hnw, d1⟩ | hnw
    all_goals
      rw [hnw]
      clear hnw
      go_enter Try.func48, Try.ntmps48
      go_wp2
      go_ret2
      exact ⟨rfl, (Below.refl _ _).alloc (Nat.le_refl _) _⟩
  have e6 : ((d.am : Int) == 0) = false := by rw [beq_eq_false_iff_ne]; omega
  have e7 : decide ((4611686018427387904 : Int) < d.am) = true := by
    rw [decide_eq_true_iff]
    have h2 : ¬ d.am ≤ 4611686018427387904 := fun h2 => hm ⟨by omega, h2⟩
    omega
  clear b6 hm
  rcases key with ⟨hnw, d1⟩ | hnw
  all_goals
    rw [hnw]
    clear hnw
    go_enter Try.func48, Try.ntmps48
    go_wp2
    go_ret2
    exact ⟨rfl, (Below.refl _ _).alloc (Nat.le_refl _) _⟩

theorem radd_full (A : Option Addr) (n c : Nat) (d : Dep) (w : World) (h : DepArg d) (ha : DepAm d) (hn : 256 ≤ n) :
    Calls Try.prog 48 #[.slice A n c, .agg #[.int .i64 d.ac, .int .i64 d.me, .int .u64 d.am, .bool d.nw]] w (fun e w' => e = .returned (.tuple #[.slice none 0 0, .int .i64 161]) ∧ Below w.heap.size w w') := by
  have e8 : decide ((256 : Int) ≤ n) = true := by simp; omega
  obtain ⟨h1, h2, h3, h4, h5⟩ := h
  have e1 : decide (d.ac < 0) = false := by simpa using h1
  have e2 : decide (63 < d.ac) = false := by simpa using h2
  have e3 : decide (d.me < 0) = false := by simpa using h3
  have e4 : decide (127 < d.me) = false := by simpa using h4
  have e6 : ((d.am : Int) == 0) = false := by rw [beq_eq_false_iff_ne]; have := ha.1; omega
  have e7 : decide ((4611686018427387904 : Int) < d.am) = false := by rw [decide_eq_false_iff_not]; have := ha.2; omega
  have key : (d.nw = true ∧ decide (0 < d.me) = false) ∨ d.nw = false := by
    by_cases h6 : d.nw = true
    · exact .inl ⟨h6, by rw [decide_eq_false_iff_not]; have := h5 h6; omega⟩
    · exact .inr (by simpa using h6)
  clear h1 h2 h3 h4 h5 ha
  rcases key with ⟨hnw, d1⟩ | hnw
  all_goals
    rw [hnw]
    clear hnw
    go_enter Try.func48, Try.ntmps48
    go_wp2
    go_ret2
    exact ⟨rfl, (Below.refl _ _).alloc (Nat.le_refl _) _⟩

set_option maxHeartbeats 2000000 in
set_option maxRecDepth 100000 in
theorem radd_ok (A : Option Addr) (n c : Nat) (ds : List Dep) (d : Dep) (w : World) (hR : SRow w w.heap.size A n 4 (flat Dep.enc ds)) (h : DepArg d) (ha : DepAm d) (hn : n < 256) :
    Calls Try.prog 48 #[.slice A n c, .agg #[.int .i64 d.ac, .int .i64 d.me, .int .u64 d.am, .bool d.nw]] w (AddOk w 87 (ds ++ [d])) := by
  obtain ⟨i0, hi0, hz0, hz1, hz2⟩ := info_parts info_deps_any
  have e8 : decide ((256 : Int) ≤ n) = false := by simp; omega
  have HL := Lib.hid (hR.len Dep.len (by omega))
  obtain ⟨h1, h2, h3, h4, h5⟩ := h
  have e1 : decide (d.ac < 0) = false := by simpa using h1
  have e2 : decide (63 < d.ac) = false := by simpa using h2
  have e3 : decide (d.me < 0) = false := by simpa using h3
  have e4 : decide (127 < d.me) = false := by simpa using h4
  have e6 : ((d.am : Int) == 0) = false := by rw [beq_eq_false_iff_ne]; have := ha.1; omega
  have e7 : decide ((4611686018427387904 : Int) < d.am) = false := by rw [decide_eq_false_iff_not]; have := ha.2; omega
  have key : (d.nw = true ∧ decide (0 < d.me) = false) ∨ d.nw = false := by
    by_cases h6 : d.nw = true
    · exact .inl ⟨h6, by rw [decide_eq_false_iff_not]; have := h5 h6; omega⟩
    · exact .inr (by simpa using h6)
  clear h1 h2 h3 h4 h5 ha
  rcases key with ⟨hnw, d1⟩ | hnw
  · have HD1 := Lib.hid (show flat Dep.enc [d] = [.int .i64 d.ac, .int .i64 d.me, .int .u64 d.am, .bool true] by rw [flat_one, Dep.enc, hnw])
    rw [hnw]
    clear hnw
    have hbW : Below w.heap.size w (w.alloc (.cells #[.int .i64 d.ac, .int .i64 d.me, .int .u64 d.am, .bool true] 87)) := (Below.refl _ _).alloc (Nat.le_refl _) _
    have hsz : w.heap.size < (w.alloc (.cells #[.int .i64 d.ac, .int .i64 d.me, .int .u64 d.am, .bool true] 87)).heap.size := by simp
    have q0 : (w.alloc (.cells #[.int .i64 d.ac, .int .i64 d.me, .int .u64 d.am, .bool true] 87)).cell? ⟨w.heap.size, 0, none⟩ = some (.int .i64 d.ac) := by rw [World.cell?_alloc_at _ _ _ _ rfl]; rfl
    have q1 : (w.alloc (.cells #[.int .i64 d.ac, .int .i64 d.me, .int .u64 d.am, .bool true] 87)).cell? ⟨w.heap.size, 1, none⟩ = some (.int .i64 d.me) := by rw [World.cell?_alloc_at _ _ _ _ rfl]; rfl
    have q2 : (w.alloc (.cells #[.int .i64 d.ac, .int .i64 d.me, .int .u64 d.am, .bool true] 87)).cell? ⟨w.heap.size, 2, none⟩ = some (.int .u64 d.am) := by rw [World.cell?_alloc_at _ _ _ _ rfl]; rfl
    have q3 : (w.alloc (.cells #[.int .i64 d.ac, .int .i64 d.me, .int .u64 d.am, .bool true] 87)).cell? ⟨w.heap.size, 3, none⟩ = some (.bool true) := by rw [World.cell?_alloc_at _ _ _ _ rfl]; rfl
    have hR0 := hR.to hbW
    have Q0 := Lib.hid q0
    have Q1 := Lib.hid q1
    have Q2 := Lib.hid q2
    have Q3 := Lib.hid q3
    clear hR q0 q1 q2 q3
    go_enter Try.func48, Try.ntmps48
    go_wp2_with (at_builtin; refine wpList_append_rows _ rfl _ _ 83 rfl w.heap.size 87 i0 (.agg #[.int .i64 0, .int .i64 0, .int .u64 0, .bool false]) 4 32 Try.underlying83 hi0 hz0 hz1 hz2 rfl (by decide) _ _ _ rfl (World.ownsRow_nil _ _ _ _) A n c _ rfl hR0 (Dep.one ds) ?_ ?_ (by simp) ?_)
    · unfold maxLen; omega
    · omega
    intro v2 w2 hown2 hg2
    have ho2 : w2.ownsRow w.heap.size 87 4 v2 n (flat Dep.enc ds) := by simpa using hown2
    have hb2' : Below (w.alloc (.cells #[.int .i64 d.ac, .int .i64 d.me, .int .u64 d.am, .bool true] 87)).heap.size (w.alloc (.cells #[.int .i64 d.ac, .int .i64 d.me, .int .u64 d.am, .bool true] 87)) w2 := (Below.refl _ _).grown hg2 (Nat.le_refl _) (fun _ h => by cases h)
    have hb2 : Below w.heap.size w w2 := hbW.trans (hb2'.mono hbW.size)
    have hs2 := hb2.size
    have k0 := bcell hb2' hsz Q0.out
    have k1 := bcell hb2' hsz Q1.out
    have k2 := bcell hb2' hsz Q2.out
    have k3 := bcell hb2' hsz Q3.out
    clear hown2 hg2 hb2' hsz hbW hR0
    go_wp2_with (at_builtin; refine wpList_append_own _ rfl _ _ 83 rfl w.heap.size 87 i0 (.agg #[.int .i64 0, .int .i64 0, .int .u64 0, .bool false]) 4 32 Try.underlying83 hi0 hz0 hz1 hz2 rfl (by decide) _ _ _ rfl (ho2.alloc _) ⟨w2.heap.size, 0, none⟩ 1 1 [.int .i64 d.ac, .int .i64 d.me, .int .u64 d.am, .bool true] rfl rfl (cells_new _ _ _ _ rfl) ?_ ?_ ?_ ?_ ?_)
    · simp [Value.oneCell']
    · unfold maxLen; omega
    · omega
    · simp; omega
    intro v3 w3 hown3 hg3 _
    have hb3 : Below w.heap.size w w3 := (hb2.alloc hs2 _).grown hg3 (by simp; omega) (fun j hj => (ho2.lt j hj).1)
    have hbF := Lib.hid hb3
    have HO := Lib.hid (show w3.ownsRow w.heap.size 87 4 v3 (ds ++ [d]).length (flat Dep.enc (ds ++ [d])) by
      rw [List.length_append, HL.out, flat_append, HD1.out]; exact hown3)
    clear hg3 hown3 hb3 ho2 hb2
    go_wp2
    go_ret2
    exact AddOk.mk _ rfl HO.out hbF.out
  · have HD1 := Lib.hid (show flat Dep.enc [d] = [.int .i64 d.ac, .int .i64 d.me, .int .u64 d.am, .bool false] by rw [flat_one, Dep.enc, hnw])
    rw [hnw]
    clear hnw
    have hbW : Below w.heap.size w (w.alloc (.cells #[.int .i64 d.ac, .int .i64 d.me, .int .u64 d.am, .bool false] 87)) := (Below.refl _ _).alloc (Nat.le_refl _) _
    have hsz : w.heap.size < (w.alloc (.cells #[.int .i64 d.ac, .int .i64 d.me, .int .u64 d.am, .bool false] 87)).heap.size := by simp
    have q0 : (w.alloc (.cells #[.int .i64 d.ac, .int .i64 d.me, .int .u64 d.am, .bool false] 87)).cell? ⟨w.heap.size, 0, none⟩ = some (.int .i64 d.ac) := by rw [World.cell?_alloc_at _ _ _ _ rfl]; rfl
    have q1 : (w.alloc (.cells #[.int .i64 d.ac, .int .i64 d.me, .int .u64 d.am, .bool false] 87)).cell? ⟨w.heap.size, 1, none⟩ = some (.int .i64 d.me) := by rw [World.cell?_alloc_at _ _ _ _ rfl]; rfl
    have q2 : (w.alloc (.cells #[.int .i64 d.ac, .int .i64 d.me, .int .u64 d.am, .bool false] 87)).cell? ⟨w.heap.size, 2, none⟩ = some (.int .u64 d.am) := by rw [World.cell?_alloc_at _ _ _ _ rfl]; rfl
    have q3 : (w.alloc (.cells #[.int .i64 d.ac, .int .i64 d.me, .int .u64 d.am, .bool false] 87)).cell? ⟨w.heap.size, 3, none⟩ = some (.bool false) := by rw [World.cell?_alloc_at _ _ _ _ rfl]; rfl
    have hR0 := hR.to hbW
    have Q0 := Lib.hid q0
    have Q1 := Lib.hid q1
    have Q2 := Lib.hid q2
    have Q3 := Lib.hid q3
    clear hR q0 q1 q2 q3
    go_enter Try.func48, Try.ntmps48
    go_wp2_with (at_builtin; refine wpList_append_rows _ rfl _ _ 83 rfl w.heap.size 87 i0 (.agg #[.int .i64 0, .int .i64 0, .int .u64 0, .bool false]) 4 32 Try.underlying83 hi0 hz0 hz1 hz2 rfl (by decide) _ _ _ rfl (World.ownsRow_nil _ _ _ _) A n c _ rfl hR0 (Dep.one ds) ?_ ?_ (by simp) ?_)
    · unfold maxLen; omega
    · omega
    intro v2 w2 hown2 hg2
    have ho2 : w2.ownsRow w.heap.size 87 4 v2 n (flat Dep.enc ds) := by simpa using hown2
    have hb2' : Below (w.alloc (.cells #[.int .i64 d.ac, .int .i64 d.me, .int .u64 d.am, .bool false] 87)).heap.size (w.alloc (.cells #[.int .i64 d.ac, .int .i64 d.me, .int .u64 d.am, .bool false] 87)) w2 := (Below.refl _ _).grown hg2 (Nat.le_refl _) (fun _ h => by cases h)
    have hb2 : Below w.heap.size w w2 := hbW.trans (hb2'.mono hbW.size)
    have hs2 := hb2.size
    have k0 := bcell hb2' hsz Q0.out
    have k1 := bcell hb2' hsz Q1.out
    have k2 := bcell hb2' hsz Q2.out
    have k3 := bcell hb2' hsz Q3.out
    clear hown2 hg2 hb2' hsz hbW hR0
    go_wp2_with (at_builtin; refine wpList_append_own _ rfl _ _ 83 rfl w.heap.size 87 i0 (.agg #[.int .i64 0, .int .i64 0, .int .u64 0, .bool false]) 4 32 Try.underlying83 hi0 hz0 hz1 hz2 rfl (by decide) _ _ _ rfl (ho2.alloc _) ⟨w2.heap.size, 0, none⟩ 1 1 [.int .i64 d.ac, .int .i64 d.me, .int .u64 d.am, .bool false] rfl rfl (cells_new _ _ _ _ rfl) ?_ ?_ ?_ ?_ ?_)
    · simp [Value.oneCell']
    · unfold maxLen; omega
    · omega
    · simp; omega
    intro v3 w3 hown3 hg3 _
    have hb3 : Below w.heap.size w w3 := (hb2.alloc hs2 _).grown hg3 (by simp; omega) (fun j hj => (ho2.lt j hj).1)
    have hbF := Lib.hid hb3
    have HO := Lib.hid (show w3.ownsRow w.heap.size 87 4 v3 (ds ++ [d]).length (flat Dep.enc (ds ++ [d])) by
      rw [List.length_append, HL.out, flat_append, HD1.out]; exact hown3)
    clear hg3 hown3 hb3 ho2 hb2
    go_wp2
    go_ret2
    exact AddOk.mk _ rfl HO.out hbF.out
end Go.Proofs.Ytdjeedmiicagcaa.PoolW
