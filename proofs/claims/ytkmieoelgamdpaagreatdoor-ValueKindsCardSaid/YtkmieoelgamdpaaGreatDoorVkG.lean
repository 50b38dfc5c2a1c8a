/-
  Join of the program and of the reference tell the same, awake and ValueTells are true, at the values that ValueKinds makes.
-/
import Derived.Test.YtkmieoelgamdpaaGreatDoorVkF
set_option linter.deprecated false
set_option linter.unusedVariables false
set_option linter.unusedSimpArgs false

/- ValueKinds: Join: the program's and the reference's tell the same. -/
namespace Go.Sx.Vk
open Go Go.Proofs
set_option maxRecDepth 1000000

def VJ (m : List (Nat × Int)) : List Avail := [⟨8, vM m ksAbs 0, []⟩, ⟨8, vM m ksAbs 12, []⟩, ⟨73, vM m ksNum 13 ++ vM m ksNum 1, []⟩]
noncomputable def eqvJ (m : List (Nat × Int)) (N : List Known) : Bool :=
  eqv (fun (x : SV × List SO × Nat) => flatRes c34.res x.1) (fun (x : SV × List SO × Nat) => flatRes c34.res x.1) (VJ m) N 300 [] (call K32 400 0 34 (argsM m c34.args) [] 24) (call K33 400 0 35 (argsM m c34.args) [] 24)

/-- Kind 1: what cannot be. -/
def GJ1 : Known := [(a8 [(0, 1)] 0, true), (.var .bool 11, true)]
def GJ2 : Known := [(.cmp .eql (.int .u8) (.lit (.int .u8) 1) (.var (.int .u8) 12), true), (.cmp .eql (.int .u8) (.var (.int .u8) 12) (.lit (.int .u8) 1), false)]
def m44 : List (Nat × Int) := [(0, 4), (12, 4), (1, 0), (2, 0), (3, 0), (4, 0), (5, 0), (6, 0), (13, 0), (14, 0), (15, 0), (16, 0), (17, 0), (18, 0)]

theorem eqvJ0 : eqvJ [(0, 0)] [] = true := by kernel_rfl
theorem eqvJ1 : eqvJ [(0, 1)] [GJ1, GJ2] = true := by kernel_rfl
theorem eqvJ2 : eqvJ [(0, 2)] [] = true := by kernel_rfl
theorem eqvJ3 : eqvJ [(0, 3)] [] = true := by kernel_rfl
theorem eqvJ40 : eqvJ [(0, 4), (12, 0)] [] = true := by kernel_rfl
theorem eqvJ41 : eqvJ [(0, 4), (12, 1)] [] = true := by kernel_rfl
theorem eqvJ42 : eqvJ [(0, 4), (12, 2)] [] = true := by kernel_rfl
theorem eqvJ43 : eqvJ [(0, 4), (12, 3)] [] = true := by kernel_rfl
theorem eqvJ44 : eqvJ m44 [] = true := by kernel_rfl
theorem neverJ1 : (Lrows.all fun r => !(holdsB r GJ1) || false) = true := by kernel_rfl

theorem join_at {m : List (Nat × Int)} {N : List Known} (h : eqvJ m N = true) {vs : List Int} (hl : vs.length = (kindsOf c34.args).length) (hn : normL (kindsOf c34.args) vs = vs) (hY : inL (seg3 vs 0 12) = true ∧ inL (seg3 vs 12 12) = true) (hf : Fits m vs)
    (hN : NeverOk Φ0 (fun i => vs.getD i 0) N) : ∃ r, Tells Tryz.prog 34 c34 vs r ∧ Tells Tryz.prog 35 c34 vs r := by
  refine pair_at (C := K32) (C' := K33) okK32 okK33 (ρ := fun i => vs.getD i 0) (fun n hρ => argsM_re hf hρ hl hn) (argsM_ok (by decide)) h ?_ hN (fun p hp => by simp at hp)
  intro v hv hg
  simp only [VJ, List.mem_cons, List.not_mem_nil, or_false] at hv
  rcases hv with rfl | rfl | rfl
  · show O0.dom 8 _
    rw [denL_vM hf _ (all := kindsOf c34.args) hl hn (by decide) rfl]
    exact dom8_L hY.1
  · show O0.dom 8 _
    rw [denL_vM hf _ (all := kindsOf c34.args) hl hn (by decide) rfl]
    exact dom8_L hY.2
  · show O0.dom 73 (E.denL Φ0 _ (vM m ksNum 13 ++ vM m ksNum 1))
    rw [denL_append, denL_vM hf _ (all := kindsOf c34.args) (ks := ksNum) (i := 1) hl hn (by decide) rfl, denL_vM hf _ (all := kindsOf c34.args) (ks := ksNum) (i := 13) hl hn (by decide) rfl]
    have := dom73_L hY.2 hY.1
    rw [seg3_seg3 (by decide), seg3_seg3 (by decide)] at this
    exact this

theorem kinds_of {vs : List Int} {i : Nat} (h : inL (seg3 vs i 12) = true) : vs.getD i 0 = 0 ∨ vs.getD i 0 = 1 ∨ vs.getD i 0 = 2 ∨ vs.getD i 0 = 3 ∨ (vs.getD i 0 = 4 ∧ seg3 vs (i + 1) 6 = zs) := by
  have h1 := inL_all Lkinds h
  simp only [Bool.or_eq_true, Bool.and_eq_true, decide_eq_true_eq] at h1
  rw [seg3_getD (by decide), seg3_seg3 (by decide), Nat.add_zero] at h1
  simp only [or_assoc] at h1
  exact h1

theorem zs_getD {vs : List Int} {i : Nat} (h : seg3 vs i 6 = zs) {j : Nat} (hj : j < 6) : vs.getD (i + j) 0 = 0 := by
  rw [← seg3_getD (n := 6) hj, h]
  match j, hj with
  | 0, _ | 1, _ | 2, _ | 3, _ | 4, _ | 5, _ => rfl

theorem con34 : ConOk Tryz.prog Φ0 O0 34 c34 ∧ ConOk Tryz.prog Φ0 O0 35 c34 :=
  pair_con (fun vs => rfl) fun vs hl hn hd => by
    have hY : inL (seg3 vs 0 12) = true ∧ inL (seg3 vs 12 12) = true := (dom_Y rfl vs).1 (hd rfl)
    have one : ∀ {k : Int}, vs.getD 0 0 = k → Fits [(0, k)] vs := fun h => fits_of (by intro p hp; simp only [List.mem_singleton] at hp; subst hp; exact h)
    have two : ∀ {k : Int}, vs.getD 0 0 = 4 → vs.getD 12 0 = k → Fits [(0, 4), (12, k)] vs := fun h h' => fits_of (by
      intro p hp
      simp only [List.mem_cons, List.not_mem_nil, or_false] at hp
      rcases hp with rfl | rfl
      · exact h
      · exact h')
    have no : NeverOk Φ0 (fun i => vs.getD i 0) [] := fun l hl => by simp at hl
    rcases kinds_of hY.1 with h | h | h | h | ⟨h, hz⟩
    · exact join_at eqvJ0 hl hn hY (one h) no
    · refine join_at eqvJ1 hl hn hY (one h) ?_
      intro l hl hh
      simp only [List.mem_cons, List.not_mem_nil, or_false] at hl
      rcases hl with rfl | rfl
      · have := rows_imp (n := 12) (q := fun _ => false) (by decide) hY.1 neverJ1 hh
        cases this
      · have h1 := hh _ List.mem_cons_self
        have h2 := hh _ (List.mem_cons_of_mem _ List.mem_cons_self)
        simp only [cmp_ne, bcmp, beq_iff_eq, beq_eq_false_iff_ne] at h1 h2
        exact h2 h1.symm
    · exact join_at eqvJ2 hl hn hY (one h) no
    · exact join_at eqvJ3 hl hn hY (one h) no
    · rcases kinds_of hY.2 with h' | h' | h' | h' | ⟨h', hz'⟩
      · exact join_at eqvJ40 hl hn hY (two h h') no
      · exact join_at eqvJ41 hl hn hY (two h h') no
      · exact join_at eqvJ42 hl hn hY (two h h') no
      · exact join_at eqvJ43 hl hn hY (two h h') no
      · refine join_at eqvJ44 hl hn hY (fits_of ?_) no
        intro p hp
        simp only [m44, List.mem_cons, List.not_mem_nil, or_false] at hp
        rcases hp with rfl | rfl | rfl | rfl | rfl | rfl | rfl | rfl | rfl | rfl | rfl | rfl | rfl | rfl
        · exact h
        · exact h'
        · exact zs_getD hz (j := 0) (by decide)
        · exact zs_getD hz (j := 1) (by decide)
        · exact zs_getD hz (j := 2) (by decide)
        · exact zs_getD hz (j := 3) (by decide)
        · exact zs_getD hz (j := 4) (by decide)
        · exact zs_getD hz (j := 5) (by decide)
        · exact zs_getD hz' (j := 0) (by decide)
        · exact zs_getD hz' (j := 1) (by decide)
        · exact zs_getD hz' (j := 2) (by decide)
        · exact zs_getD hz' (j := 3) (by decide)
        · exact zs_getD hz' (j := 4) (by decide)
        · exact zs_getD hz' (j := 5) (by decide)
end Go.Sx.Vk

/- ValueKinds: awake is true; ValueTells is true of the values that are come to. -/
namespace Go.Sx.Vk
open Go Go.Proofs
set_option maxRecDepth 1000000

/-! ### awake -/
def fold4 (s : Nat) (vs : List Int) : Option (List Int) := if s = 8 then fold8 vs else foldT [36, 38, 140, 6] s vs
theorem fold8_ok {vs r : List Int} (h : fold8 vs = some r) : Φ0 8 vs = r ∧ O0.dom 8 vs := by
  unfold fold8 at h
  split at h
  · rename_i hc
    simp only [Option.some.injEq] at h; subst h
    exact ⟨rfl, (dom_Y rfl vs).2 hc⟩
  · cases h
theorem fold4_ok (s : Nat) (vs r : List Int) (h : fold4 s vs = some r) : Φ0 s vs = r ∧ O0.dom s vs := by
  unfold fold4 at h
  split at h
  · rename_i hs; subst hs; exact fold8_ok h
  · exact foldT_ok rfl s vs r h
noncomputable def K4 : Ctx := mkC [(8, c8), (36, c36), (38, c38), (40, c140), (6, c6)] fold4
theorem okK4 : CtxOk K4 Φ0 O0 := mkC_ok (by
  intro p hp
  simp only [List.mem_cons, List.not_mem_nil, or_false] at hp
  rcases hp with rfl | rfl | rfl | rfl | rfl
  · exact con8 hr0
  · exact con36
  · exact con38
  · exact con140 hx0
  · exact con6) fold4_ok (by kernel_rfl)
theorem run4 : runsTo K4 400 4 c4t [] [1] = true := by kernel_rfl
theorem con4 : ConOk Tryz.prog Φ0 O0 4 c4t := by
  intro vs w hl hn _
  have : vs = [] := List.eq_nil_of_length_eq_zero hl
  subst this
  exact lit_run okK4 run4 hl hn w

/-! ### ValueTells -/
def f4 (s : Nat) (vs : List Int) : Option (List Int) := if s = 4 then some [1] else none
theorem f4_ok (s : Nat) (vs r : List Int) (h : f4 s vs = some r) : Φ0 s vs = r ∧ O0.dom s vs := by
  unfold f4 at h
  split at h
  · rename_i hs; subst hs
    simp only [Option.some.injEq] at h; subst h
    exact ⟨rfl, (dom_Y rfl vs).2 trivial⟩
  · cases h
noncomputable def K10 : Ctx := mkC [(4, c4t), (8, c8), (9, c8), (11, c11), (28, c11), (13, c13), (29, c13), (30, c30), (31, c30), (32, c32), (33, c32), (34, c34), (35, c34)] f4
theorem okK10 : CtxOk K10 Φ0 O0 := mkC_ok (by
  intro p hp
  simp only [List.mem_cons, List.not_mem_nil, or_false] at hp
  rcases hp with rfl | rfl | rfl | rfl | rfl | rfl | rfl | rfl | rfl | rfl | rfl | rfl | rfl
  · exact con4
  · exact con8 hr0
  · exact con9 hr0
  · exact con11.1
  · exact con11.2
  · exact con13.1
  · exact con13.2
  · exact con30.1
  · exact con30.2
  · exact con32.1
  · exact con32.2
  · exact con34.1
  · exact con34.2) f4_ok (by kernel_rfl)
def ksSpec : List K := [.int .u8, s64, s64, s64]
def V10 : List Avail := [⟨11, vM [] ksAbs 0 ++ (vM [] ksNum 24 ++ vM [] [.bool, s64] 30), []⟩, ⟨13, vM [] ksAbs 0 ++ (vM [] [s64, s64] 32 ++ vM [] ksSpec 34), []⟩, ⟨30, vM [] ksNum 24, []⟩, ⟨8, vM [] ksAbs 0, []⟩, ⟨32, vM [] ksAbs 0 ++ vM [] ksAbs 12, []⟩, ⟨34, vM [] ksAbs 0 ++ vM [] ksAbs 12, []⟩]
theorem eqv10 : eqv (fun (x : SV × List SO × Nat) => flatRes c10.res x.1) (fun (_ : Unit) => some [(K.bool, E.lit .bool 1)]) V10 [] 300 [] (call K10 400 0 10 (argsM [] c10.args) [] 38) (.leaf ()) = true := by kernel_rfl
theorem con10 : ConOk Tryz.prog Φ0 O0 10 c10 :=
  conOk_tells fun vs hl hn hd => by
    have hY : inL (seg3 vs 0 12) = true ∧ inL (seg3 vs 12 12) = true ∧ inN (seg3 vs 24 6) = true := (dom_Y rfl vs).1 (hd rfl)
    have hlen : vs.length = 38 := hl
    have d : ∀ {ks : List K} {i : Nat}, i + ks.length ≤ (kindsOf c10.args).length → ((kindsOf c10.args).drop i).take ks.length = ks → E.denL Φ0 (fun i => vs.getD i 0) (vM [] ks i) = seg3 vs i ks.length := fun h1 h2 => denL_vM (Fits.nil vs) _ (all := kindsOf c10.args) hl hn h1 h2
    have a0 : E.denL Φ0 (fun i => vs.getD i 0) (vM [] ksAbs 0) = seg3 vs 0 12 := d (by decide) rfl
    have a12 : E.denL Φ0 (fun i => vs.getD i 0) (vM [] ksAbs 12) = seg3 vs 12 12 := d (by decide) rfl
    have a24 : E.denL Φ0 (fun i => vs.getD i 0) (vM [] ksNum 24) = seg3 vs 24 6 := d (by decide) rfl
    have l0 : (seg3 vs 0 12).length = 12 := seg3_length (by omega)
    have l12 : (seg3 vs 12 12).length = 12 := seg3_length (by omega)
    have l24 : (seg3 vs 24 6).length = 6 := seg3_length (by omega)
    refine tells_leaf (C := K10) okK10 (ρ := fun i => vs.getD i 0) (fun n hρ => argsM_re (Fits.nil vs) hρ hl hn) (argsM_ok (by decide)) eqv10 ?_ (fun l hl => by simp at hl) (fun p hp => by simp at hp)
    intro v hv hg
    simp only [V10, List.mem_cons, List.not_mem_nil, or_false] at hv
    rcases hv with rfl | rfl | rfl | rfl | rfl | rfl
    · show O0.dom 11 (E.denL Φ0 _ (_ ++ (_ ++ _)))
      rw [denL_append, denL_append, a0, a24]
      refine (dom_Y rfl _).2 ?_
      show inL (seg3 _ 0 12) = true ∧ inN (seg3 _ 12 6) = true
      rw [seg3_l l0, seg3_m l0 l24]
      exact ⟨hY.1, hY.2.2⟩
    · show O0.dom 13 (E.denL Φ0 _ (_ ++ (_ ++ _)))
      rw [denL_append, a0]
      refine (dom_Y rfl _).2 ?_
      show inL (seg3 _ 0 12) = true
      rw [seg3_l l0]
      exact hY.1
    · show O0.dom 30 (E.denL Φ0 _ _)
      rw [a24]
      refine (dom_Y rfl _).2 ?_
      show inN (seg3 (seg3 vs 24 6) 0 6) = true
      rw [seg3_seg3 (by decide)]
      exact hY.2.2
    · show O0.dom 8 (E.denL Φ0 _ _)
      rw [a0]
      exact dom8_L hY.1
    · show O0.dom 32 (E.denL Φ0 _ (_ ++ _))
      rw [denL_append, a0, a12]
      refine (dom_Y rfl _).2 ?_
      show inL (seg3 _ 0 12) = true ∧ inL (seg3 _ 12 12) = true
      rw [seg3_l l0, seg3_r l0 l12]
      exact ⟨hY.1, hY.2.1⟩
    · show O0.dom 34 (E.denL Φ0 _ (_ ++ _))
      rw [denL_append, a0, a12]
      refine (dom_Y rfl _).2 ?_
      show inL (seg3 _ 0 12) = true ∧ inL (seg3 _ 12 12) = true
      rw [seg3_l l0, seg3_r l0 l12]
      exact ⟨hY.1, hY.2.1⟩
end Go.Sx.Vk
