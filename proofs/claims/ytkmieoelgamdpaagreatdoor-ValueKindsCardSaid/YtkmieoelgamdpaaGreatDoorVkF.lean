/-
  Number, Touch, Add, Leq of the program and of the reference tell the same, at the values that ValueKinds makes.
-/
import Derived.Test.YtkmieoelgamdpaaGreatDoorVkD
import Derived.Test.YtkmieoelgamdpaaGreatDoorVkC
import Derived.Test.YtkmieoelgamdpaaGreatDoorVkE
set_option linter.deprecated false
set_option linter.unusedVariables false
set_option linter.unusedSimpArgs false

/- ValueKinds: the values that are come to; what the specs are, and where they may be asked. -/
namespace Go.Sx.Vk
open Go Go.Proofs
set_option maxRecDepth 1000000

/-- The values that the statement makes. -/
def Lrows : List (List Int) := [
  [0, 0, 0, 0, 0, 0, 0, 0, 0, 0, 0, 0],
  [0, 0, 18446744073709551615, 0, 18446744073709551615, -9223372036854775808, 9223372036854775807, 0, 0, 0, 0, 0],
  [0, 0, 0, 0, 0, 0, 0, -268435456, 0, 0, 0, 0],
  [0, 0, 0, 0, 0, 0, 0, 0, 0, 0, 0, 0],
  [0, 0, 0, 0, 0, 0, 0, 0, 0, -1, 0, 0],
  [0, 0, 0, 0, 0, 0, 0, 0, 0, 0, 512, 0],
  [0, 0, 0, 0, 0, 0, 0, 0, 0, 2, 0, 0],
  [0, 0, 0, 0, 0, 0, 0, 0, 0, 0, 0, 0],
  [0, 0, 18446744073709551615, 0, 18446744073709551615, -9223372036854775808, 9223372036854775807, 0, 0, 0, 0, 0],
  [0, 0, 0, 0, 0, 0, 0, -268435456, 0, 0, 0, 0],
  [0, 0, 0, 0, 0, 0, 0, 0, 0, 0, 0, 0],
  [0, 0, 0, 0, 0, 0, 0, 0, 0, 0, 0, 0],
  [1, 0, 0, 0, 0, 0, 0, 0, 0, 0, 0, 0],
  [1, 0, 18446744073709551615, 0, 18446744073709551615, -9223372036854775808, 9223372036854775807, 0, 0, 0, 0, 0],
  [1, 0, 0, 0, 0, 0, 0, 0, 0, 0, 0, 0],
  [1, 0, 0, 0, 0, 0, 0, 0, 0, 0, 0, 0],
  [1, 0, 18446744073709551615, 0, 18446744073709551615, -9223372036854775808, 9223372036854775807, 0, 0, 0, 0, 0],
  [1, 0, 0, 0, 0, 0, 0, 0, 0, 0, 0, 0],
  [1, 0, 7, 0, 7, 0, 7, 0, 0, 0, 0, 0],
  [1, 0, 7, 0, 7, 0, 7, 0, 0, 0, 0, 0],
  [1, 0, 7, 0, 7, 0, 7, 0, 0, 0, 0, 0],
  [1, 0, 18446744073709551615, 0, 18446744073709551615, -9223372036854775808, 9223372036854775807, 0, 0, 0, 0, 0],
  [1, 0, 18446744073709551615, 0, 18446744073709551615, -9223372036854775808, 9223372036854775807, 0, 0, 0, 0, 0],
  [1, 0, 18446744073709551615, 0, 18446744073709551615, -9223372036854775808, 9223372036854775807, 0, 0, 0, 0, 0],
  [1, 1048577, 0, 1048577, 1048577, 1048577, 1048577, 0, 0, 0, 0, 0],
  [1, 1048577, 0, 1048577, 1048577, 1048577, 1048577, 0, 0, 0, 0, 0],
  [1, 1048577, 0, 1048577, 1048577, 1048577, 1048577, 0, 0, 0, 0, 0],
  [1, 0, 0, 0, 0, 0, 0, 0, 0, 0, 0, 0],
  [2, 0, 0, 0, 0, 0, 0, 0, 0, 0, 0, 0],
  [2, 0, 0, 0, 0, 0, 0, -268435456, 0, 0, 0, 0],
  [2, 0, 0, 0, 0, 0, 0, 0, 0, 0, 0, 0],
  [2, 0, 0, 0, 0, 0, 0, 0, 0, 0, 0, 0],
  [2, 0, 0, 0, 0, 0, 0, -268435456, 0, 0, 0, 0],
  [2, 0, 0, 0, 0, 0, 0, 0, 0, 0, 0, 0],
  [2, 0, 0, 0, 0, 0, 0, 8, 0, 0, 0, 0],
  [2, 0, 0, 0, 0, 0, 0, -268435448, 0, 0, 0, 0],
  [2, 0, 0, 0, 0, 0, 0, 8, 0, 0, 0, 0],
  [2, 0, 0, 0, 0, 0, 0, -536870912, 0, 0, 0, 0],
  [2, 0, 0, 0, 0, 0, 0, -536870912, 0, 0, 0, 0],
  [2, 0, 0, 0, 0, 0, 0, 268435457, 0, 0, 0, 0],
  [2, 0, 0, 0, 0, 0, 0, 0, 0, 0, 0, 0],
  [3, 0, 0, 0, 0, 0, 0, 0, 0, 0, 0, 0],
  [3, 0, 0, 0, 0, 0, 0, -268435456, 0, 0, 0, 0],
  [3, 0, 0, 0, 0, 0, 0, 0, 0, 0, 0, 0],
  [3, 0, 0, 0, 0, 0, 0, 0, 0, 0, 0, 0],
  [3, 0, 0, 0, 0, 0, 0, -268435456, 0, 0, 0, 0],
  [3, 0, 0, 0, 0, 0, 0, 0, 0, 0, 0, 0],
  [3, 0, 0, 0, 0, 0, 0, 8, 0, 0, 0, 0],
  [3, 0, 0, 0, 0, 0, 0, -268435448, 0, 0, 0, 0],
  [3, 0, 0, 0, 0, 0, 0, 8, 0, 0, 0, 0],
  [3, 0, 0, 0, 0, 0, 0, -536870912, 0, 0, 0, 0],
  [3, 0, 0, 0, 0, 0, 0, -536870912, 0, 0, 0, 0],
  [3, 0, 0, 0, 0, 0, 0, 268435457, 0, 0, 0, 0],
  [3, 0, 0, 0, 0, 0, 0, 0, 0, 0, 0, 0],
  [4, 0, 0, 0, 0, 0, 0, 0, 0, 0, 0, 0],
  [4, 0, 0, 0, 0, 0, 0, -268435456, 0, 0, 0, 0],
  [4, 0, 0, 0, 0, 0, 0, 0, 0, 0, 0, 0],
  [4, 0, 0, 0, 0, 0, 0, 0, 0, 0, 512, 0],
  [4, 0, 0, 0, 0, 0, 0, 0, 0, 2, 0, 0],
  [4, 0, 0, 0, 0, 0, 0, 0, 0, 0, 0, 0]]
/-- The numbers that it adds. -/
def Ns : List (List Int) := small :: (List.range 60).map fun (k : Nat) => konst (k : Int)
def inL (r : List Int) : Bool := Lrows.contains r
def inN (r : List Int) : Bool := Ns.contains r

def s64c : VT := .one s64
def cSpec : VT := .agg [.int .u8, s64, s64, s64]
def c11 : Con := cU 11 [cAbs, cNum, vb, s64c] [cAbs, s64c]
def c13 : Con := cU 13 [cAbs, s64c, s64c, cSpec] [s64c]
def c30 : Con := cU 30 [cNum] [cAbs]
def c32 : Con := cU 32 [cAbs, cAbs] [vb]
def c34 : Con := cU 34 [cAbs, cAbs] [cAbs]

/-- The parts that it puts together. -/
def parts : List (List Int) := [[0,0,0,0,0,0,0,0,0,0,0,0], [0,0,0,0,0,0,0,0,0,0,0,0], [0,0,7,0,7,0,7,0,0,0,0,0], [0,0,18446744073709551615,0,18446744073709551615,-9223372036854775808,9223372036854775807,0,0,0,0,0], [0,1048577,0,1048577,1048577,1048577,1048577,0,0,0,0,0],
  [0,0,0,0,0,0,0,8,0,0,0,0], [0,0,0,0,0,0,0,-536870912,0,0,0,0], [0,0,0,0,0,0,0,536870913,0,0,0,0], [0,0,0,0,0,0,0,0,1,0,0,0], [0,0,0,0,0,0,0,0,31,0,0,0], [0,0,0,0,0,0,0,0,32,0,0,0], [0,0,0,0,0,0,0,0,0,1,0,0], [0,0,0,0,0,0,0,0,0,-1,0,0],
  [0,0,0,0,0,0,0,0,0,0,1,0], [0,0,0,0,0,0,0,0,0,0,1024,0], [0,0,0,0,0,0,0,0,0,0,4097,0], [0,0,0,0,0,0,0,0,0,0,-1,0], [0,0,0,0,0,0,0,0,0,0,0,1], [0,0,0,0,0,0,0,0,0,2,0,1]]

/-- Where the specs that no table tells may be asked. -/
def Y0 (s : Nat) (vs : List Int) : Prop :=
  if s = 8 then (tabGet 36 (seg3 vs 1 6)).isSome = true
  else if s = 10 then inL (seg3 vs 0 12) = true ∧ inL (seg3 vs 12 12) = true ∧ inN (seg3 vs 24 6) = true
  else if s = 11 then inL (seg3 vs 0 12) = true ∧ inN (seg3 vs 12 6) = true
  else if s = 13 then inL (seg3 vs 0 12) = true
  else if s = 30 then inN (seg3 vs 0 6) = true
  else if s = 32 then inL (seg3 vs 0 12) = true ∧ inL (seg3 vs 12 12) = true
  else if s = 34 then inL (seg3 vs 0 12) = true ∧ inL (seg3 vs 12 12) = true
  else if s = 80 then vs = [0, 0, 1, 0, 0]
  else True

/-- What they come to. -/
noncomputable def X0 (s : Nat) (vs : List Int) : List Int :=
  if s = 8 then E.denL Φt (fun i => vs.getD i 0) [(.bool, e8)]
  else if s = 10 then [1]
  else if s = 4 then [1]
  else if s = 11 then pairSpec Tryz.prog 11 28 c11 vs
  else if s = 13 then pairSpec Tryz.prog 13 29 c13 vs
  else if s = 30 then pairSpec Tryz.prog 30 31 c30 vs
  else if s = 32 then pairSpec Tryz.prog 32 33 c32 vs
  else if s = 34 then pairSpec Tryz.prog 34 35 c34 vs
  else if s = 80 then [0, 1]
  else if s = 215 then E.denL Φt (fun i => vs.getD i 0) [(.bool, e215)]
  else if s = 200 then Lrows.getD (vs.headD 0).toNat []
  else if s = 201 then parts.getD (vs.headD 0).toNat []
  else []

noncomputable abbrev Φ0 : Go.Sx.Spec := Φm X0
abbrev O0 : Owe := Om Y0 (fun _ _ => False) fun _ _ => 0

theorem hx0 : HX X0 Y0 :=
  ⟨fun vs => by simp [Y0], by simp [X0], fun vs => by simp [Y0], fun vs => by simp [X0]⟩
theorem hr0 : HR8 X0 Y0 := ⟨fun vs h => h, fun vs => rfl⟩

/-- The specs of Right and of the tables: computed. -/
def Φc : Go.Sx.Spec := fun s vs => if s = 8 then E.denL Φt (fun i => vs.getD i 0) [(.bool, e8)] else Φt s vs
def p8 (s : Nat) : Bool := isTab s || s == 8
theorem Φ0_c (s : Nat) (h : p8 s = true) : Φ0 s = Φc s := by
  funext vs
  by_cases h8 : s = 8
  · subst h8
    show (if isTab 8 = true then Φt 8 vs else X0 8 vs) = _
    rw [if_neg (by decide)]; rfl
  · have ht : isTab s = true := by simpa [p8, h8] using h
    simp [Φ0, Φm, Φc, ht, h8]

def holdsB (r : List Int) (G : Known) : Bool := G.all fun p => (p.1.den Φc (fun i => r.getD i 0) != 0) == p.2

theorem seg3_getD {vs : List Int} {i n j : Nat} (h : j < n) : (seg3 vs i n).getD j 0 = vs.getD (i + j) 0 := by
  simp [seg3, List.getD_eq_getElem?_getD, List.getElem?_take, h]

/-- What is known of a value out of so many: by looking at each. -/
theorem rows_imp {vs : List Int} {G : Known} {n : Nat} {rows : List (List Int)} {q : List Int → Bool} (hG : (G.all fun p => p.1.under n && p.1.only p8) = true) (hr : rows.contains (seg3 vs 0 n) = true)
    (hc : (rows.all fun r => !(holdsB r G) || q r) = true) (hh : Holds Φ0 (fun i => vs.getD i 0) G) : q (seg3 vs 0 n) = true := by
  have h1 := List.all_eq_true.1 hc _ (by simpa using hr)
  have h2 : holdsB (seg3 vs 0 n) G = true := by
    refine List.all_eq_true.2 fun p hp => ?_
    have h3 := List.all_eq_true.1 hG p hp
    simp only [Bool.and_eq_true] at h3
    have h4 := hh p hp
    rw [beq_iff_eq, ← h4]
    congr 1
    rw [← E.den_only Φ0_c p.1 h3.2]
    exact E.den_congr (fun i hi => by simpa using seg3_getD (vs := vs) (i := 0) hi) p.1 h3.1
  rw [h2] at h1
  simpa using h1

theorem fits_of {m : List (Nat × Int)} {vs : List Int} (h : ∀ p ∈ m, vs.getD p.1 0 = p.2) : Fits m vs := by
  intro i x hx
  obtain ⟨l1, l2, h1, _⟩ := List.lookup_eq_some_iff.1 hx
  exact h (i, x) (by rw [h1]; simp)

theorem L36 : (Lrows.all fun r => (tabGet 36 (seg3 r 1 6)).isSome) = true := by kernel_rfl
theorem N36 : (Ns.all fun r => (tabGet 36 r).isSome && (tabGet 38 r).isSome) = true := by kernel_rfl
theorem N38 : (Ns.all fun r => decide ((Φt 38 r).getD 1 0 ≠ 0) || decide (r = small)) = true := by kernel_rfl
theorem Lkinds : (Lrows.all fun r => decide (r.getD 0 0 = 0) || decide (r.getD 0 0 = 1) || decide (r.getD 0 0 = 2) || decide (r.getD 0 0 = 3) || decide (r.getD 0 0 = 4) && decide (seg3 r 1 6 = zs)) = true := by kernel_rfl
/-- All pairs of their numbers stand in Leq's table. -/
theorem L73 : (Lrows.all fun r => Lrows.all fun t => (tabGet 73 (seg3 r 1 6 ++ seg3 t 1 6)).isSome) = true := by kernel_rfl

theorem inL_all {f : List Int → Bool} (h : Lrows.all f = true) {r : List Int} (hr : inL r = true) : f r = true := List.all_eq_true.1 h r (by simpa [inL] using hr)
theorem inN_all {f : List Int → Bool} (h : Ns.all f = true) {r : List Int} (hr : inN r = true) : f r = true := List.all_eq_true.1 h r (by simpa [inN] using hr)
theorem seg3_seg3 {vs : List Int} {i n j k : Nat} (h : j + k ≤ n) : seg3 (seg3 vs i n) j k = seg3 vs (i + j) k := by
  unfold seg3
  rw [List.drop_take, List.drop_drop, List.take_take]
  congr 1
  omega
end Go.Sx.Vk

/- ValueKinds: Number, Touch, Add, Leq: the program's and the reference's tell the same. -/
namespace Go.Sx.Vk
open Go Go.Proofs
set_option maxRecDepth 1000000

theorem seg3_l {a b : List Int} {n : Nat} (h : a.length = n) : seg3 (a ++ b) 0 n = a := by subst h; simp [seg3]
theorem seg3_m {a b c : List Int} {i n : Nat} (ha : a.length = i) (hb : b.length = n) : seg3 (a ++ (b ++ c)) i n = b := by subst ha hb; simp [seg3]
theorem seg3_r {a b : List Int} {i n : Nat} (ha : a.length = i) (hb : b.length = n) : seg3 (a ++ b) i n = b := by subst ha hb; simp [seg3]

theorem dom8_L {r : List Int} (h : inL r = true) : O0.dom 8 r := (dom_Y rfl r).2 (inL_all L36 h)
theorem dom36_N {r : List Int} (h : inN r = true) : O0.dom 36 r := by
  have := inN_all N36 h
  simp only [Bool.and_eq_true] at this
  exact (dom_tab rfl r).2 this.1
theorem dom38_N {r : List Int} (h : inN r = true) : O0.dom 38 r := by
  have := inN_all N36 h
  simp only [Bool.and_eq_true] at this
  exact (dom_tab rfl r).2 this.2
theorem dom73_L {r t : List Int} (hr : inL r = true) (ht : inL t = true) : O0.dom 73 (seg3 r 1 6 ++ seg3 t 1 6) := by
  have h1 := inL_all L73 hr
  have h2 := inL_all (f := fun t => (tabGet 73 (seg3 r 1 6 ++ seg3 t 1 6)).isSome) h1 ht
  exact (dom_tab rfl _).2 h2

def a8 (m : List (Nat × Int)) (i : Nat) : E := .app .bool 8 (vM m ksAbs i) 0
def kindIs (i : Nat) (n : Int) : E := isN (.int .u8) (.var (.int .u8) i) n

noncomputable def K8 : Ctx := mkC [(8, c8)] (foldT [36])
noncomputable def K9 : Ctx := mkC [(9, c8)] (foldT [36])
noncomputable def K36 : Ctx := mkC [(36, c36)] (foldT [36])
noncomputable def K23 : Ctx := mkC [(23, c36)] (foldT [36])
theorem okK8 : CtxOk K8 Φ0 O0 := mkC_ok (by intro p hp; simp only [List.mem_cons, List.not_mem_nil, or_false] at hp; subst hp; exact con8 hr0) (foldT_ok rfl) (by kernel_rfl)
theorem okK9 : CtxOk K9 Φ0 O0 := mkC_ok (by intro p hp; simp only [List.mem_cons, List.not_mem_nil, or_false] at hp; subst hp; exact con9 hr0) (foldT_ok rfl) (by kernel_rfl)
theorem okK36 : CtxOk K36 Φ0 O0 := mkC_ok (by intro p hp; simp only [List.mem_cons, List.not_mem_nil, or_false] at hp; subst hp; exact con36) (foldT_ok rfl) (by kernel_rfl)
theorem okK23 : CtxOk K23 Φ0 O0 := mkC_ok (by intro p hp; simp only [List.mem_cons, List.not_mem_nil, or_false] at hp; subst hp; exact con23) (foldT_ok rfl) (by kernel_rfl)

/-! ### Number -/
def V30 : List Avail := [⟨36, vM [] ksNum 0, []⟩]
theorem eqv30 : eqv (fun (x : SV × List SO × Nat) => flatRes c30.res x.1) (fun (x : SV × List SO × Nat) => flatRes c30.res x.1) V30 [] 300 [] (call K36 400 0 30 (argsM [] c30.args) [] 6) (call K23 400 0 31 (argsM [] c30.args) [] 6) = true := by kernel_rfl
theorem con30 : ConOk Tryz.prog Φ0 O0 30 c30 ∧ ConOk Tryz.prog Φ0 O0 31 c30 :=
  pair_con (fun vs => rfl) fun vs hl hn hd => by
    have hY : inN (seg3 vs 0 6) = true := (dom_Y rfl vs).1 (hd rfl)
    refine pair_at (C := K36) (C' := K23) okK36 okK23 (ρ := fun i => vs.getD i 0) (fun n hρ => argsM_re (Fits.nil vs) hρ hl hn) (argsM_ok (by decide)) eqv30 ?_ (fun l hl => by simp at hl) (fun p hp => by simp at hp)
    intro v hv _
    simp only [V30, List.mem_singleton] at hv
    subst hv
    show O0.dom 36 _
    rw [denL_vM (Fits.nil vs) _ (all := kindsOf c30.args) hl hn (by decide) rfl]
    exact dom36_N hY

/-! ### Touch -/
def V13 : List Avail := [⟨8, vM [] ksAbs 0, []⟩]
def G13 : Known := [(a8 [] 0, true), (kindIs 0 4, true), (.var .bool 11, true)]
theorem eqv13 : eqv (fun (x : SV × List SO × Nat) => flatRes c13.res x.1) (fun (x : SV × List SO × Nat) => flatRes c13.res x.1) V13 [G13] 300 [] (call K8 400 0 13 (argsM [] c13.args) [] 18) (call K9 400 0 29 (argsM [] c13.args) [] 18) = true := by kernel_rfl
theorem never13 : (Lrows.all fun r => !(holdsB r G13) || false) = true := by kernel_rfl
theorem con13 : ConOk Tryz.prog Φ0 O0 13 c13 ∧ ConOk Tryz.prog Φ0 O0 29 c13 :=
  pair_con (fun vs => rfl) fun vs hl hn hd => by
    have hY : inL (seg3 vs 0 12) = true := (dom_Y rfl vs).1 (hd rfl)
    refine pair_at (C := K8) (C' := K9) okK8 okK9 (ρ := fun i => vs.getD i 0) (fun n hρ => argsM_re (Fits.nil vs) hρ hl hn) (argsM_ok (by decide)) eqv13 ?_ ?_ (fun p hp => by simp at hp)
    · intro v hv _
      simp only [V13, List.mem_singleton] at hv
      subst hv
      show O0.dom 8 _
      rw [denL_vM (Fits.nil vs) _ (all := kindsOf c13.args) hl hn (by decide) rfl]
      exact dom8_L hY
    · intro l hl hh
      simp only [List.mem_singleton] at hl
      subst hl
      have := rows_imp (n := 12) (q := fun _ => false) (by decide) hY never13 hh
      cases this

/-! ### Add -/
noncomputable def K11 : Ctx := mkC [(8, c8), (36, c36), (38, c38), (40, c40)] (foldT [36])
noncomputable def K28 : Ctx := mkC [(9, c8), (23, c36), (69, c38), (70, c40)] (foldT [36])
theorem okK11 : CtxOk K11 Φ0 O0 := mkC_ok (by
  intro p hp
  simp only [List.mem_cons, List.not_mem_nil, or_false] at hp
  rcases hp with rfl | rfl | rfl | rfl
  · exact con8 hr0
  · exact con36
  · exact con38
  · exact con40 hx0) (foldT_ok rfl) (by kernel_rfl)
theorem okK28 : CtxOk K28 Φ0 O0 := mkC_ok (by
  intro p hp
  simp only [List.mem_cons, List.not_mem_nil, or_false] at hp
  rcases hp with rfl | rfl | rfl | rfl
  · exact con9 hr0
  · exact con23
  · exact con69
  · exact con70 hx0) (foldT_ok rfl) (by kernel_rfl)
def G11 : Known := [(a8 [] 0, true), (kindIs 0 0, false), (kindIs 0 1, false)]
def one11 : E := .app .bool 38 (vM [] ksNum 12) 1
def lit40 : List (K × E) := [(.int .u8, .lit (.int .u8) 0), (.int .i16, .lit (.int .i16) 0), (.bool, .lit .bool 1)]
def V11 : List Avail := [⟨8, vM [] ksAbs 0, []⟩, ⟨36, vM [] ksNum 12, []⟩, ⟨38, vM [] ksNum 12, []⟩, ⟨40, lit40 ++ (vM [] ksNum 1 ++ vM [] ksNum 12), (one11, false) :: G11⟩]
theorem eqv11 : eqv (fun (x : SV × List SO × Nat) => flatRes c11.res x.1) (fun (x : SV × List SO × Nat) => flatRes c11.res x.1) V11 [] 300 [] (call K11 400 0 11 (argsM [] c11.args) [] 20) (call K28 400 0 28 (argsM [] c11.args) [] 20) = true := by kernel_rfl
theorem never11 : (Lrows.all fun r => !(holdsB r G11) || decide (seg3 r 1 6 = zs)) = true := by kernel_rfl
theorem con11 : ConOk Tryz.prog Φ0 O0 11 c11 ∧ ConOk Tryz.prog Φ0 O0 28 c11 :=
  pair_con (fun vs => rfl) fun vs hl hn hd => by
    have hY : inL (seg3 vs 0 12) = true ∧ inN (seg3 vs 12 6) = true := (dom_Y rfl vs).1 (hd rfl)
    refine pair_at (C := K11) (C' := K28) okK11 okK28 (ρ := fun i => vs.getD i 0) (fun n hρ => argsM_re (Fits.nil vs) hρ hl hn) (argsM_ok (by decide)) eqv11 ?_ (fun l hl => by simp at hl) (fun p hp => by simp at hp)
    have d12 : E.denL Φ0 (fun i => vs.getD i 0) (vM [] ksNum 12) = seg3 vs 12 6 := denL_vM (Fits.nil vs) _ (all := kindsOf c11.args) hl hn (by decide) rfl
    intro v hv hg
    simp only [V11, List.mem_cons, List.not_mem_nil, or_false] at hv
    rcases hv with rfl | rfl | rfl | rfl
    · show O0.dom 8 _
      rw [denL_vM (Fits.nil vs) _ (all := kindsOf c11.args) hl hn (by decide) rfl]
      exact dom8_L hY.1
    · show O0.dom 36 _
      rw [d12]
      exact dom36_N hY.2
    · show O0.dom 38 _
      rw [d12]
      exact dom38_N hY.2
    · show O0.dom 40 (E.denL Φ0 _ (lit40 ++ (vM [] ksNum 1 ++ vM [] ksNum 12)))
      rw [denL_append, denL_append, d12, denL_vM (Fits.nil vs) _ (all := kindsOf c11.args) (ks := ksNum) (i := 1) hl hn (by decide) rfl]
      have h1 := rows_imp (n := 12) (q := fun r => decide (seg3 r 1 6 = zs)) (by decide) hY.1 never11 (fun p hp => hg p (List.mem_cons_of_mem _ hp))
      have h2 := hg _ List.mem_cons_self
      have h3 := inN_all N38 hY.2
      simp only [one11, E.den, d12] at h2
      have h4 : Φ0 38 (seg3 vs 12 6) = Φt 38 (seg3 vs 12 6) := by rw [show Φ0 38 = Φt 38 from Φm_tab 38 rfl]
      rw [h4, norm_bool_ne] at h2
      simp only [decide_eq_true_eq, Bool.or_eq_true] at h1 h3
      have h5 : seg3 vs 12 6 = small := h3.resolve_left (by simpa using h2)
      have h6 : seg3 vs 1 6 = zs := by rw [← h1, seg3_seg3 (i := 0) (n := 12) (j := 1) (k := 6) (by decide)]
      show O0.dom 40 (_ ++ (seg3 vs 1 6 ++ seg3 vs 12 6))
      rw [h5, h6]
      exact (dom_tab rfl _).2 (by kernel_rfl)

/-! ### Leq -/
noncomputable def K32 : Ctx := mkC [(8, c8), (73, c73), (36, c36), (6, c6)] (foldT [36, 6])
noncomputable def K33 : Ctx := mkC [(9, c8), (105, c73), (23, c36), (67, c67)] (foldT [36, 67])
theorem okK32 : CtxOk K32 Φ0 O0 := mkC_ok (by
  intro p hp
  simp only [List.mem_cons, List.not_mem_nil, or_false] at hp
  rcases hp with rfl | rfl | rfl | rfl
  · exact con8 hr0
  · exact con73
  · exact con36
  · exact con6) (foldT_ok rfl) (by kernel_rfl)
theorem okK33 : CtxOk K33 Φ0 O0 := mkC_ok (by
  intro p hp
  simp only [List.mem_cons, List.not_mem_nil, or_false] at hp
  rcases hp with rfl | rfl | rfl | rfl
  · exact con9 hr0
  · exact con105
  · exact con23
  · exact con67) (foldT_ok rfl) (by kernel_rfl)
def V32 : List Avail := [⟨8, vM [] ksAbs 0, []⟩, ⟨8, vM [] ksAbs 12, []⟩, ⟨73, vM [] ksNum 1 ++ vM [] ksNum 13, []⟩]
theorem eqv32 : eqv (fun (x : SV × List SO × Nat) => flatRes c32.res x.1) (fun (x : SV × List SO × Nat) => flatRes c32.res x.1) V32 [] 300 [] (call K32 400 0 32 (argsM [] c32.args) [] 24) (call K33 400 0 33 (argsM [] c32.args) [] 24) = true := by kernel_rfl
theorem con32 : ConOk Tryz.prog Φ0 O0 32 c32 ∧ ConOk Tryz.prog Φ0 O0 33 c32 :=
  pair_con (fun vs => rfl) fun vs hl hn hd => by
    have hY : inL (seg3 vs 0 12) = true ∧ inL (seg3 vs 12 12) = true := (dom_Y rfl vs).1 (hd rfl)
    refine pair_at (C := K32) (C' := K33) okK32 okK33 (ρ := fun i => vs.getD i 0) (fun n hρ => argsM_re (Fits.nil vs) hρ hl hn) (argsM_ok (by decide)) eqv32 ?_ (fun l hl => by simp at hl) (fun p hp => by simp at hp)
    intro v hv hg
    simp only [V32, List.mem_cons, List.not_mem_nil, or_false] at hv
    rcases hv with rfl | rfl | rfl
    · show O0.dom 8 _
      rw [denL_vM (Fits.nil vs) _ (all := kindsOf c32.args) hl hn (by decide) rfl]
      exact dom8_L hY.1
    · show O0.dom 8 _
      rw [denL_vM (Fits.nil vs) _ (all := kindsOf c32.args) hl hn (by decide) rfl]
      exact dom8_L hY.2
    · show O0.dom 73 (E.denL Φ0 _ (vM [] ksNum 1 ++ vM [] ksNum 13))
      rw [denL_append, denL_vM (Fits.nil vs) _ (all := kindsOf c32.args) (ks := ksNum) (i := 1) hl hn (by decide) rfl, denL_vM (Fits.nil vs) _ (all := kindsOf c32.args) (ks := ksNum) (i := 13) hl hn (by decide) rfl]
      have := dom73_L hY.1 hY.2
      rw [seg3_seg3 (by decide), seg3_seg3 (by decide)] at this
      exact this
end Go.Sx.Vk
