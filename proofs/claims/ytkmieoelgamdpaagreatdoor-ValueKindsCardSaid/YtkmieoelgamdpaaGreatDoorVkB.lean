/-
  Contracts of Of, Right, One, Leq and of the reference's Range, together, Right, at the inputs in the tables; no further condition.
-/
import Derived.Test.YtkmieoelgamdpaaGreatDoorVkA
set_option linter.deprecated false
set_option linter.unusedVariables false
set_option linter.unusedSimpArgs false

/- ValueKinds: the reference's Range, by a tree whose loop is summed up. -/
namespace Go.Sx.Vk
open Go Go.Proofs
set_option maxRecDepth 1000000
variable {X : Go.Sx.Spec} {Y : Nat → List Int → Prop} {inv : Nat → List Int → Prop} {mu : Nat → List Int → Nat}

def c98 : Con := cU 98 [.one u, .one u] [vB]
def ann98 : LoopAnn := { cur := 98, block := 0, size := 2, base := 100, places := [(s64, .tmp 6)], forget := (List.range 36).drop 14, dead := [] }
noncomputable def C98 : Ctx := mkC [] (fun _ _ => none) [ann98]
noncomputable def t98 : T (SV × List SO × Nat) := call C98 400 0 98 (argsS c98.args 0) [] 2
theorem con98 : ConOk Tryz.prog (Φm X) (Om Y inv mu) 98 c98 :=
  con_tab_nums (N := 70) (t := t98) (can := canT) (fuel := 400) (mkC_ok (by simp) (by simp) (by kernel_rfl)) canT_ok rfl rfl (tab := tabOf 98) (tabled rfl).dom (by kernel_rfl)
end Go.Sx.Vk

/- ValueKinds: Of and Right, by trees. -/
namespace Go.Sx.Vk
open Go Go.Proofs
set_option maxRecDepth 1000000

def ann6 : LoopAnn := { cur := 18, block := 0, size := 5, base := 100, places := [(u, .cell 3 0), (u, .cell 3 1), (u, .cell 3 2), (u, .cell 3 3), (s64, .cell 3 4), (s64, .cell 3 5)], forget := [3, 4, 5, 6, 7, 8, 9, 10, 11, 12, 13, 14, 15, 16, 17, 18, 19, 20], dead := [] }

def cs6 : List (Nat × Con) := [(16, cU 16 [vB] [vb]), (17, cU 17 [vS] [vb]), (89, cU 89 [vB, vB] [vB, vb]), (90, cU 90 [.one u, .one u] [vB])]
noncomputable def C6 : Ctx := mkC cs6 (fun _ _ => none) [ann6]
def c6 : Con := cU 6 [vB, vS] [cNum, vb]
noncomputable def t6 : T (SV × List SO × Nat) := call C6 400 0 6 (argsS c6.args 0) [] 6

variable {X : Go.Sx.Spec} {Y : Nat → List Int → Prop} {inv : Nat → List Int → Prop} {mu : Nat → List Int → Nat}

theorem ok6 : CtxOk C6 (Φm X) (Om Y inv mu) :=
  mkC_ok (by
    intro p hp
    simp only [cs6, List.mem_cons, List.not_mem_nil, or_false] at hp
    rcases hp with rfl | rfl | rfl | rfl
    · exact con16 (tabled rfl)
    · exact con17 (tabled rfl)
    · exact con89 (tabled rfl)
    · exact con90 (tabled rfl)) (by simp) (by kernel_rfl)

theorem con6 : ConOk Tryz.prog (Φm X) (Om Y inv mu) 6 c6 :=
  con_tab_nums (N := 20) (t := t6) (can := canT) (fuel := 400) ok6 canT_ok rfl rfl (tab := tabOf 6) (tabled rfl).dom (by kernel_rfl)

noncomputable def C36 : Ctx := mkC [(6, c6)] (fun _ _ => none)
def c36 : Con := cU 36 [cNum] [vb]
noncomputable def t36 : T (SV × List SO × Nat) := call C36 400 0 36 (argsS c36.args 0) [] 6

theorem con36 : ConOk Tryz.prog (Φm X) (Om Y inv mu) 36 c36 :=
  con_tab_nums (N := 1) (t := t36) (can := canT) (fuel := 400) (mkC_ok (by intro p hp; simp at hp; subst hp; exact con6) (by simp) (by kernel_rfl)) canT_ok rfl rfl (tab := tabOf 36) (tabled rfl).dom (by kernel_rfl)
end Go.Sx.Vk

/- ValueKinds: the reference's together and Right, by trees. -/
namespace Go.Sx.Vk
open Go Go.Proofs
set_option maxRecDepth 1000000

def ann67 : LoopAnn := { cur := 67, block := 0, size := 3, base := 100, places := [(u, .cell 0 0), (u, .cell 0 1), (u, .cell 1 0), (u, .cell 1 1), (s64, .cell 1 2), (s64, .cell 1 3)], forget := (List.range 118).drop 6, dead := [] }

def cs67 : List (Nat × Con) := [(95, cU 95 [vB] [vb]), (96, cU 96 [vS] [vb]), (97, cU 97 [vB, vB] [vB, vb]), (98, c98)]
noncomputable def C67 : Ctx := mkC cs67 (fun _ _ => none) [ann67]
def c67 : Con := cU 67 [vB, vS] [cNum, vb]
noncomputable def t67 : T (SV × List SO × Nat) := call C67 400 0 67 (argsS c67.args 0) [] 6

variable {X : Go.Sx.Spec} {Y : Nat → List Int → Prop} {inv : Nat → List Int → Prop} {mu : Nat → List Int → Nat}

theorem ok67 : CtxOk C67 (Φm X) (Om Y inv mu) :=
  mkC_ok (by
    intro p hp
    simp only [cs67, List.mem_cons, List.not_mem_nil, or_false] at hp
    rcases hp with rfl | rfl | rfl | rfl
    · exact con95 (tabled rfl)
    · exact con96 (tabled rfl)
    · exact con97 (tabled rfl)
    · exact con98) (by simp) (by kernel_rfl)

theorem con67 : ConOk Tryz.prog (Φm X) (Om Y inv mu) 67 c67 :=
  con_tab_nums (N := 20) (t := t67) (can := canT) (fuel := 400) ok67 canT_ok rfl rfl (tab := tabOf 67) (tabled rfl).dom (by kernel_rfl)

noncomputable def C23 : Ctx := mkC [(67, c67)] (fun _ _ => none)
noncomputable def t23 : T (SV × List SO × Nat) := call C23 400 0 23 (argsS c36.args 0) [] 6

theorem con23 : ConOk Tryz.prog (Φm X) (Om Y inv mu) 23 c36 :=
  con_tab_nums (N := 1) (t := t23) (can := canT) (fuel := 400) (mkC_ok (by intro p hp; simp at hp; subst hp; exact con67) (by simp) (by kernel_rfl)) canT_ok rfl rfl (tab := tabOf 36) (tabled rfl).dom (by kernel_rfl)
end Go.Sx.Vk

/- ValueKinds: One by a tree. -/
namespace Go.Sx.Vk
open Go Go.Proofs
set_option maxRecDepth 1000000
variable {X : Go.Sx.Spec} {Y : Nat → List Int → Prop} {inv : Nat → List Int → Prop} {mu : Nat → List Int → Nat}

noncomputable def C38 : Ctx := mkC [(36, c36)] (fun _ _ => none)
def c38 : Con := cU 38 [cNum] [.one u, vb]
noncomputable def t38 : T (SV × List SO × Nat) := call C38 400 0 38 (argsS c38.args 0) [] 6
theorem con38 : ConOk Tryz.prog (Φm X) (Om Y inv mu) 38 c38 :=
  con_tab_nums (N := 1) (t := t38) (can := canT) (fuel := 400) (mkC_ok (by intro p hp; simp at hp; subst hp; exact con36) (by simp) (by kernel_rfl)) canT_ok rfl rfl (tab := tabOf 38) (tabled rfl).dom (by kernel_rfl)
end Go.Sx.Vk

/- ValueKinds: scalar.Leq by a table. -/
namespace Go.Sx.Vk
open Go Go.Proofs
set_option maxRecDepth 1000000
variable {X : Go.Sx.Spec} {Y : Nat → List Int → Prop} {inv : Nat → List Int → Prop} {mu : Nat → List Int → Nat}

/-- What a table tells is told without asking. -/
def foldT (l : List Nat) (s : Nat) (vs : List Int) : Option (List Int) := if l.contains s = true then tabGet s vs else none

theorem foldT_ok {l : List Nat} (hl : l.all isTab = true) (s : Nat) (vs r : List Int) (h : foldT l s vs = some r) : Φm X s vs = r ∧ (Om Y inv mu).dom s vs := by
  unfold foldT at h
  split at h
  · rename_i hc
    have ht := List.all_eq_true.1 hl s (by simpa using hc)
    simp [Φm, Om, ht, Φt, h]
  · cases h

def c73 : Con := cU 73 [cNum, cNum] [vb]
noncomputable def C73 : Ctx := mkC [(36, c36), (90, cU 90 [.one u, .one u] [vB])] (foldT [36, 90])
theorem ok73 : CtxOk C73 (Φm X) (Om Y inv mu) :=
  mkC_ok (by
    intro p hp
    simp only [List.mem_cons, List.not_mem_nil, or_false] at hp
    rcases hp with rfl | rfl
    · exact con36
    · exact con90 (tabled rfl)) (foldT_ok rfl) (by kernel_rfl)
theorem con73 : ConOk Tryz.prog (Φm X) (Om Y inv mu) 73 c73 :=
  con_tab (tab := tabOf 73) (fuel := 400) ok73 rfl (tabled rfl).dom (by kernel_rfl)
end Go.Sx.Vk
