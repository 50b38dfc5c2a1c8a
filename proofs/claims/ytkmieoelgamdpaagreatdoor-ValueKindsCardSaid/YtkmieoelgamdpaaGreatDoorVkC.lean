/-
  Contracts of word.Alu and arith.Do at the inputs in the tables; no further condition.
-/
import Derived.Test.YtkmieoelgamdpaaGreatDoorVkB
set_option linter.deprecated false
set_option linter.unusedVariables false
set_option linter.unusedSimpArgs false

/- ValueKinds: word.Alu, arith.Do at the inputs that are come to. -/
namespace Go.Sx.Vk
open Go Go.Proofs
set_option maxRecDepth 1000000
variable {X : Go.Sx.Spec} {Y : Nat → List Int → Prop} {inv : Nat → List Int → Prop} {mu : Nat → List Int → Nat}

/-- May bit i of a tnum be so? -/
def bitE (w : E) : E := .cmp .eql u (.bin .and .u64 .u64 (.bin .shr .u64 .u64 w (.conv .u64 .i64 (.var s64 2))) (.lit u 1)) (.lit u 1)
def e215 : E := .ite .bool (bitE (.var u 1)) (.lit .bool 1) (.cmp .eql .bool (bitE (.var u 0)) (.var .bool 3))

/-- What is asked of the specs that are told by no table here. -/
structure HX (X : Go.Sx.Spec) (Y : Nat → List Int → Prop) : Prop where
  y80 : ∀ vs, Y 80 vs ↔ vs = [0, 0, 1, 0, 0]
  x80 : X 80 [0, 0, 1, 0, 0] = [0, 1]
  y215 : ∀ vs, Y 215 vs
  x215 : ∀ vs, X 215 vs = E.denL Φt (fun i => vs.getD i 0) [(.bool, e215)]

def c80 : Con := cU 80 [.one (.int .u8), .one (.int .i16), vb, .one u, .one u] [.one u, vb]
theorem con80 (h : HX X Y) : ConOk Tryz.prog (Φm X) (Om Y inv mu) 80 c80 :=
  con_tab (tab := [([0, 0, 1, 0, 0], [0, 1])]) (fuel := 400) leaf_ok rfl (fun vs hd => by
    have hd' : Y 80 vs := hd
    have := (h.y80 vs).1 hd'
    subst this
    exact ⟨[0, 1], by simp, h.x80⟩) (by kernel_rfl)

def fold40 (s : Nat) (vs : List Int) : Option (List Int) := if s = 80 then (if vs = [0, 0, 1, 0, 0] then some [0, 1] else none) else foldT [36, 38, 90] s vs
theorem fold40_ok (h : HX X Y) (s : Nat) (vs r : List Int) (hf : fold40 s vs = some r) : Φm X s vs = r ∧ (Om Y inv mu).dom s vs := by
  unfold fold40 at hf
  split at hf
  · rename_i hs; subst hs
    split at hf
    · rename_i hv; subst hv
      simp only [Option.some.injEq] at hf; subst hf
      exact ⟨h.x80, (h.y80 _).2 rfl⟩
    · cases hf
  · exact foldT_ok rfl s vs r hf

def c40 : Con := cU 40 [.one (.int .u8), .one (.int .i16), vb, cNum, cNum] [cNum, vb]
noncomputable def C40 : Ctx := mkC [(36, c36), (38, c38), (90, cU 90 [.one u, .one u] [vB]), (80, c80)] fold40
theorem ok40 (h : HX X Y) : CtxOk C40 (Φm X) (Om Y inv mu) :=
  mkC_ok (by
    intro p hp
    simp only [List.mem_cons, List.not_mem_nil, or_false] at hp
    rcases hp with rfl | rfl | rfl | rfl
    · exact con36
    · exact con38
    · exact con90 (tabled rfl)
    · exact con80 h) (fold40_ok h) (by kernel_rfl)
theorem con40 (h : HX X Y) : ConOk Tryz.prog (Φm X) (Om Y inv mu) 40 c40 :=
  con_tab (tab := tabOf 40) (fuel := 400) (ok40 h) rfl (tabled rfl).dom (by kernel_rfl)
def c140 : Con := cU 140 [.one (.int .u8), .one (.int .i16), vb, cNum, cNum] [cNum, vb]
theorem con140 (h : HX X Y) : ConOk Tryz.prog (Φm X) (Om Y inv mu) 40 c140 :=
  con_tab (tab := tabOf 140) (fuel := 400) (ok40 h) rfl (tabled rfl).dom (by kernel_rfl)
end Go.Sx.Vk
