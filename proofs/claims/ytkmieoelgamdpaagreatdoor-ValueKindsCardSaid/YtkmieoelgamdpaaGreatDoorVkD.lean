/-
  Contracts of the reference's One, Unknown, Leq at the inputs in the tables, and what value.Right and the reference's Right tell; where the number in it stands in the table.
-/
import Derived.Test.YtkmieoelgamdpaaGreatDoorVkB
import Derived.Test.YtkmieoelgamdpaaGreatDoorSxF
set_option linter.deprecated false
set_option linter.unusedVariables false
set_option linter.unusedSimpArgs false

/- ValueKinds: the reference's One and Unknown. -/
namespace Go.Sx.Vk
open Go Go.Proofs
set_option maxRecDepth 1000000
variable {X : Go.Sx.Spec} {Y : Nat → List Int → Prop} {inv : Nat → List Int → Prop} {mu : Nat → List Int → Nat}

def c38' : Con := cU 38 [cNum] [.one u, vb]
noncomputable def C69 : Ctx := mkC [(23, c36)] (fun _ _ => none)
noncomputable def t69 : T (SV × List SO × Nat) := call C69 400 0 69 (argsS c38'.args 0) [] 6
theorem con69 : ConOk Tryz.prog (Φm X) (Om Y inv mu) 69 c38' :=
  con_tab_nums (N := 1) (t := t69) (can := canT) (fuel := 400) (mkC_ok (by intro p hp; simp at hp; subst hp; exact con23) (by simp) (by kernel_rfl)) canT_ok rfl rfl (tab := tabOf 38) (tabled rfl).dom (by kernel_rfl)

def c78 : Con := cU 78 [] [cNum]
theorem con78 : ConOk Tryz.prog (Φm X) (Om Y inv mu) 78 c78 :=
  con_tab (C := mkC [] (fun _ _ => none)) (tab := tabOf 78) (fuel := 400) leaf_ok rfl (tabled rfl).dom (by kernel_rfl)
end Go.Sx.Vk

/- ValueKinds: the reference's Leq of tnums, spans, scalars, by trees. -/
namespace Go.Sx.Vk
open Go Go.Proofs
set_option maxRecDepth 1000000
variable {X : Go.Sx.Spec} {Y : Nat → List Int → Prop} {inv : Nat → List Int → Prop} {mu : Nat → List Int → Nat}

def c136 : Con := cU 136 [vB, vB] [vb]
def ann136 : LoopAnn := { cur := 136, block := 0, size := 2, base := 100, places := [(s64, .tmp 5)], forget := (List.range 38).drop 6, dead := [] }
noncomputable def C136 : Ctx := mkC [(95, cU 95 [vB] [vb])] (fun _ _ => none) [ann136]
noncomputable def t136 : T (SV × List SO × Nat) := call C136 400 0 136 (argsS c136.args 0) [] 4
theorem con136 : ConOk Tryz.prog (Φm X) (Om Y inv mu) 136 c136 :=
  con_tab_nums (N := 70) (t := t136) (can := canT) (fuel := 400) (mkC_ok (by intro p hp; simp at hp; subst hp; exact con95 (tabled rfl)) (by simp) (by kernel_rfl)) canT_ok rfl rfl (tab := tabOf 136) (tabled rfl).dom (by kernel_rfl)

def c137 : Con := cU 137 [vS, vS] [vb]
noncomputable def C137 : Ctx := mkC [(96, cU 96 [vS] [vb])] (fun _ _ => none)
noncomputable def t137 : T (SV × List SO × Nat) := call C137 400 0 137 (argsS c137.args 0) [] 8
theorem con137 : ConOk Tryz.prog (Φm X) (Om Y inv mu) 137 c137 :=
  con_tab_nums (N := 1) (t := t137) (can := canT) (fuel := 400) (mkC_ok (by intro p hp; simp at hp; subst hp; exact con96 (tabled rfl)) (by simp) (by kernel_rfl)) canT_ok rfl rfl (tab := tabOf 137) (tabled rfl).dom (by kernel_rfl)

noncomputable def C105 : Ctx := mkC [(23, c36), (136, c136), (137, c137)] (fun _ _ => none)
noncomputable def t105 : T (SV × List SO × Nat) := call C105 400 0 105 (argsS (cU 73 [cNum, cNum] [vb]).args 0) [] 12
theorem con105 : ConOk Tryz.prog (Φm X) (Om Y inv mu) 105 (cU 73 [cNum, cNum] [vb]) :=
  con_tab_nums (N := 1) (t := t105) (can := canT) (fuel := 400) (mkC_ok (by
    intro p hp
    simp only [List.mem_cons, List.not_mem_nil, or_false] at hp
    rcases hp with rfl | rfl | rfl
    · exact con23
    · exact con136
    · exact con137) (by simp) (by kernel_rfl)) canT_ok rfl rfl (tab := tabOf 73) (tabled rfl).dom (by kernel_rfl)
end Go.Sx.Vk

/- ValueKinds: Right, the program's and the reference's: what both tell, as one expression. -/
namespace Go.Sx.Vk
open Go Go.Proofs
set_option maxRecDepth 1000000
variable {X : Go.Sx.Spec} {Y : Nat → List Int → Prop} {inv : Nat → List Int → Prop} {mu : Nat → List Int → Nat}

def c68 : Con := cU 68 [.one u] [cNum]
theorem con68 : ConOk Tryz.prog (Φm X) (Om Y inv mu) 68 c68 :=
  con_tab (C := mkC [(67, c67)] (foldT [67])) (tab := tabOf 68) (fuel := 400) (mkC_ok (by intro p hp; simp at hp; subst hp; exact con67) (foldT_ok rfl) (by kernel_rfl)) rfl (tabled rfl).dom (by kernel_rfl)

noncomputable def C8 : Ctx := mkC [(36, c36)] (foldT [36])
noncomputable def C9 : Ctx := mkC [(23, c36), (68, c68)] (foldT [68])

theorem ok8 : CtxOk C8 (Φm X) (Om Y inv mu) :=
  mkC_ok (by intro p hp; simp only [List.mem_cons, List.not_mem_nil, or_false] at hp; subst hp; exact con36) (foldT_ok rfl) (by kernel_rfl)
theorem ok9 : CtxOk C9 (Φm X) (Om Y inv mu) :=
  mkC_ok (by
    intro p hp
    simp only [List.mem_cons, List.not_mem_nil, or_false] at hp
    rcases hp with rfl | rfl
    · exact con23
    · exact con68) (foldT_ok rfl) (by kernel_rfl)

def land (a b : E) : E := .ite .bool a b (.lit .bool 0)
def lor (a b : E) : E := .ite .bool a (.lit .bool 1) b
def lands : List E → E
  | [] => .lit .bool 1
  | [a] => a
  | a :: r => land a (lands r)
def isN (k : K) (e : E) (n : Int) : E := .cmp .eql k e (.lit k n)
def geN (e : E) (n : Int) : E := .not (.cmp .lss s64 e (.lit s64 n))
def leN (e : E) (n : Int) : E := .not (.cmp .lss s64 (.lit s64 n) e)
/-- What Right tells. -/
def e8 : E :=
  let kind : Int → E := fun n => isN (.int .u8) (.var (.int .u8) 0) n
  let off : E := .var s64 7
  let mp : E := .var s64 8
  let id : E := .var s64 9
  let room : E := .var s64 10
  let orn : E := .var .bool 11
  let zn : E := lands [isN u (.var u 1) 0, isN u (.var u 2) 0, isN u (.var u 3) 0, isN u (.var u 4) 0, isN s64 (.var s64 5) 0, isN s64 (.var s64 6) 0]
  let r36 : E := .app .bool 36 (vM [] ksNum 1) 0
  let near : E := land (geN off (-536870912)) (leN off 536870912)
  let added : E := lands [r36, .not (.cmp .lss u (.lit u 1048576) (.var u 4)), geN (.var s64 5) 0]
  let nul : E := .ite .bool orn (lands [isN s64 off 0, zn, geN id 1]) (isN s64 id 0)
  let z : E → E := fun e => isN s64 e 0
  .ite .bool (lor (kind 0) (kind 5)) (lands [zn, z off, z mp, z id, z room, .not orn])
  (.ite .bool (kind 1) (lands [r36, z off, z mp, z id, z room, .not orn])
  (.ite .bool (lor (kind 2) (kind 3)) (lands [near, zn, z mp, z id, z room, .not orn])
  (.ite .bool (kind 4) (lands [near, added, lor (geN id 1) (land (z id) zn), geN room 0, leN room 4096, z mp, .not orn])
  (.ite .bool (kind 6) (lands [geN mp 0, leN mp 31, zn, z off, z id, z room, .not orn])
  (.ite .bool (kind 7) (lands [near, added, geN mp 0, leN mp 31, nul, z room])
  (.ite .bool (kind 8) (lands [near, added, geN room 1, leN room 1024, nul, z mp])
  (.lit .bool 0)))))))

theorem eqv8 : eqv (fun (x : SV × List SO × Nat) => flatRes c8.res x.1) (fun (_ : Unit) => some [(K.bool, e8)]) [⟨36, vM [] ksNum 1, []⟩] [] 300 [] (call C8 400 0 8 (argsM [] c8.args) [] 12) (.leaf ()) = true := by kernel_rfl
theorem eqv9 : eqv (fun (x : SV × List SO × Nat) => flatRes c8.res x.1) (fun (_ : Unit) => some [(K.bool, e8)]) [⟨36, vM [] ksNum 1, []⟩] [] 300 [] (call C9 400 0 9 (argsM [] c8.args) [] 12) (.leaf ()) = true := by kernel_rfl

/-- What is asked of Right's spec. -/
structure HR8 (X : Go.Sx.Spec) (Y : Nat → List Int → Prop) : Prop where
  y : ∀ vs, Y 8 vs → (tabGet 36 (seg3 vs 1 6)).isSome = true
  x : ∀ vs, X 8 vs = E.denL Φt (fun i => vs.getD i 0) [(.bool, e8)]

theorem Φm_tab (s : Nat) (h : isTab s = true) : Φm X s = Φt s := by funext vs; simp [Φm, h]
theorem dom_tab {s : Nat} (h : isTab s = true) (vs : List Int) : (Om Y inv mu).dom s vs ↔ (tabGet s vs).isSome = true := by simp [Om, h]
theorem dom_Y {s : Nat} (h : isTab s = false) (vs : List Int) : (Om Y inv mu).dom s vs ↔ Y s vs := by simp [Om, h]
theorem Φm_X {s : Nat} (h : isTab s = false) (vs : List Int) : Φm X s vs = X s vs := by simp [Φm, h]

theorem avail8 (h : HR8 X Y) (vs : List Int) (hl : vs.length = (kindsOf c8.args).length) (hn : normL (kindsOf c8.args) vs = vs) (hd : (Om Y inv mu).dom 8 vs) :
    AvailOk (Φm X) (fun i => vs.getD i 0) (Om Y inv mu) [⟨36, vM [] ksNum 1, []⟩] := by
  intro v hv _
  simp only [List.mem_singleton] at hv
  subst hv
  show (Om Y inv mu).dom 36 _
  rw [dom_tab rfl, denL_vM (Fits.nil vs) _ (all := ksAbs) hl hn (by decide) rfl]
  exact h.y vs ((dom_Y rfl vs).1 hd)

theorem tells8 (h : HR8 X Y) (vs : List Int) : E.denL (Φm X) (fun i => vs.getD i 0) [(.bool, e8)] = Φm X c8.spec vs := by
  show _ = Φm X 8 vs
  rw [Φm_X rfl, h.x vs]
  exact E.denL_only (p := isTab) Φm_tab _ rfl

theorem con8 (h : HR8 X Y) : ConOk Tryz.prog (Φm X) (Om Y inv mu) 8 c8 :=
  conOk_tells fun vs hl hn hd => tells8 h vs ▸ tells_leaf (C := C8) ok8 (ρ := fun i => vs.getD i 0) (fun n hρ => argsM_re (Fits.nil vs) hρ hl hn) (argsM_ok (by decide)) eqv8 (avail8 h vs hl hn (hd rfl)) (fun l hl => by simp at hl) (fun p hp => by simp at hp)
theorem con9 (h : HR8 X Y) : ConOk Tryz.prog (Φm X) (Om Y inv mu) 9 c8 :=
  conOk_tells fun vs hl hn hd => tells8 h vs ▸ tells_leaf (C := C9) ok9 (ρ := fun i => vs.getD i 0) (fun n hρ => argsM_re (Fits.nil vs) hρ hl hn) (argsM_ok (by decide)) eqv9 (avail8 h vs hl hn (hd rfl)) (fun l hl => by simp at hl) (fun p hp => by simp at hp)

/-- Right is told where it is asked of what is told. -/
def fold8 (vs : List Int) : Option (List Int) := if (tabGet 36 (seg3 vs 1 6)).isSome = true then some (E.denL Φt (fun i => vs.getD i 0) [(.bool, e8)]) else none
end Go.Sx.Vk
