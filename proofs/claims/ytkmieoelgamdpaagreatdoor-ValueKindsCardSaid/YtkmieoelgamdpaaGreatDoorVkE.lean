/-
  Contract of the reference's arith Do at the inputs in the table; no further condition.
-/
import Derived.Test.YtkmieoelgamdpaaGreatDoorVkB
import Derived.Test.YtkmieoelgamdpaaGreatDoorVkC
import Derived.Test.YtkmieoelgamdpaaGreatDoorVkD
import Derived.Test.YtkmieoelgamdpaaGreatDoorSxF
set_option linter.deprecated false
set_option linter.unusedVariables false
set_option linter.unusedSimpArgs false

/- ValueKinds: the reference's sums, arith.Do, at the inputs that are come to. -/
namespace Go.Sx.Vk
open Go Go.Proofs
set_option maxRecDepth 1000000
variable {X : Go.Sx.Spec} {Y : Nat → List Int → Prop} {inv : Nat → List Int → Prop} {mu : Nat → List Int → Nat}

def c215 : Con := cU 215 [vB, .one s64, vb] [vb]
theorem eqv215 : eqv (fun (x : SV × List SO × Nat) => flatRes c215.res x.1) (fun (_ : Unit) => some [(K.bool, e215)]) [] [] 300 [] (call (mkC [] fun _ _ => none) 400 0 215 (argsM [] c215.args) [] 4) (.leaf ()) = true := by kernel_rfl
theorem con215 (h : HX X Y) : ConOk Tryz.prog (Φm X) (Om Y inv mu) 215 c215 :=
  conOk_tells fun vs hl hn _ => by
    have := tells_leaf (C := mkC [] fun _ _ => none) (Φ := Φm X) (O := Om Y inv mu) (c := c215) leaf_ok (ρ := fun i => vs.getD i 0) (vs := vs) (fun n hρ => argsM_re (Fits.nil vs) hρ hl hn) (argsM_ok (by simp [c215, cU, kindsOf, VT.kinds, vB, vb])) eqv215
      (fun v hv => by simp at hv) (fun l hl => by simp at hl) (fun p hp => by simp at hp)
    have hX : (Φm X) c215.spec vs = E.denL (Φm X) (fun i => vs.getD i 0) [(.bool, e215)] := by
      show (if isTab 215 = true then Φt 215 vs else X 215 vs) = _
      rw [if_neg (by decide), h.x215 vs]
      exact E.denL_only (p := isTab) (fun s hs => (by funext vs; simp [Φm, hs])) _ rfl
    rw [hX]; exact this

def fold232 (s : Nat) (vs : List Int) : Option (List Int) := if s = 215 then some (E.denL Φt (fun i => vs.getD i 0) [(.bool, e215)]) else none
theorem fold232_ok (h : HX X Y) (s : Nat) (vs r : List Int) (hf : fold232 s vs = some r) : Φm X s vs = r ∧ (Om Y inv mu).dom s vs := by
  unfold fold232 at hf
  split at hf
  · rename_i hs; subst hs
    simp only [Option.some.injEq] at hf; subst hf
    exact ⟨h.x215 vs, h.y215 vs⟩
  · cases hf
def c232 : Con := cU 232 [vB, vB, vb] [vB]
/-! The 64 rounds of sums, in pieces. -/
noncomputable def K232 : Ctx := mkC [(215, c215)] fold232
theorem okK232 (h : HX X Y) : CtxOk K232 (Φm X) (Om Y inv mu) := mkC_ok (by intro p hp; simp at hp; subst hp; exact con215 h) (fold232_ok h) (by kernel_rfl)
noncomputable def code232 : Code := (Tryz.f232.body).getD .skip
noncomputable def loop232 : Code := inLoop (inBlk (sR (sL (sR (sR (sR code232))))))
noncomputable def rest232 : Code := sR (sR (sR (sR code232)))
theorem code232_eq : code232 = .seq (sL code232) (.seq (sL (sR code232)) (.seq (sL (sR (sR code232))) (.seq (.seq (sL (sL (sR (sR (sR code232))))) (.block 0 (.loop loop232))) rest232))) := by kernel_rfl
def w64 (n : Int) : SV := .int .u64 (.lit (.int .u64) n)
def i64 (n : Int) : SV := .int .i64 (.lit (.int .i64) n)
/-- Where round i begins. -/
def S232 (i : Nat) : St :=
  ⟨[none, none, some (.bool (.lit .bool 0)), some (.ptr 0 0), some (.ptr 1 0), none, some (.ptr 2 0), some (w64 ((2 ^ (Nat.min i 3) - 1 : Nat) : Int)), some (w64 ((2 ^ i - 1 : Nat) : Int)), some (.slice 3 0 2 (.kn 2)), some (i64 (i : Int))] ++ List.replicate 91 none,
   [.cells [w64 0, w64 0] 25, .cells [w64 0, w64 7] 25, .cells [w64 0, w64 0] 25, .cells [.bool (.lit .bool 1), .bool (.lit .bool 0)] 4], 0⟩
def start232 : St := { tmps := (litS c232.args [0, 0, 0, 7, 0] ++ List.replicate (102 - 3) undefS).map some, heap := [], nv := 0 }
noncomputable def A232 : St := runSt K232 400 232 (sL code232) start232
noncomputable def B232 : St := runSt K232 400 232 (sL (sR code232)) A232
noncomputable def D232 : St := runSt K232 400 232 (sL (sR (sR code232))) B232
noncomputable def F232 : St := runSt K232 400 232 (sL (sL (sR (sR (sR code232))))) D232
theorem a232 : runs K232 400 232 (sL code232) start232 = true := by kernel_rfl
theorem b232 : runs K232 400 232 (sL (sR code232)) A232 = true := by kernel_rfl
theorem d232 : runs K232 400 232 (sL (sR (sR code232))) B232 = true := by kernel_rfl
theorem f232 : runs K232 400 232 (sL (sL (sR (sR (sR code232))))) D232 = true := by kernel_rfl
theorem g232 : gcOk [3, 4, 6, 9] (S232 0) F232 = true := by kernel_rfl
noncomputable def step232 (i : Nat) : Bool := stepsTo K232 400 232 loop232 (S232 i) .norm [3, 4, 6, 9] (S232 (i + 1))
theorem steps232_0 : ((List.range' 0 8).all step232) = true := by kernel_rfl
theorem steps232_1 : ((List.range' 8 8).all step232) = true := by kernel_rfl
theorem steps232_2 : ((List.range' 16 8).all step232) = true := by kernel_rfl
theorem steps232_3 : ((List.range' 24 8).all step232) = true := by kernel_rfl
theorem steps232_4 : ((List.range' 32 8).all step232) = true := by kernel_rfl
theorem steps232_5 : ((List.range' 40 8).all step232) = true := by kernel_rfl
theorem steps232_6 : ((List.range' 48 8).all step232) = true := by kernel_rfl
theorem steps232_7 : ((List.range' 56 8).all step232) = true := by kernel_rfl
theorem steps232 (i : Nat) (h : i < 64) : step232 i = true := by
  have hm : i ∈ List.range' (8 * (i / 8)) 8 := by rw [List.mem_range'_1]; omega
  have hc : i / 8 = 0 ∨ i / 8 = 1 ∨ i / 8 = 2 ∨ i / 8 = 3 ∨ i / 8 = 4 ∨ i / 8 = 5 ∨ i / 8 = 6 ∨ i / 8 = 7 := by omega
  rcases hc with e | e | e | e | e | e | e | e <;> rw [e] at hm
  · exact List.all_eq_true.1 steps232_0 i hm
  · exact List.all_eq_true.1 steps232_1 i hm
  · exact List.all_eq_true.1 steps232_2 i hm
  · exact List.all_eq_true.1 steps232_3 i hm
  · exact List.all_eq_true.1 steps232_4 i hm
  · exact List.all_eq_true.1 steps232_5 i hm
  · exact List.all_eq_true.1 steps232_6 i hm
  · exact List.all_eq_true.1 steps232_7 i hm
theorem last232 : stepsTo K232 400 232 loop232 (S232 64) (.exit 0) [3, 4, 6, 9] (S232 64) = true := by kernel_rfl
theorem end232 : endsWith K232 400 232 rest232 (S232 64) Tryz.f232.results.toList = some [.agg [w64 0, w64 7]] := by kernel_rfl

theorem tells232 (h : HX X Y) : Tells Tryz.prog 232 c232 [0, 0, 0, 7, 0] [0, 7] := by
  intro w0
  have hre : ∀ n : En, SV.reL n (litS c232.args [0, 0, 0, 7, 0]) = valsV c232.args [0, 0, 0, 7, 0] := by
    intro n
    unfold litS
    rw [resAll_re (g := fun i => ([0, 0, 0, 7, 0] : List Int).getD i 0) (fun k i => by simp [E.den, norm_norm])]
    rfl
  have hbody : ∀ a, Has (Φm X) w0 start232 a w0 → code232.wpIn (fenAt none) 0 Tryz.prog (fun e a' w' => ∃ S, e = .ret ∧ Has (Φm X) w0 S a' w' ∧ resultsS Tryz.prog Tryz.f232.results.toList S S.heap = some [.agg [w64 0, w64 7]]) a w0 := by
    intro a H
    have ok := okK232 (X := X) (Y := Y) (inv := fun _ _ => True) (mu := fun _ _ => 0) h
    rw [code232_eq]
    refine has_seq (has_run ok a232 H) fun a w H => ?_
    refine has_seq (has_run ok b232 H) fun a w H => ?_
    refine has_seq (has_run ok d232 H) fun a w H => ?_
    refine has_seq (Φ := Φm X) (w0 := w0) (S' := S232 64) (has_seq (has_run ok f232 H) fun a w H => ?_) fun a w H => ?_
    · refine has_loop (N := 64) (S := S232) (SE := S232 64) ?_ ?_ (H.gc g232)
      · intro i hi a w H
        exact has_step ok (steps232 i hi) H
      · intro a w H
        exact has_step ok last232 H
    · exact has_end ok end232 H
  have := calls_body (fn := Tryz.f232) (b := code232) (Φ := Φm X) (args := litS c232.args [0, 0, 0, 7, 0]) (vs := [.agg [w64 0, w64 7]]) (rv := valsV c232.res (fitted (kindsOf c232.res) [0, 7])) Tryz.func232 (by kernel_rfl) (resAll_ok (fun k i => rfl) _ _) hre (fun n => rfl) w0 hbody
  exact this
theorem con232 (h : HX X Y) : ConOk Tryz.prog (Φm X) (Om Y inv mu) 232 c232 :=
  conOk_tells fun vs hl hn hd => by
    obtain ⟨r, hr, hΦ⟩ := (tabled (X := X) (Y := Y) (inv := inv) (mu := mu) (s := 232) rfl).dom vs (hd rfl)
    have : (vs, r) = ([0, 0, 0, 7, 0], [0, 7]) := List.mem_singleton.1 hr
    simp only [Prod.mk.injEq] at this
    obtain ⟨rfl, rfl⟩ := this
    rw [show Φm X c232.spec [0, 0, 0, 7, 0] = [0, 7] from hΦ]
    exact tells232 h

/-- The reference's Alu at what is asked. -/
theorem con100 (h : HX X Y) : ConOk Tryz.prog (Φm X) (Om Y inv mu) 100 c80 :=
  con_tab (tab := [([0, 0, 1, 0, 0], [0, 1])]) (fuel := 400) leaf_ok rfl (fun vs hd => by
    have hd' : Y 80 vs := hd
    have := (h.y80 vs).1 hd'
    subst this
    exact ⟨[0, 1], by simp, h.x80⟩) (by kernel_rfl)

def fold70 (s : Nat) (vs : List Int) : Option (List Int) := if s = 80 then (if vs = [0, 0, 1, 0, 0] then some [0, 1] else none) else foldT [36, 38, 67, 232] s vs
theorem fold70_ok (h : HX X Y) (s : Nat) (vs r : List Int) (hf : fold70 s vs = some r) : Φm X s vs = r ∧ (Om Y inv mu).dom s vs := by
  unfold fold70 at hf
  split at hf
  · rename_i hs; subst hs
    split at hf
    · rename_i hv; subst hv
      simp only [Option.some.injEq] at hf; subst hf
      exact ⟨h.x80, (h.y80 _).2 rfl⟩
    · cases hf
  · exact foldT_ok rfl s vs r hf

noncomputable def C70 : Ctx := mkC [(23, c36), (69, c38), (67, c67), (232, c232), (100, c80)] fold70
theorem con70 (h : HX X Y) : ConOk Tryz.prog (Φm X) (Om Y inv mu) 70 c40 :=
  con_tab (C := C70) (tab := tabOf 40) (fuel := 400) (mkC_ok (by
    intro p hp
    simp only [List.mem_cons, List.not_mem_nil, or_false] at hp
    rcases hp with rfl | rfl | rfl | rfl | rfl
    · exact con23
    · exact con69
    · exact con67
    · exact con232 h
    · exact con100 h) (fold70_ok h) (by kernel_rfl)) rfl (tabled rfl).dom (by kernel_rfl)
end Go.Sx.Vk
