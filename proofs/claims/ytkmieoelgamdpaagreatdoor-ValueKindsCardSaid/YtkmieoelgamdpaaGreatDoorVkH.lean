/-
  The frame of ValueKinds: its states, its second loops, and the rounds of its first that add no value; no condition.
-/
import Derived.Test.YtkmieoelgamdpaaGreatDoorVkG
import Derived.Test.YtkmieoelgamdpaaGreatDoorSxF
set_option linter.deprecated false
set_option linter.unusedVariables false
set_option linter.unusedSimpArgs false

/- ValueKinds: the states of its frame; the first loops. -/
namespace Go.Sx.Vk
open Go Go.Proofs
set_option maxRecDepth 1000000

/-! ### What is known -/
def fold3 (s : Nat) (vs : List Int) : Option (List Int) := if s = 8 then fold8 vs else if s = 4 then some [1] else if s = 200 then some (Lrows.getD (vs.headD 0).toNat []) else if s = 201 then some (parts.getD (vs.headD 0).toNat []) else foldT [6] s vs
theorem fold3_ok (s : Nat) (vs r : List Int) (h : fold3 s vs = some r) : Φ0 s vs = r ∧ O0.dom s vs := by
  unfold fold3 at h
  split at h
  · rename_i hs; subst hs; exact fold8_ok h
  · split at h
    · rename_i hs; subst hs
      simp only [Option.some.injEq] at h; subst h
      exact ⟨rfl, (dom_Y rfl vs).2 trivial⟩
    · split at h
      · rename_i hs; subst hs
        simp only [Option.some.injEq] at h; subst h
        exact ⟨rfl, (dom_Y rfl vs).2 trivial⟩
      · split at h
        · rename_i hs; subst hs
          simp only [Option.some.injEq] at h; subst h
          exact ⟨rfl, (dom_Y rfl vs).2 trivial⟩
        · exact foldT_ok rfl s vs r h

def rowS (r : List Int) : List SV := resCells (fun k i => .lit k (r.getD i 0)) ksAbs 0
def numS (r : List Int) : List SV := resCells (fun k i => .lit k (r.getD i 0)) ksNum 0
/-- Where round k of the outer loop begins; c: how many values there are. -/
def S3c (k c : Nat) : St :=
  ⟨[some (.bool (.lit .bool 0)), some (.ptr 0 0), some (.ptr 1 0), none, some (.slice 2 0 19 (.kn 19)), some (if c = 0 then .nilslice else .slice 3 0 c (.un 0)), some (i64 k)] ++ List.replicate 171 none,
   [.cells (numS zs) 29, .cells (numS small) 29, .cells (parts.flatMap rowS) 35] ++ (if c = 0 then [] else [.grow ((Lrows.take c).flatMap rowS) 35 12]), 0⟩
def annI : LoopAnn := { cur := 3, block := 6, size := 4, base := 0, places := [(s64, .tmp 11)], forget := [], dead := [] }
def annK : LoopAnn := { cur := 3, block := 8, size := 4, base := 1, places := [(s64, .tmp 12)], forget := [], dead := [] }

def cons3 : List (Nat × Con) := [(4, c4t), (6, c6), (8, c8), (9, c8), (10, c10)]
noncomputable def K3 : Ctx := mkC cons3 fold3
noncomputable def K3l : Ctx := mkC cons3 fold3 [annI, annK] [200]
theorem cons3_ok : ∀ p ∈ cons3, ConOk Tryz.prog Φ0 O0 p.1 p.2 := by
  intro p hp
  simp only [cons3, List.mem_cons, List.not_mem_nil, or_false] at hp
  rcases hp with rfl | rfl | rfl | rfl | rfl
  · exact con4
  · exact con6
  · exact con8 hr0
  · exact con9 hr0
  · exact con10
theorem okK3 : CtxOk K3 Φ0 O0 := mkC_ok cons3_ok fold3_ok (by kernel_rfl)
theorem okK3l : CtxOk K3l Φ0 O0 := mkC_ok cons3_ok fold3_ok (by kernel_rfl)

/-! ### Its code -/
noncomputable def code3 : Code := (Tryz.f3.body).getD .skip
noncomputable def p0 : Code := sL code3
noncomputable def p1 : Code := sL (sR code3)
noncomputable def p2 : Code := sL (sR (sR code3))
noncomputable def p3 : Code := sL (sR (sR (sR code3)))
noncomputable def p4 : Code := sL (sR (sR (sR (sR code3))))
noncomputable def p5 : Code := sL (sR (sR (sR (sR (sR code3)))))
noncomputable def p6 : Code := sL (sL (sR (sR (sR (sR (sR (sR code3)))))))
noncomputable def loop3 : Code := inLoop (inBlk (sR (sL (sR (sR (sR (sR (sR (sR code3)))))))))
noncomputable def rest3 : Code := sR (sR (sR (sR (sR (sR (sR code3))))))
theorem code3_eq : code3 = .seq p0 (.seq p1 (.seq p2 (.seq p3 (.seq p4 (.seq p5 (.seq (.seq p6 (.block 0 (.loop loop3))) rest3)))))) := by kernel_rfl

def start3 : St := { tmps := (([] : List SV) ++ List.replicate (178 - 0) undefS).map some, heap := [], nv := 0 }
noncomputable def A3 : St := runSt K3 400 3 p0 start3
noncomputable def B3 : St := runSt K3 400 3 p1 A3
noncomputable def D3 : St := runSt K3 400 3 p2 B3
noncomputable def E3 : St := runSt K3 400 3 p3 D3
noncomputable def F3 : St := runSt K3 400 3 p4 E3
noncomputable def G3s : St := runSt K3 400 3 p5 F3
noncomputable def H3 : St := runSt K3 400 3 p6 G3s
theorem run3a : runs K3 400 3 p0 start3 = true := by kernel_rfl
theorem run3b : runs K3 400 3 p1 A3 = true := by kernel_rfl
theorem run3d : runs K3 400 3 p2 B3 = true := by kernel_rfl
theorem run3e : runs K3 400 3 p3 D3 = true := by kernel_rfl
theorem run3f : runs K3 400 3 p4 E3 = true := by kernel_rfl
theorem run3g : runs K3 400 3 p5 F3 = true := by kernel_rfl
theorem run3h : runs K3 400 3 p6 G3s = true := by kernel_rfl
/-- How many values there are where round k begins. -/
def len3 (k : Nat) : Nat := if k = 0 then 0 else if k = 1 then 12 else if k = 2 then 28 else if k = 3 then 41 else if k = 4 then 54 else 60
def S3 (k : Nat) : St := S3c k (len3 k)
theorem gc3 : gcOk [1, 2, 4] (S3 0) H3 = true := by kernel_rfl
noncomputable def step3 (k : Nat) : Bool := stepsTo K3 1000 3 loop3 (S3 k) .norm [1, 2, 4, 5] (S3 (k + 1))
theorem last3 : stepsTo K3 1000 3 loop3 (S3 10) (.exit 0) [1, 2, 4, 5] (S3 10) = true := by kernel_rfl
end Go.Sx.Vk

/- ValueKinds: the second loops. -/
namespace Go.Sx.Vk
open Go Go.Proofs
set_option maxRecDepth 1000000

def rowE (v : Nat) : List (K × E) := ksAbs.zipIdx.map fun p => (p.1, .app p.1 200 [(s64, .var s64 v)] p.2)
def num1 : List (K × E) := [(u, .lit u 0), (u, .lit u 7), (u, .lit u 0), (u, .lit u 7), (s64, .lit s64 0), (s64, .lit s64 7)]
def cvk : E := .conv .u64 .i64 (.var s64 1)
def num2 : List (K × E) := [(u, cvk), (u, .lit u 0), (u, cvk), (u, cvk), (s64, .conv .i64 .u64 cvk), (s64, .conv .i64 .u64 cvk)]
def evn (v : Nat) : E := .cmp .eql s64 (.bin .rem .i64 .i64 (.var s64 v) (.lit s64 2)) (.lit s64 0)
def inc (e : E) : E := .bin .add .i64 .i64 (.lit s64 1) e
def rem9 (v : Nat) : E := .bin .rem .i64 .i64 (.var s64 v) (.lit s64 9)
def specE : List (K × E) := [(.int .u8, .lit (.int .u8) 0), (s64, .lit s64 0), (s64, .lit s64 16), (s64, .lit s64 0)]
def tail1 : List (K × E) := [(.bool, evn 0), (s64, inc (.var s64 1)), (s64, .var s64 1), (s64, inc (rem9 0))] ++ specE
def tail2 : List (K × E) := [(.bool, evn 0), (s64, .var s64 1), (s64, .var s64 0), (s64, inc (rem9 1))] ++ specE
def args1 : List (K × E) := rowE 0 ++ (rowE 1 ++ (num1 ++ tail1))
def args2 : List (K × E) := rowE 0 ++ (rowE 1 ++ (num2 ++ tail2))
def G3 : Known := [(.cmp .lss s64 (.var s64 0) (.lit s64 0), false), (.cmp .lss s64 (.var s64 0) (.lit s64 60), true), (.cmp .lss s64 (.var s64 1) (.lit s64 0), false), (.cmp .lss s64 (.var s64 1) (.lit s64 60), true)]
def V3 : List Avail := [⟨10, args1, G3⟩, ⟨10, args2, G3⟩]
def Z3 : List Known := [[(.app .bool 10 args1 0, false)], [(.app .bool 10 args2 0, false)]]
def good3 (p : X × St) : Bool := (match p.1 with | .ret => true | _ => false) && (match p.2.tmps with | some (.bool (.lit .bool 1)) :: _ => true | _ => false)

theorem evk3 : evk good3 V3 Z3 (fun _ => 60) 200 [] (exec K3l 1000 0 3 none rest3 (S3 10)) = true := by kernel_rfl

end Go.Sx.Vk

/- ValueKinds: what the second loops ask for may be asked; they come to true. -/
namespace Go.Sx.Vk
open Go Go.Proofs Go.RowKit
set_option maxRecDepth 1000000

theorem Lfit : (Lrows.all fun r => decide (fitted ksAbs r = r) && decide (r.length = 12)) = true := by kernel_rfl
theorem Llen : Lrows.length = 60 := by kernel_rfl

theorem denL_map {Φ : Go.Sx.Spec} {ρ : Nat → Int} (f : K × Nat → E) : ∀ l : List (K × Nat), E.denL Φ ρ (l.map fun p => (p.1, f p)) = l.map fun p => p.1.norm ((f p).den Φ ρ)
  | [] => rfl
  | p :: l => by simp only [List.map_cons, E.denL, denL_map f l]

theorem row_in {n : Nat} (h : n < 60) : inL (Lrows.getD n []) = true := by
  have hl : n < Lrows.length := by rw [Llen]; exact h
  have : Lrows.getD n [] = Lrows[n] := by simp [List.getD_eq_getElem?_getD, List.getElem?_eq_getElem hl]
  rw [this]
  simp [inL]

theorem rowE_den {ρ : Nat → Int} {v : Nat} (h0 : 0 ≤ IntKind.i64.wrap (ρ v)) (h1 : IntKind.i64.wrap (ρ v) < 60) : E.denL Φ0 ρ (rowE v) = Lrows.getD (IntKind.i64.wrap (ρ v)).toNat [] := by
  have hr := inL_all Lfit (row_in (n := (IntKind.i64.wrap (ρ v)).toNat) (by omega))
  simp only [Bool.and_eq_true, decide_eq_true_eq] at hr
  unfold rowE
  rw [denL_map]
  refine Eq.trans ?_ hr.1
  unfold fitted
  refine List.map_congr_left fun p hp => ?_
  have hx : Φ0 200 (E.denL Φ0 ρ [(s64, E.var s64 v)]) = Lrows.getD (IntKind.i64.wrap (ρ v)).toNat [] := by
    show Lrows.getD ((E.denL Φ0 ρ [(s64, E.var s64 v)]).headD 0).toNat [] = _
    have : E.denL Φ0 ρ [(s64, E.var s64 v)] = [IntKind.i64.wrap (ρ v)] := by simp only [E.denL, E.den, s64, norm_int, wrap_wrap]
    rw [this]; rfl
  rw [E.den, hx, norm_norm]

theorem num2_den {ρ : Nat → Int} (h0 : 0 ≤ IntKind.i64.wrap (ρ 1)) (h1 : IntKind.i64.wrap (ρ 1) < 60) : E.denL Φ0 ρ num2 = konst (IntKind.i64.wrap (ρ 1)) := by
  have hu : IntKind.u64.wrap (IntKind.i64.wrap (ρ 1)) = IntKind.i64.wrap (ρ 1) := wrap_id ⟨by simp only [lo]; omega, by simp only [hi]; omega⟩
  have hz : IntKind.u64.wrap 0 = 0 := wrap_id ⟨by decide, by decide⟩
  simp only [num2, cvk, E.denL, E.den, u, s64, norm_int, wrap_wrap, hu, hz, konst]

theorem konst_in {x : Int} (h0 : 0 ≤ x) (h1 : x < 60) : inN (konst x) = true := by
  obtain ⟨n, rfl⟩ := Int.eq_ofNat_of_zero_le h0
  have : konst (n : Int) ∈ Ns := List.mem_cons_of_mem _ (List.mem_map.2 ⟨n, List.mem_range.2 (by omega), rfl⟩)
  simpa [inN] using this
theorem small_in : inN small = true := by kernel_rfl
theorem num1_den {ρ : Nat → Int} : E.denL Φ0 ρ num1 = small := by
  have h0 : IntKind.u64.wrap 0 = 0 := wrap_id ⟨by decide, by decide⟩
  have h7 : IntKind.u64.wrap 7 = 7 := wrap_id ⟨by decide, by decide⟩
  have h0' : IntKind.i64.wrap 0 = 0 := wrap_id ⟨by decide, by decide⟩
  have h7' : IntKind.i64.wrap 7 = 7 := wrap_id ⟨by decide, by decide⟩
  simp only [num1, E.denL, E.den, u, s64, norm_int, h0, h7, h0', h7', small]

theorem G3_holds {ρ : Nat → Int} (h : Holds Φ0 ρ G3) : (0 ≤ IntKind.i64.wrap (ρ 0) ∧ IntKind.i64.wrap (ρ 0) < 60) ∧ 0 ≤ IntKind.i64.wrap (ρ 1) ∧ IntKind.i64.wrap (ρ 1) < 60 := by
  have h0 : IntKind.i64.wrap 0 = 0 := wrap_id ⟨by decide, by decide⟩
  have h60 : IntKind.i64.wrap 60 = 60 := wrap_id ⟨by decide, by decide⟩
  have a := h _ List.mem_cons_self
  have b := h _ (List.mem_cons_of_mem _ List.mem_cons_self)
  have c := h _ (List.mem_cons_of_mem _ (List.mem_cons_of_mem _ List.mem_cons_self))
  have d := h _ (List.mem_cons_of_mem _ (List.mem_cons_of_mem _ (List.mem_cons_of_mem _ List.mem_cons_self)))
  simp only [b2i_ne, bcmp, E.den, s64, norm_int, wrap_wrap, h0, h60, decide_eq_true_eq, decide_eq_false_iff_not, Int.not_lt] at a b c d
  exact ⟨⟨a, b⟩, c, d⟩

theorem dom10 {r t n tl : List Int} (hr : inL r = true) (ht : inL t = true) (hn : inN n = true) (hl : n.length = 6) : O0.dom 10 (r ++ (t ++ (n ++ tl))) := by
  have h1 := inL_all Lfit hr
  have h2 := inL_all Lfit ht
  simp only [Bool.and_eq_true, decide_eq_true_eq] at h1 h2
  refine (dom_Y rfl _).2 ?_
  show inL (seg3 _ 0 12) = true ∧ inL (seg3 _ 12 12) = true ∧ inN (seg3 _ 24 6) = true
  have e : seg3 (r ++ (t ++ (n ++ tl))) 24 6 = n := by
    rw [← List.append_assoc]
    exact seg3_m (by rw [List.length_append, h1.2, h2.2]) hl
  rw [seg3_l h1.2, seg3_m h1.2 h2.2, e]
  exact ⟨hr, ht, hn⟩

abbrev O3 : Owe := { dom := O0.dom, inv := invK fun _ => 60, mu := muK fun _ => 60 }

theorem avail3 (ρ : Nat → Int) : AvailOk Φ0 ρ O3 V3 := by
  intro v hv hg
  simp only [V3, List.mem_cons, List.not_mem_nil, or_false] at hv
  rcases hv with rfl | rfl
  · obtain ⟨⟨a, b⟩, c, d⟩ := G3_holds hg
    show O0.dom 10 (E.denL Φ0 ρ (rowE 0 ++ (rowE 1 ++ (num1 ++ tail1))))
    rw [denL_append, denL_append, denL_append, rowE_den a b, rowE_den c d, num1_den]
    exact dom10 (row_in (by omega)) (row_in (by omega)) small_in rfl
  · obtain ⟨⟨a, b⟩, c, d⟩ := G3_holds hg
    show O0.dom 10 (E.denL Φ0 ρ (rowE 0 ++ (rowE 1 ++ (num2 ++ tail2))))
    rw [denL_append, denL_append, denL_append, rowE_den a b, rowE_den c d, num2_den c d]
    exact dom10 (row_in (by omega)) (row_in (by omega)) (konst_in c d) rfl

theorem never3 (ρ : Nat → Int) : NeverOk Φ0 ρ Z3 := by
  have key : ∀ args : List (K × E), (E.app .bool 10 args 0).den Φ0 ρ = 1 := fun args => by
    rw [E.den]
    show K.bool.norm (([1] : List Int).getD 0 0) = 1
    rfl
  intro l hl hh
  simp only [Z3, List.mem_cons, List.not_mem_nil, or_false] at hl
  rcases hl with rfl | rfl
  · have := hh _ List.mem_cons_self
    rw [key] at this
    cases this
  · have := hh _ List.mem_cons_self
    rw [key] at this
    cases this

theorem ev3 (ρ : Nat → Int) : (exec K3l 1000 0 3 none rest3 (S3 10)).Ev Φ0 O3 ρ fun _ p => good3 p = true :=
  evk_sound (fun _ => ⟨by decide, by decide⟩) rfl rfl avail3 never3 200 [] _ ρ (fun p hp => by simp at hp) evk3

theorem good3_res {x : X} {S : St} (h : good3 (x, S) = true) : x = .ret ∧ resultsS Tryz.prog Tryz.f3.results.toList S S.heap = some [.bool (.lit .bool 1)] := by
  unfold good3 at h
  simp only [Bool.and_eq_true] at h
  obtain ⟨h1, h2⟩ := h
  refine ⟨by cases x <;> simp_all, ?_⟩
  have hr : Tryz.f3.results.toList = [.tmp 0] := by kernel_rfl
  rw [hr]
  split at h2
  · rename_i r hS
    have he : S.eval (.tmp 0) = some (.bool (.lit .bool 1)) := by
      unfold St.eval
      simp only [hS, atR_eq, List.getElem?_cons_zero]
    simp only [resultsS, he]
  · cases h2

end Go.Sx.Vk

/- ValueKinds: the first loops, round by round of the second. -/
namespace Go.Sx.Vk
open Go Go.Proofs
set_option maxRecDepth 1000000

noncomputable def head3 : Code := sL loop3
noncomputable def mid3 : Code := sL (inBlk (sL (sR loop3)))
noncomputable def loop2 : Code := inLoop (inBlk (sR (inBlk (sL (sR loop3)))))
noncomputable def tail3 : Code := sR (sR loop3)
theorem loop3_eq : loop3 = .seq head3 (.seq (.block 1 (.seq mid3 (.block 2 (.loop loop2)))) tail3) := by kernel_rfl

/-- How many values there are where round i of the second loop begins, in round k of the first. -/
def cnts : List Nat := [0, 7, 11, 11, 11, 11, 11, 11, 11, 11, 11, 11, 12, 12, 12, 12, 12, 12, 12, 12, 15, 18, 21, 24, 27, 27, 27, 27, 27, 27, 27, 28, 28, 28, 28, 28, 28, 28, 28, 31, 34, 34, 34, 34, 37, 39, 40, 40, 40, 40, 41, 41, 41, 41, 41, 41, 41, 41, 44, 47, 47, 47, 47, 50, 52, 53, 53, 53, 53, 54, 54, 54, 54, 54, 54, 54, 54, 59]
def cnt (k i : Nat) : Nat := cnts.getD (19 * k + i) 60
/-- Where that round begins. -/
def S2 (k i : Nat) : St :=
  ⟨[some (.bool (.lit .bool 0)), some (.ptr 0 0), some (.ptr 1 0), none, some (.slice 2 0 19 (.kn 19)), some (if cnt k i = 0 then .nilslice else .slice 3 0 (cnt k i) (.un 0)), some (i64 k), some (i64 i)] ++ List.replicate 170 none,
   [.cells (numS zs) 29, .cells (numS small) 29, .cells (parts.flatMap rowS) 35] ++ (if cnt k i = 0 then [] else [.grow ((Lrows.take (cnt k i)).flatMap rowS) 35 12]), 0⟩
def ts3 (c : Nat) : List Nat := if c = 0 then [1, 2, 4] else [1, 2, 4, 5]
noncomputable def stepH (k : Nat) : Bool := stepsTo K3 1000 3 head3 (S3 k) .norm (ts3 (cnt k 0)) (S3 k)
noncomputable def stepM (k : Nat) : Bool := stepsTo K3 1000 3 mid3 (S3 k) .norm (ts3 (cnt k 0)) (S2 k 0)
noncomputable def stepI (k i : Nat) : Bool := stepsTo K3 1000 3 loop2 (S2 k i) .norm (ts3 (cnt k (i + 1))) (S2 k (i + 1))
noncomputable def stepE (k : Nat) : Bool := stepsTo K3 1000 3 loop2 (S2 k 19) (.exit 2) (ts3 (cnt k 19)) (S2 k 19)
noncomputable def stepT (k : Nat) : Bool := stepsTo K3 1000 3 tail3 (S2 k 19) .norm (ts3 (cnt k 19)) (S3 (k + 1))
theorem stepsH : ((List.range 10).all stepH) = true := by kernel_rfl
theorem stepsM : ((List.range 10).all stepM) = true := by kernel_rfl
theorem stepsE : ((List.range 10).all stepE) = true := by kernel_rfl
theorem stepsT : ((List.range 10).all stepT) = true := by kernel_rfl

variable {w0 : World}
/-- A round of the first loop. -/
theorem round3 {k : Nat} (hk : k < 10) (hs : ∀ i, i < 19 → stepI k i = true) {a : Act} {w : World} (H : Has Φ0 w0 (S3 k) a w) : loop3.wpIn (fenAt none) 0 Tryz.prog (fun e a' w' => xIs .norm e ∧ Has Φ0 w0 (S3 (k + 1)) a' w') a w := by
  have hm : k ∈ List.range 10 := List.mem_range.2 hk
  rw [loop3_eq]
  refine has_seq (has_step okK3 (List.all_eq_true.1 stepsH k hm) H) fun a w H => ?_
  refine has_seq (Φ := Φ0) (w0 := w0) (S' := S2 k 19) ?_ fun a w H => ?_
  · refine has_block ?_
    refine has_seq (has_step okK3 (List.all_eq_true.1 stepsM k hm) H) fun a w H => ?_
    refine has_loop (N := 19) (S := S2 k) (SE := S2 k 19) ?_ ?_ H
    · intro i hi a w H
      exact has_step okK3 (hs i hi) H
    · intro a w H
      exact has_step okK3 (List.all_eq_true.1 stepsE k hm) H
  · exact has_step okK3 (List.all_eq_true.1 stepsT k hm) H
end Go.Sx.Vk

/- ValueKinds: the first loops where no value is added any more: the loops summed up. -/
namespace Go.Sx.Vk
open Go Go.Proofs
set_option maxRecDepth 1000000

def annI2 : LoopAnn := { cur := 3, block := 2, size := 4, base := 0, places := [(s64, .tmp 7)], forget := [], dead := [] }
def annM2 : LoopAnn := { cur := 3, block := 4, size := 4, base := 1, places := [(s64, .tmp 8)], forget := [], dead := [] }
noncomputable def K3m : Ctx := mkC cons3 fold3 [annI2, annM2] [201]
theorem okK3m : CtxOk K3m Φ0 O0 := mkC_ok cons3_ok fold3_ok (by kernel_rfl)
def N5 (l : Nat) : Int := if l = 0 then 19 else 21

def partE (v j : Nat) (k : K) : E := .app k 201 [(s64, .var s64 v)] j
def numP (v : Nat) : List (K × E) := [(u, partE v 1 u), (u, partE v 2 u), (u, partE v 3 u), (u, partE v 4 u), (s64, partE v 5 s64), (s64, partE v 6 s64)]
def quoE (e : E) (n : Int) : E := .bin .quo .i64 .i64 e (.lit s64 n)
def addE (a b : E) : E := .bin .add .i64 .i64 a b
def tailP : List (K × E) := [(s64, addE (partE 0 7 s64) (quoE (partE 1 7 s64) 2)), (s64, partE 0 8 s64), (s64, addE (partE 0 9 s64) (partE 1 9 s64)), (s64, addE (partE 0 10 s64) (quoE (partE 1 10 s64) 8)), (.bool, partE 0 11 .bool)]
def args8 (k : Nat) (v : Nat) : List (K × E) := [(.int .u8, .lit (.int .u8) (k : Int))] ++ (numP v ++ tailP)
def G5 : Known := [(.cmp .lss s64 (.var s64 0) (.lit s64 0), false), (.cmp .lss s64 (.var s64 0) (.lit s64 19), true), (.cmp .lss s64 (.var s64 1) (.lit s64 0), false), (.cmp .lss s64 (.var s64 1) (.lit s64 19), true)]
def V5 (k : Nat) : List Avail := [⟨8, args8 k 1, G5⟩, ⟨8, args8 k 0, G5⟩]
/-- Where the second loop has ended. -/
def S2x (k : Nat) : St :=
  ⟨[some (.bool (.lit .bool 0)), some (.ptr 0 0), some (.ptr 1 0), none, some (.slice 2 0 19 (.kn 19)), some (.slice 3 0 60 (.un 0)), some (i64 k)] ++ List.replicate 171 none,
   [.cells (numS zs) 29, .cells (numS small) 29, .cells (parts.flatMap rowS) 35, .grow (Lrows.flatMap rowS) 35 12], 0⟩
noncomputable def good5 (k : Nat) (p : X × St) : Bool := X.same .norm p.1 && gcOk [1, 2, 4, 5] (S2x k) p.2
theorem evk5 : ((List.range' 5 5).all fun k => evk (good5 k) (V5 k) [] N5 300 [] (exec K3m 1000 0 3 none (.block 2 (.loop loop2)) (S2 k 0))) = true := by kernel_rfl
noncomputable def stepX (k : Nat) : Bool := stepsTo K3 1000 3 tail3 (S2x k) .norm [1, 2, 4, 5] (S3 (k + 1))
theorem stepsX : ((List.range' 5 5).all stepX) = true := by kernel_rfl

def numOf (r : List Int) : List Int := [u.norm (r.getD 1 0), u.norm (r.getD 2 0), u.norm (r.getD 3 0), u.norm (r.getD 4 0), s64.norm (r.getD 5 0), s64.norm (r.getD 6 0)]
theorem P36 : (parts.all fun r => (tabGet 36 (numOf r)).isSome) = true := by kernel_rfl
theorem Plen : parts.length = 19 := by kernel_rfl

theorem part_in {n : Nat} (h : n < 19) : (tabGet 36 (numOf (parts.getD n []))).isSome = true := by
  have hl : n < parts.length := by rw [Plen]; exact h
  have : parts.getD n [] = parts[n] := by simp [List.getD_eq_getElem?_getD, List.getElem?_eq_getElem hl]
  rw [this]
  exact List.all_eq_true.1 P36 _ (List.getElem_mem hl)

theorem numP_den {ρ : Nat → Int} {v : Nat} : E.denL Φ0 ρ (numP v) = numOf (parts.getD (IntKind.i64.wrap (ρ v)).toNat []) := by
  have hx : Φ0 201 [IntKind.i64.wrap (ρ v)] = parts.getD (IntKind.i64.wrap (ρ v)).toNat [] := rfl
  simp only [numP, partE, E.denL, E.den, s64, norm_int, wrap_wrap, hx]
  simp only [u, norm_int, wrap_wrap, numOf, s64]

theorem G5_holds {ρ : Nat → Int} (h : Holds Φ0 ρ G5) : (0 ≤ IntKind.i64.wrap (ρ 0) ∧ IntKind.i64.wrap (ρ 0) < 19) ∧ 0 ≤ IntKind.i64.wrap (ρ 1) ∧ IntKind.i64.wrap (ρ 1) < 19 := by
  have h0 : IntKind.i64.wrap 0 = 0 := wrap_id ⟨by decide, by decide⟩
  have h19 : IntKind.i64.wrap 19 = 19 := wrap_id ⟨by decide, by decide⟩
  have a := h _ List.mem_cons_self
  have b := h _ (List.mem_cons_of_mem _ List.mem_cons_self)
  have c := h _ (List.mem_cons_of_mem _ (List.mem_cons_of_mem _ List.mem_cons_self))
  have d := h _ (List.mem_cons_of_mem _ (List.mem_cons_of_mem _ (List.mem_cons_of_mem _ List.mem_cons_self)))
  simp only [b2i_ne, bcmp, E.den, s64, norm_int, wrap_wrap, h0, h19, decide_eq_true_eq, decide_eq_false_iff_not, Int.not_lt] at a b c d
  exact ⟨⟨a, b⟩, c, d⟩

theorem dom8_part {ρ : Nat → Int} {k v : Nat} (h0 : 0 ≤ IntKind.i64.wrap (ρ v)) (h1 : IntKind.i64.wrap (ρ v) < 19) : O0.dom 8 (E.denL Φ0 ρ (args8 k v)) := by
  refine (dom_Y rfl _).2 ?_
  show (tabGet 36 (seg3 (E.denL Φ0 ρ (args8 k v)) 1 6)).isSome = true
  rw [args8, denL_append, denL_append, numP_den]
  have e : seg3 (E.denL Φ0 ρ [(K.int .u8, E.lit (.int .u8) (k : Int))] ++ (numOf (parts.getD (IntKind.i64.wrap (ρ v)).toNat []) ++ E.denL Φ0 ρ tailP)) 1 6 = numOf (parts.getD (IntKind.i64.wrap (ρ v)).toNat []) := seg3_m rfl rfl
  rw [e]
  exact part_in (by omega)

abbrev O5 : Owe := { dom := O0.dom, inv := invK N5, mu := muK N5 }
theorem avail5 (k : Nat) (ρ : Nat → Int) : AvailOk Φ0 ρ O5 (V5 k) := by
  intro v hv hg
  simp only [V5, List.mem_cons, List.not_mem_nil, or_false] at hv
  rcases hv with rfl | rfl
  · obtain ⟨_, c, d⟩ := G5_holds hg
    exact dom8_part c d
  · obtain ⟨⟨a, b⟩, _⟩ := G5_holds hg
    exact dom8_part a b

variable {w0 : World}
/-- A round of the first loop, where no value is added. -/
theorem round5 {k : Nat} (h5 : 5 ≤ k) (hk : k < 10) {a : Act} {w : World} (H : Has Φ0 w0 (S3 k) a w) : loop3.wpIn (fenAt none) 0 Tryz.prog (fun e a' w' => xIs .norm e ∧ Has Φ0 w0 (S3 (k + 1)) a' w') a w := by
  have hm : k ∈ List.range 10 := List.mem_range.2 hk
  have hm5 : k ∈ List.range' 5 5 := List.mem_range'_1.2 ⟨h5, by omega⟩
  rw [loop3_eq]
  refine has_seq (has_step okK3 (List.all_eq_true.1 stepsH k hm) H) fun a w H => ?_
  refine has_seq (Φ := Φ0) (w0 := w0) (S' := S2x k) ?_ fun a w H => ?_
  · refine has_block ?_
    refine has_seq (has_step okK3 (List.all_eq_true.1 stepsM k hm) H) fun a w H => ?_
    have hE : ∀ ρ, (exec K3m 1000 0 3 none (.block 2 (.loop loop2)) (S2 k 0)).Ev Φ0 O5 ρ fun _ p => good5 k p = true := fun ρ =>
      evk_sound (fun l => by unfold N5; split <;> exact ⟨by decide, by decide⟩) rfl rfl (avail5 k) (fun ρ l hl => by simp at hl) 300 [] _ ρ (fun p hp => by simp at hp) (List.all_eq_true.1 evk5 k hm5)
    refine wpIn_mono (has_tree (okK3m.loops (invK N5) (muK N5)) hE H) ?_
    rintro e a' w' ⟨x, S', hq, hx, hH⟩
    simp only [good5, Bool.and_eq_true] at hq
    have := X.same_eq hq.1; subst this
    exact ⟨hx, hH.gc hq.2⟩
  · exact has_step okK3 (List.all_eq_true.1 stepsX k hm5) H
end Go.Sx.Vk
