/-
  The symbolic run is sound whole; contracts out of its trees; a run in pieces; no condition.
-/
import Derived.Test.YtkmieoelgamdpaaGreatDoorSxE
set_option linter.deprecated false
set_option linter.unusedVariables false
set_option linter.unusedSimpArgs false

/- THE SYMBOLIC RUN IS SOUND. -/
namespace Go.Sx
open Go.RowKit

structure AllOk (C : Ctx) (O : Owe) (f : Nat) : Prop where
  exec : ExecOk C O f
  loop : LoopOk C O f
  ops : OpsOk C O f
  callOp : CallOpOk C O f
  call : CallOk C O f

theorem ok_exec {C : Ctx} {O : Owe} {f : Nat} (ih : AllOk C O f) (id : ∀ f', f' < f → CallOpOk { C with loops := [] } O f') (il : LoopOk C O (f + 1)) : ExecOk C O (f + 1) := by
  intro ro cur rd c st Q w0 kp hid n a w r k hC hr H hE
  cases c with
  | skip => simp only [exec] at hE; exact wpIn_skip (Post.keep H hE rfl)
  | label l => simp only [exec] at hE; exact wpIn_label (Post.keep H hE rfl)
  | seq x y => exact ok_seq ih.exec hC hr H hE
  | cond c x y => exact ok_cond ih.exec hC hr H hE
  | block id b =>
    by_cases hb : ∃ b', b = .loop b'
    · obtain ⟨b', rfl⟩ := hb
      simp only [exec] at hE
      split at hE
      · rename_i an han
        split at hE
        · rename_i init G hinit habs
          split at hE
          · rename_i hc
            exact ok_sumLoop ih.exec hC hr H hinit habs hc.1 hc.2 hE
          · exact hE.elim
        · exact hE.elim
      · rw [T.Ev_bind] at hE
        refine ok_inBlock (wpIn_mono (ih.exec ro cur rd (.loop b') st _ w0 kp hid n a w r k hC hr H hE) ?_)
        rintro e a' w' ⟨n', x, st', hq, hx, hR, hg⟩
        refine ⟨n', x, st', ?_, hx, hR, hg⟩
        cases x with
        | exit i =>
          simp only at hq ⊢
          by_cases hi : i = id
          · simp only [hi, if_true] at hq ⊢; exact hq
          · simp only [hi, if_false] at hq ⊢; exact hq
        | norm => exact hq
        | goto i => exact hq
        | ret => exact hq
    · have hE' : ((Sx.exec C f ro cur rd b st).bind fun (x, st) => match x with
        | .exit i => if i = id then .leaf (.norm, st) else .leaf (.exit i, st)
        | x => .leaf (x, st)).Ev n.Φ O n.ρ Q := by
        cases b with
        | loop b' => exact absurd ⟨b', rfl⟩ hb
        | _ => simp only [Sx.exec] at hE ⊢; exact hE
      rw [T.Ev_bind] at hE'
      refine ok_inBlock (wpIn_mono (ih.exec ro cur rd b st _ w0 kp hid n a w r k hC hr H hE') ?_)
      rintro e a' w' ⟨n', x, st', hq, hx, hR, hg⟩
      refine ⟨n', x, st', ?_, hx, hR, hg⟩
      cases x with
      | exit i =>
        simp only at hq ⊢
        by_cases hi : i = id
        · simp only [hi, if_true] at hq ⊢; exact hq
        · simp only [hi, if_false] at hq ⊢; exact hq
      | norm => exact hq
      | goto i => exact hq
      | ret => exact hq
  | loop b => exact wpIn_loop_rounds (f + 1) (il ro cur rd b st Q w0 kp hid n a w r k hC hr H hE)
  | exit i => simp only [exec] at hE; exact wpIn_exit (Post.keep H hE rfl)
  | goto l => simp only [exec] at hE; exact wpIn_goto (Post.keep H hE rfl)
  | ret => simp only [exec] at hE; exact wpIn_ret (Post.keep H hE rfl)
  | region id' ops d =>
    cases d with
    | false =>
      simp only [exec] at hE
      rw [T.Ev_bind] at hE
      refine wpIn_region ?_
      have h1 := ih.ops ro rd ops 0 ops.toList st _ w0 kp hid n a w r k (Post C w0 kp hid ro rd n st Q) hC H rfl hE (by
        rintro e a' w' ⟨rfl, n', st', hq, hR, hg⟩
        exact ⟨n', .norm, st', hq, rfl, hR, hg⟩)
      rw [List.range_eq_range']
      simpa using h1
    | true =>
      cases hi : ops.toList.any isIns with
      | false => exact ok_draw id hC H hi hE
      | true => exact ok_bag hC H hi hE
  | rangeFunc g ps asg body => exact ok_rangeFunc ih.call hC hr H hE
  | scope b => simp only [exec] at hE; exact hE.elim
  | refuse s => simp only [exec] at hE; exact hE.elim

theorem all_ok (O : Owe) : ∀ (f : Nat) (C : Ctx), AllOk C O f := by
  intro f
  induction f using Nat.strongRecOn with
  | ind f ih =>
    intro C
    cases f with
    | zero =>
      refine ⟨?_, ?_, ?_, ?_, ?_⟩
      · intro ro cur rd c st Q w0 kp hid n a w r k hC hr H hE; simp only [exec] at hE; exact hE.elim
      · intro ro cur rd b st Q w0 kp hid n a w r k hC hr H hE; simp only [exec] at hE; exact hE.elim
      · intro ro rd ops i os st Q w0 kp hid n a w r k QQ hC H hos hE; simp only [execOps] at hE; exact hE.elim
      · intro ro o fv args st Q w0 kp hid n a w r k next QQ hC hH hT hlow hcal hE; simp only [callV] at hE; exact hE.elim
      · intro ro g args h nv Q w0 kp hid n w hC H hro hok hE; simp only [call] at hE; exact hE.elim
    | succ f =>
      have i0 := ih f (Nat.lt_succ_self _) C
      have il := ok_loop i0.exec i0.loop
      refine ⟨?_, il, ok_ops i0.ops i0.callOp, ok_callOp i0.exec i0.call, ok_call i0.exec⟩
      exact ok_exec i0 (fun f' hf' => (ih f' (by omega) _).callOp) il

/-! ### A contract out of a tree -/
/-- Arguments: variables from 'i' on. -/
def argsS : List VT → Nat → List SV
  | [], _ => []
  | .one k :: ts, i => leafOf k (.var k i) :: argsS ts (i + 1)
  | .agg ks :: ts, i => .agg (resCells (fun k i => .var k i) ks i) :: argsS ts (i + ks.length)

/-- A result's leaves. -/
def flatRes (ts : List VT) (v : SV) : Option (List (K × E)) :=
  match ts with
  | [t] => flatArgs [t] [v]
  | ts => match v with
    | .tuple vs => flatArgs ts vs
    | _ => none

theorem argsS_eq : ∀ (ts : List VT) (i : Nat), argsS ts i = resAll (fun k i => .var k i) ts i
  | [], _ => rfl
  | .one k :: ts, i => by simp only [argsS, resAll, resOne, VT.size, argsS_eq ts]
  | .agg ks :: ts, i => by simp only [argsS, resAll, resOne, VT.size, argsS_eq ts]

theorem resCells_ok {N m : Nat} : ∀ (ks : List K) (i : Nat), i + ks.length ≤ m → SV.OkL N m (resCells (fun k i => .var k i) ks i)
  | [], _, _ => trivial
  | k :: ks, i, h => by
    simp only [List.length_cons] at h
    refine ⟨?_, resCells_ok ks (i + 1) (by omega)⟩
    cases k <;> simp only [leafOf, SV.Ok, E.under, decide_eq_true_eq] <;> omega

theorem argsS_ok {N m : Nat} : ∀ (ts : List VT) (i : Nat), i + (kindsOf ts).length ≤ m → SV.OkL N m (argsS ts i)
  | [], _, _ => trivial
  | .one k :: ts, i, h => by
    have hk : (kindsOf (.one k :: ts)).length = 1 + (kindsOf ts).length := by simp [kindsOf, VT.kinds]; omega
    refine ⟨?_, argsS_ok ts (i + 1) (by omega)⟩
    cases k <;> simp only [leafOf, SV.Ok, E.under, decide_eq_true_eq] <;> omega
  | .agg ks :: ts, i, h => by
    have hk : (kindsOf (.agg ks :: ts)).length = ks.length + (kindsOf ts).length := by simp [kindsOf, VT.kinds]
    exact ⟨resCells_ok ks i (by omega), argsS_ok ts _ (by omega)⟩

theorem normL_get : ∀ (ks : List K) (vs : List Int), vs.length = ks.length → normL ks vs = vs → (ks.zipIdx).map (fun (k, j) => k.norm (vs.getD j 0)) = vs := by
  intro ks vs hl hn
  have : ∀ (ks : List K) (vs : List Int), normL ks vs = vs → vs.length = ks.length → ∀ (i : Nat) (pre : List Int), pre.length = i → (ks.zipIdx i).map (fun (k, j) => k.norm ((pre ++ vs).getD j 0)) = vs := by
    intro ks
    induction ks with
    | nil => intro vs _ hl i pre _; cases vs <;> simp_all
    | cons k ks ih =>
      intro vs hn hl i pre hp
      cases vs with
      | nil => simp at hl
      | cons v vs =>
        simp only [normL, List.cons.injEq] at hn
        simp only [List.zipIdx_cons, List.map_cons]
        have h1 : (pre ++ v :: vs).getD i 0 = v := by rw [List.getD_eq_getElem?_getD, List.getElem?_append_right (by omega), hp]; simp
        rw [h1, hn.1]
        congr 1
        have := ih vs hn.2 (by simpa using hl) (i + 1) (pre ++ [v]) (by simp [hp])
        rw [List.append_assoc] at this
        exact this
  have := this ks vs hn hl 0 [] rfl
  simpa using this

theorem tupledV_flat {n : En} {N m : Nat} {ts : List VT} {v : SV} {l : List (K × E)} (h : flatRes ts v = some l) (hok : v.Ok N m) : v.re n = tupledV (valsV ts (E.denL n.Φ n.ρ l)) := by
  unfold flatRes at h
  split at h
  · rename_i t
    obtain ⟨_, h2, _⟩ := flatArgs_ok (n := n) h (N := N) (m := m) ⟨hok, trivial⟩
    simp only [SV.reL] at h2
    rw [← h2]; rfl
  · rename_i hne
    split at h
    · rename_i vs
      obtain ⟨_, h2, _⟩ := flatArgs_ok (n := n) h (N := N) (m := m) hok
      rw [SV.re, h2]
      have hlen : ∀ (ts : List VT) (xs : List Int), (valsV ts xs).length = ts.length := by
        intro ts
        induction ts with
        | nil => intro xs; rfl
        | cons t ts ih => intro xs; cases t <;> simp [valsV, ih]
      have h3 := hlen ts (E.denL n.Φ n.ρ l)
      match hv : valsV ts (E.denL n.Φ n.ρ l) with
      | [] => rfl
      | [x] =>
        exfalso
        rw [hv] at h3
        match ts with
        | [t] => exact hne t rfl
        | [] => simp at h3
        | _ :: _ :: _ => simp at h3
      | x :: y :: z => rfl
    · cases h

theorem HR.empty (w : World) (n : En) (m : Nat) : HR w (fun b => b < w.heap.size) [] 0 n m [] w :=
  ⟨rfl, rfl, rfl, Nat.le_refl _, fun b hb => ⟨hb, rfl⟩, by simp, List.nodup_nil, by simp, by simp, by simp, by simp⟩

/-- A CONTRACT OUT OF A TREE. -/
theorem con_ok {C : Ctx} {Φ : Spec} {O : Owe} (hC : CtxOk C Φ O) {g : Nat} {c : Con} {fuel : Nat} {t : T (SV × List SO × Nat)} (hcall : call C fuel 0 g (argsS c.args 0) [] (kindsOf c.args).length = t)
    (ht : ∀ (vs : List Int), vs.length = (kindsOf c.args).length → normL (kindsOf c.args) vs = vs → (c.total = false → O.dom c.spec vs) →
      t.Ev Φ O (fun i => vs.getD i 0) fun ρ p => ∃ l, flatRes c.res p.1 = some l ∧ E.denL Φ ρ l = fitted (kindsOf c.res) (Φ c.spec vs)) : ConOk C.P Φ O g c := by
  intro vs w hl hn hdom
  have hE := ht vs hl hn hdom
  let n : En := ⟨Φ, fun i => vs.getD i 0, fun _ => 0, fun _ => 0⟩
  rw [← hcall] at hE
  have hargs : SV.reL n (argsS c.args 0) = valsV c.args vs := by
    rw [argsS_eq, resAll_re (g := fun i => vs.getD i 0) (fun k i => by simp [E.den, n, norm_norm])]
    rw [normL_get _ _ hl hn]
  have := (all_ok O fuel C).call 0 g (argsS c.args 0) [] (kindsOf c.args).length _ w (fun b => b < w.heap.size) [] n w hC (HR.empty w n _) (Nat.zero_le _) (argsS_ok _ _ (by omega)) hE
  rw [hargs] at this
  refine this.mono ?_
  rintro e w' ⟨n', v, h', nv', ⟨l, h1, h2⟩, rfl, hv, hH, hg⟩
  have hΦ : n'.Φ = Φ := hg.ag.Φ.symm
  refine ⟨?_, ⟨hH.os, hH.tape, hH.output, hH.size, fun b hb => (hH.kept b hb).2⟩⟩
  rw [tupledV_flat h1 hv, hΦ, h2]

end Go.Sx

/- Trees: run on numbers; two that tell the same. Definitions. -/
namespace Go.Sx

/-! ### A tree, run on numbers -/
inductive Out (α : Type) where
  | done (ρ : Nat → Int) (a : α)
  | again (l : Nat) (vs : List Int)
  | stuck

def T.outF {α : Type} (Φ : Spec) (can : Nat → List Int → Bool) : T α → (Nat → Int) → Out α
  | .leaf a, ρ => .done ρ a
  | .ite c t e, ρ => if c.den Φ ρ = 0 then e.outF Φ can ρ else t.outF Φ can ρ
  | .need s l k, ρ => if can s (E.denL Φ ρ l) = true then k.outF Φ can ρ else .stuck
  | .loop _ _ _ _, _ => .stuck
  | .again l es, ρ => .again l (E.denL Φ ρ es)
  | .fail _, _ => .stuck

/-- Round by round. -/
def rounds {α : Type} (l n : Nat) (f : List Int → Out α) : Nat → List Int → Out α
  | 0, _ => .stuck
  | k + 1, v => match f v with
    | .again l' vs => if l' = l ∧ vs.length = n then rounds l n f k vs else .stuck
    | o => o

def T.out {α : Type} (Φ : Spec) (can : Nat → List Int → Bool) (N : Nat) : T α → (Nat → Int) → Out α
  | .leaf a, ρ => .done ρ a
  | .ite c t e, ρ => if c.den Φ ρ = 0 then e.out Φ can N ρ else t.out Φ can N ρ
  | .need s l k, ρ => if can s (E.denL Φ ρ l) = true then k.out Φ can N ρ else .stuck
  | .loop l init base step, ρ => if base = l then rounds l init.length (fun v => step.outF Φ can (upd ρ base v)) N (E.denL Φ ρ init) else .stuck
  | .again _ _, _ => .stuck
  | .fail _, _ => .stuck

/-- What a function's tree comes to, as numbers. -/
def T.nums (Φ : Spec) (can : Nat → List Int → Bool) (N : Nat) (res : List VT) (t : T (SV × List SO × Nat)) (vs : List Int) : Option (List Int) :=
  match t.out Φ can N (fun i => vs.getD i 0) with
  | .done ρ p => (flatRes res p.1).map (E.denL Φ ρ)
  | _ => none

/-! ### What is known along a path -/
/-- Atoms: 'eql', 'lss', a bool's expression; so or not. -/
abbrev Known := List (E × Bool)

def look? (A : Known) (e : E) : Option Bool :=
  match A with
  | [] => none
  | (x, b) :: r => if x.beq e then some b else look? r e

/-- The least and the greatest that a whole number may be. -/
def lowStep (k : IntKind) (x : E) (low : Int) (p : E × Bool) : Int :=
  match p with
  | (.cmp .lss (.int k') a (.lit kn n), false) => if k' = k ∧ a.beq x = true then max low (k.wrap (kn.norm n)) else low          -- not x < n
  | (.cmp .lss (.int k') (.lit kn n) a, true) => if k' = k ∧ a.beq x = true then max low (k.wrap (kn.norm n) + 1) else low      -- n < x
  | (.cmp .eql (.int k') a (.lit kn n), true) => if k' = k ∧ a.beq x = true then max low (k.wrap (kn.norm n)) else low
  | _ => low
def highStep (k : IntKind) (x : E) (high : Int) (p : E × Bool) : Int :=
  match p with
  | (.cmp .lss (.int k') a (.lit kn n), true) => if k' = k ∧ a.beq x = true then min high (k.wrap (kn.norm n) - 1) else high
  | (.cmp .lss (.int k') (.lit kn n) a, false) => if k' = k ∧ a.beq x = true then min high (k.wrap (kn.norm n)) else high
  | (.cmp .eql (.int k') a (.lit kn n), true) => if k' = k ∧ a.beq x = true then min high (k.wrap (kn.norm n)) else high
  | _ => high
def lowest (A : Known) (k : IntKind) (x : E) : Int := A.foldl (lowStep k x) (lo k)
def highest (A : Known) (k : IntKind) (x : E) : Int := A.foldl (highStep k x) (hi k)

/-- Is x < y, both of a kind? -/
def decLss (A : Known) (k : K) (x y : E) : Option Bool :=
  match k with
  | .bool => none
  | .int k =>
    match x.num k, y.num k with
    | some m, some n => some (decide (m < n))
    | none, some n => if highest A k x < n then some true else if n ≤ lowest A k x then some false else none
    | some m, none => if m < lowest A k y then some true else if highest A k y ≤ m then some false else none
    | none, none => if x.beq y then some false else none

def decEql (A : Known) (k : K) (x y : E) : Option Bool :=
  if x.beq y then some true else
  match k with
  | .bool => match x.isLit, y.isLit with
    | some m, some n => some (decide (K.bool.norm m = K.bool.norm n))
    | _, _ => none
  | .int k =>
    match x.num k, y.num k with
    | some m, some n => some (decide (m = n))
    | none, some n => if n < lowest A k x ∨ highest A k x < n then some false else if lowest A k x = n ∧ highest A k x = n then some true else none
    | some m, none => if m < lowest A k y ∨ highest A k y < m then some false else if lowest A k y = m ∧ highest A k y = m then some true else none
    | none, none => none

/-- Is it so (a bool's expression)? -/
def dec (A : Known) : E → Option Bool
  | .lit k n => some (decide (k.norm n ≠ 0))
  | .not a => (dec A a).map (!·)
  | .ite .bool c a b =>
    match dec A c with
    | some true => dec A a
    | some false => dec A b
    | none => none
  | .cmp .eql .bool a b =>
    match look? A (.cmp .eql .bool a b), dec A a, dec A b with
    | some r, _, _ => some r
    | none, some x, some y => some (x == y)
    | none, _, _ => decEql A .bool a b
  | .cmp .eql k a b => match look? A (.cmp .eql k a b) with | some r => some r | none => decEql A k a b
  | .cmp .neq k a b => (match look? A (.cmp .eql k a b) with | some r => some r | none => decEql A k a b).map (!·)
  | .cmp .lss k a b => match look? A (.cmp .lss k a b) with | some r => some r | none => decLss A k a b
  | .cmp .gtr k a b => match look? A (.cmp .lss k b a) with | some r => some r | none => decLss A k b a
  | .cmp .geq k a b => (match look? A (.cmp .lss k a b) with | some r => some r | none => decLss A k a b).map (!·)
  | .cmp .leq k a b => (match look? A (.cmp .lss k b a) with | some r => some r | none => decLss A k b a).map (!·)
  | e => look? A e

/-- The first that is not decided. -/
def atom (A : Known) : E → Option E
  | .lit _ _ => none
  | .not a => atom A a
  | .ite .bool c a b =>
    match dec A c with
    | some true => atom A a
    | some false => atom A b
    | none => atom A c
  | .cmp .eql .bool a b =>
    match dec A (.cmp .eql .bool a b) with
    | some _ => none
    | none => match atom A a with
      | some x => some x
      | none => match atom A b with
        | some x => some x
        | none => some (.cmp .eql .bool a b)
  | .cmp .eql k a b => match dec A (.cmp .eql k a b) with | some _ => none | none => some (.cmp .eql k a b)
  | .cmp .neq k a b => match dec A (.cmp .eql k a b) with | some _ => none | none => some (.cmp .eql k a b)
  | .cmp .lss k a b => match dec A (.cmp .lss k a b) with | some _ => none | none => some (.cmp .lss k a b)
  | .cmp .gtr k a b => match dec A (.cmp .lss k b a) with | some _ => none | none => some (.cmp .lss k b a)
  | .cmp .geq k a b => match dec A (.cmp .lss k a b) with | some _ => none | none => some (.cmp .lss k a b)
  | .cmp .leq k a b => match dec A (.cmp .lss k b a) with | some _ => none | none => some (.cmp .lss k b a)
  | e => match look? A e with | some _ => none | none => some e

/-- A condition within a number's expression that is not decided. -/
def inner (A : Known) : E → Option E
  | .ite _ c a b =>
    match dec A c with
    | some true => inner A a
    | some false => inner A b
    | none => atom A c
  | _ => none

/-- An expression, by what is known. -/
def simp1 (A : Known) (q : K) : E → E
  | .ite k c a b =>
    if k = q then
      match dec A c with
      | some true => simp1 A q a
      | some false => simp1 A q b
      | none => .ite k c a b
    else .ite k c a b
  | e => e

/-- Do two come to the same? no: what to ask. -/
def sameE (A : Known) (k : K) (x y : E) : Bool :=
  match k with
  | .bool => match dec A x, dec A y with
    | some a, some b => a == b
    | _, _ => x.beq y
  | .int k => (simp1 A (.int k) x).beq (simp1 A (.int k) y) || (match decEql A (.int k) (simp1 A (.int k) x) (simp1 A (.int k) y) with | some b => b | none => false)

def askE (A : Known) (k : K) (x y : E) : Option E :=
  match k with
  | .bool => match atom A x with | some a => some a | none => atom A y
  | .int _ => match inner A x with | some a => some a | none => inner A y

def sameAll (A : Known) : List (K × E) → List (K × E) → Bool
  | [], [] => true
  | (k, x) :: r, (k', y) :: r' => decide (k = k') && sameE A k x y && sameAll A r r'
  | _, _ => false

def askAll (A : Known) : List (K × E) → List (K × E) → Option E
  | (k, x) :: r, (_, y) :: r' => if sameE A k x y then askAll A r r' else askE A k x y
  | _, _ => none

/-- What may be asked of, where. -/
structure Avail where
  spec : Nat
  args : List (K × E)
  guard : Known
  deriving Inhabited

def sameArgs : List (K × E) → List (K × E) → Bool
  | [], [] => true
  | (k, x) :: r, (k', y) :: r' => decide (k = k') && x.beq y && sameArgs r r'
  | _, _ => false

def may (V : List Avail) (A : Known) (s : Nat) (l : List (K × E)) : Bool :=
  V.any fun v => v.spec == s && sameArgs v.args l && v.guard.all fun g => dec A g.1 == some g.2

/-- What cannot be. -/
def absurd' (N : List Known) (A : Known) : Bool :=
  (A.any fun p => match p with
    | (.cmp .eql (.int k) x (.lit kn n), false) => decEql (A.filter fun q => !(q.1.beq (.cmp .eql (.int k) x (.lit kn n)))) (.int k) x (.lit kn n) == some true
    | _ => false) ||
  N.any fun l => l.all fun p => dec A p.1 == some p.2

/-- Two trees tell the same. -/
def eqv {α β : Type} (f : α → Option (List (K × E))) (g : β → Option (List (K × E))) (V : List Avail) (N : List Known) : Nat → Known → T α → T β → Bool
  | 0, _, _, _ => false
  | n + 1, A, .ite c t e, u =>
    match dec A c with
    | some true => eqv f g V N n A t u
    | some false => eqv f g V N n A e u
    | none => match atom A c with
      | some x => eqv f g V N n ((x, true) :: A) (.ite c t e) u && eqv f g V N n ((x, false) :: A) (.ite c t e) u
      | none => false
  | n + 1, A, .need s l k, u => may V A s l && eqv f g V N n A k u
  | n + 1, A, .leaf a, .ite c t e =>
    match dec A c with
    | some true => eqv f g V N n A (.leaf a) t
    | some false => eqv f g V N n A (.leaf a) e
    | none => match atom A c with
      | some x => eqv f g V N n ((x, true) :: A) (.leaf a) (.ite c t e) && eqv f g V N n ((x, false) :: A) (.leaf a) (.ite c t e)
      | none => false
  | n + 1, A, .leaf a, .need s l k => may V A s l && eqv f g V N n A (.leaf a) k
  | n + 1, A, .leaf a, .leaf b =>
    match f a, g b with
    | some x, some y =>
      if sameAll A x y || absurd' N A then true else
      match askAll A x y with
      | some q => eqv f g V N n ((q, true) :: A) (.leaf a) (.leaf b) && eqv f g V N n ((q, false) :: A) (.leaf a) (.leaf b)
      | none => false
    | _, _ => false
  | _, _, _, _ => false
end Go.Sx

/- A tree, run on numbers: sound. -/
namespace Go.Sx

def GoodOut {α : Type} (O : Owe) (ρ : Nat → Int) (Q : (Nat → Int) → α → Prop) : Out α → Prop
  | .done ρ' a => Q ρ' a
  | .again l vs => O.inv l vs ∧ O.mu l vs < O.mu l (cur ρ l vs.length)
  | .stuck => False

theorem outF_ev {α : Type} {Φ : Spec} {O : Owe} {can : Nat → List Int → Bool} (hcan : ∀ s v, can s v = true → O.dom s v) : ∀ (t : T α) (ρ : Nat → Int) {Q : (Nat → Int) → α → Prop}, GoodOut O ρ Q (t.outF Φ can ρ) → t.Ev Φ O ρ Q
  | .leaf a, ρ, Q, h => h
  | .ite c t e, ρ, Q, h => by
    simp only [T.outF] at h
    refine ⟨fun hc => ?_, fun hc => ?_⟩
    · rw [if_neg hc] at h; exact outF_ev hcan t ρ h
    · rw [if_pos hc] at h; exact outF_ev hcan e ρ h
  | .need s l k, ρ, Q, h => by
    simp only [T.outF] at h
    split at h
    · rename_i hc; exact ⟨hcan _ _ hc, outF_ev hcan k ρ h⟩
    · exact h.elim
  | .loop _ _ _ _, ρ, Q, h => by simp only [T.outF] at h; exact h.elim
  | .again l es, ρ, Q, h => by
    simp only [T.outF, GoodOut, denL_length] at h
    exact h
  | .fail _, ρ, Q, h => by simp only [T.outF] at h; exact h.elim

def rcnt {α : Type} (f : List Int → Out α) : Nat → List Int → Nat
  | 0, _ => 0
  | k + 1, v => match f v with
    | .again _ vs => rcnt f k vs + 1
    | _ => 0

theorem rcnt_stable {α : Type} {l n : Nat} {f : List Int → Out α} {ρ' : Nat → Int} {a : α} : ∀ (k : Nat) (v : List Int), rounds l n f k v = .done ρ' a → ∀ N, k ≤ N → rcnt f N v = rcnt f k v
  | 0, v, h, _, _ => by simp [rounds] at h
  | k + 1, v, h, N, hN => by
    obtain ⟨N, rfl⟩ : ∃ m, N = m + 1 := ⟨N - 1, by omega⟩
    simp only [rounds] at h
    simp only [rcnt]
    cases hf : f v with
    | done ρ1 a1 => rfl
    | stuck => rfl
    | again l' vs =>
      rw [hf] at h
      simp only at h
      split at h
      · simp only
        rw [rcnt_stable k vs h N (by omega)]
      · cases h

theorem out_ev {α : Type} {Φ : Spec} {O : Owe} {can : Nat → List Int → Bool} (hcan : ∀ s v, can s v = true → O.dom s v) {N : Nat} : ∀ (t : T α) (ρ : Nat → Int) {ρ' : Nat → Int} {a : α} {Q : (Nat → Int) → α → Prop}, t.out Φ can N ρ = .done ρ' a → Q ρ' a →
    ∃ (inv : Nat → List Int → Prop) (mu : Nat → List Int → Nat), t.Ev Φ { dom := O.dom, inv, mu } ρ Q
  | .leaf b, ρ, ρ', a, Q, h, hq => by
    simp only [T.out, Out.done.injEq] at h
    obtain ⟨rfl, rfl⟩ := h
    exact ⟨fun _ _ => True, fun _ _ => 0, hq⟩
  | .ite c t e, ρ, ρ', a, Q, h, hq => by
    simp only [T.out] at h
    by_cases hc : c.den Φ ρ = 0
    · rw [if_pos hc] at h
      obtain ⟨inv, mu, hE⟩ := out_ev hcan e ρ h hq
      exact ⟨inv, mu, fun hn => absurd hc hn, fun _ => hE⟩
    · rw [if_neg hc] at h
      obtain ⟨inv, mu, hE⟩ := out_ev hcan t ρ h hq
      exact ⟨inv, mu, fun _ => hE, fun hz => absurd hz hc⟩
  | .need s l k, ρ, ρ', a, Q, h, hq => by
    simp only [T.out] at h
    split at h
    · rename_i hc
      obtain ⟨inv, mu, hE⟩ := out_ev hcan k ρ h hq
      exact ⟨inv, mu, hcan _ _ hc, hE⟩
    · cases h
  | .loop l init base step, ρ, ρ', a, Q, h, hq => by
    simp only [T.out] at h
    split at h
    rotate_left
    · cases h
    rename_i hb; subst hb
    let f : List Int → Out α := fun v => step.outF Φ can (upd ρ base v)
    refine ⟨fun l' v => l' = base ∧ v.length = init.length ∧ ∃ k, k ≤ N ∧ rounds base init.length f k v = .done ρ' a, fun _ v => rcnt f N v, ⟨rfl, denL_length _ _ _, N, Nat.le_refl _, h⟩, ?_⟩
    rintro v hvl ⟨_, _, k, hk, hr⟩
    refine outF_ev (O := { dom := O.dom, inv := fun l' v => l' = base ∧ v.length = init.length ∧ ∃ k, k ≤ N ∧ rounds base init.length f k v = .done ρ' a, mu := fun _ v => rcnt f N v }) hcan step _ ?_
    cases k with
    | zero => simp [rounds] at hr
    | succ k =>
      simp only [rounds] at hr
      show GoodOut _ _ _ (f v)
      cases hf : f v with
      | done ρ1 a1 =>
        rw [hf] at hr
        simp only [Out.done.injEq] at hr
        obtain ⟨rfl, rfl⟩ := hr
        exact hq
      | stuck => rw [hf] at hr; cases hr
      | again l' vs =>
        rw [hf] at hr
        simp only at hr
        split at hr
        · rename_i hc
          obtain ⟨rfl, hl⟩ := hc
          refine ⟨⟨rfl, hl, k, by omega, hr⟩, ?_⟩
          have hcur : cur (upd ρ l' v) l' vs.length = v := by
            rw [hl, ← hvl]; exact cur_upd fun i _ => rfl
          show rcnt f N vs < rcnt f N (cur (upd ρ l' v) l' vs.length)
          rw [hcur]
          have h1 : rcnt f N v = rcnt f k vs + 1 := by
            obtain ⟨M, rfl⟩ : ∃ m, N = m + 1 := ⟨N - 1, by omega⟩
            simp only [rcnt, hf]
            rw [rcnt_stable k vs hr M (by omega)]
          rw [h1, rcnt_stable k vs hr N (by omega)]
          omega
        · cases hr
  | .again _ _, ρ, ρ', a, Q, h, hq => by simp [T.out] at h
  | .fail _, ρ, ρ', a, Q, h, hq => by simp [T.out] at h

/-- What is known does not hang on what the loops are told. -/
theorem CtxOk.loops {C : Ctx} {Φ : Spec} {O : Owe} (h : CtxOk C Φ O) (inv : Nat → List Int → Prop) (mu : Nat → List Int → Nat) : CtxOk C Φ { dom := O.dom, inv, mu } :=
  ⟨h.con, h.fold, h.noGo, h.has, h.mixed, h.ext⟩

/-- The general contract. -/
theorem con_ok' {C : Ctx} {Φ : Spec} {O : Owe} (hC : CtxOk C Φ O) {g : Nat} {c : Con} {fuel : Nat} {t : T (SV × List SO × Nat)} (hcall : call C fuel 0 g (argsS c.args 0) [] (kindsOf c.args).length = t)
    (ht : ∀ (vs : List Int), vs.length = (kindsOf c.args).length → normL (kindsOf c.args) vs = vs → (c.total = false → O.dom c.spec vs) →
      ∃ (inv : Nat → List Int → Prop) (mu : Nat → List Int → Nat), t.Ev Φ { dom := O.dom, inv, mu } (fun i => vs.getD i 0) fun ρ p => ∃ l, flatRes c.res p.1 = some l ∧ E.denL Φ ρ l = fitted (kindsOf c.res) (Φ c.spec vs)) : ConOk C.P Φ O g c := by
  intro vs w hl hn hdom
  obtain ⟨inv, mu, hE⟩ := ht vs hl hn hdom
  let n : En := ⟨Φ, fun i => vs.getD i 0, fun _ => 0, fun _ => 0⟩
  rw [← hcall] at hE
  have hargs : SV.reL n (argsS c.args 0) = valsV c.args vs := by
    rw [argsS_eq, resAll_re (g := fun i => vs.getD i 0) (fun k i => by simp [E.den, n, norm_norm])]
    rw [normL_get _ _ hl hn]
  have := (all_ok { dom := O.dom, inv, mu } fuel C).call 0 g (argsS c.args 0) [] (kindsOf c.args).length _ w (fun b => b < w.heap.size) [] n w (hC.loops inv mu) (HR.empty w n _) (Nat.zero_le _) (argsS_ok _ _ (by omega)) hE
  rw [hargs] at this
  refine this.mono ?_
  rintro e w' ⟨n', v, h', nv', ⟨l, h1, h2⟩, rfl, hv, hH, hg⟩
  have hΦ : n'.Φ = Φ := hg.ag.Φ.symm
  refine ⟨?_, ⟨hH.os, hH.tape, hH.output, hH.size, fun b hb => (hH.kept b hb).2⟩⟩
  rw [tupledV_flat h1 hv, hΦ, h2]

/-- A contract out of a tree that is run on numbers. -/
theorem con_nums {C : Ctx} {Φ : Spec} {O : Owe} (hC : CtxOk C Φ O) {g : Nat} {c : Con} {fuel N : Nat} {t : T (SV × List SO × Nat)} {can : Nat → List Int → Bool} (hcan : ∀ s v, can s v = true → O.dom s v) (hcall : call C fuel 0 g (argsS c.args 0) [] (kindsOf c.args).length = t)
    (ht : ∀ (vs : List Int), vs.length = (kindsOf c.args).length → normL (kindsOf c.args) vs = vs → (c.total = false → O.dom c.spec vs) → T.nums Φ can N c.res t vs = some (fitted (kindsOf c.res) (Φ c.spec vs))) : ConOk C.P Φ O g c := by
  refine con_ok' hC hcall fun vs hl hn hdom => ?_
  have h := ht vs hl hn hdom
  unfold T.nums at h
  split at h
  · rename_i ρ p ho
    simp only [Option.map_eq_some_iff] at h
    obtain ⟨l, h1, h2⟩ := h
    exact out_ev hcan t _ ho ⟨l, h1, h2⟩
  · cases h

/-! ### Functions run on literals -/
theorem litS_re {n : En} : ∀ (ts : List VT) (vs : List Int), vs.length = (kindsOf ts).length → normL (kindsOf ts) vs = vs → SV.reL n (argsS ts 0) = SV.reL n (argsS ts 0) := fun _ _ _ _ => rfl

end Go.Sx

/- Two trees that tell the same: sound. -/
namespace Go.Sx

section
variable {Φ : Spec} {ρ : Nat → Int} {O : Owe}

def Holds (Φ : Spec) (ρ : Nat → Int) (A : Known) : Prop := ∀ p ∈ A, (p.1.den Φ ρ != 0) = p.2

theorem Holds.cons {A : Known} (h : Holds Φ ρ A) {e : E} {b : Bool} (he : (e.den Φ ρ != 0) = b) : Holds Φ ρ ((e, b) :: A) := by
  intro p hp
  rcases List.mem_cons.1 hp with rfl | hp
  · exact he
  · exact h p hp

theorem look_sound : ∀ {A : Known} {e : E} {b : Bool}, Holds Φ ρ A → look? A e = some b → (e.den Φ ρ != 0) = b
  | [], e, b, _, h => by simp [look?] at h
  | (x, c) :: A, e, b, hA, h => by
    simp only [look?] at h
    split at h
    · rename_i hb
      cases h
      rw [← E.beq_eq _ _ hb]
      exact hA _ List.mem_cons_self
    · exact look_sound (fun p hp => hA p (List.mem_cons_of_mem _ hp)) h

theorem cmp_ne (op : BinOp) (k : K) (a b : E) : ((E.cmp op k a b).den Φ ρ != 0) = bcmp op (k.norm (a.den Φ ρ)) (k.norm (b.den Φ ρ)) := by
  simp only [E.den, b2i_ne]

theorem lit_den (kn : K) (n : Int) : (E.lit kn n).den Φ ρ = kn.norm n := by simp [E.den]

theorem lowStep_sound {k : IntKind} {x : E} {low : Int} {p : E × Bool} (hl : low ≤ k.wrap (x.den Φ ρ)) (hp : (p.1.den Φ ρ != 0) = p.2) : lowStep k x low p ≤ k.wrap (x.den Φ ρ) := by
  unfold lowStep
  split
  · split
    · rename_i hc
      obtain ⟨rfl, hb⟩ := hc
      have := E.beq_eq _ _ hb; subst this
      simp only [cmp_ne, bcmp, decide_eq_false_iff_not, Int.not_lt, norm_int, lit_den] at hp
      exact Int.max_le.2 ⟨hl, hp⟩
    · exact hl
  · split
    · rename_i hc
      obtain ⟨rfl, hb⟩ := hc
      have := E.beq_eq _ _ hb; subst this
      simp only [cmp_ne, bcmp, decide_eq_true_eq, norm_int, lit_den] at hp
      exact Int.max_le.2 ⟨hl, hp⟩
    · exact hl
  · split
    · rename_i hc
      obtain ⟨rfl, hb⟩ := hc
      have := E.beq_eq _ _ hb; subst this
      simp only [cmp_ne, bcmp, beq_iff_eq, norm_int, lit_den] at hp
      exact Int.max_le.2 ⟨hl, Int.le_of_eq hp.symm⟩
    · exact hl
  · exact hl

theorem highStep_sound {k : IntKind} {x : E} {high : Int} {p : E × Bool} (hl : k.wrap (x.den Φ ρ) ≤ high) (hp : (p.1.den Φ ρ != 0) = p.2) : k.wrap (x.den Φ ρ) ≤ highStep k x high p := by
  unfold highStep
  split
  · split
    · rename_i hc
      obtain ⟨rfl, hb⟩ := hc
      have := E.beq_eq _ _ hb; subst this
      simp only [cmp_ne, bcmp, decide_eq_true_eq, norm_int, lit_den] at hp
      exact Int.le_min.2 ⟨hl, by omega⟩
    · exact hl
  · split
    · rename_i hc
      obtain ⟨rfl, hb⟩ := hc
      have := E.beq_eq _ _ hb; subst this
      simp only [cmp_ne, bcmp, decide_eq_false_iff_not, Int.not_lt, norm_int, lit_den] at hp
      exact Int.le_min.2 ⟨hl, hp⟩
    · exact hl
  · split
    · rename_i hc
      obtain ⟨rfl, hb⟩ := hc
      have := E.beq_eq _ _ hb; subst this
      simp only [cmp_ne, bcmp, beq_iff_eq, norm_int, lit_den] at hp
      exact Int.le_min.2 ⟨hl, Int.le_of_eq hp⟩
    · exact hl
  · exact hl

theorem lowest_sound {A : Known} (hA : Holds Φ ρ A) (k : IntKind) (x : E) : lowest A k x ≤ k.wrap (x.den Φ ρ) := by
  unfold lowest
  have : ∀ (A : Known) (low : Int), Holds Φ ρ A → low ≤ k.wrap (x.den Φ ρ) → A.foldl (lowStep k x) low ≤ k.wrap (x.den Φ ρ) := by
    intro A
    induction A with
    | nil => exact fun _ _ h => h
    | cons p A ih => exact fun low hA h => ih _ (fun q hq => hA q (List.mem_cons_of_mem _ hq)) (lowStep_sound h (hA p List.mem_cons_self))
  exact this A _ hA (wrap_range k _).1

theorem highest_sound {A : Known} (hA : Holds Φ ρ A) (k : IntKind) (x : E) : k.wrap (x.den Φ ρ) ≤ highest A k x := by
  unfold highest
  have : ∀ (A : Known) (high : Int), Holds Φ ρ A → k.wrap (x.den Φ ρ) ≤ high → k.wrap (x.den Φ ρ) ≤ A.foldl (highStep k x) high := by
    intro A
    induction A with
    | nil => exact fun _ _ h => h
    | cons p A ih => exact fun high hA h => ih _ (fun q hq => hA q (List.mem_cons_of_mem _ hq)) (highStep_sound h (hA p List.mem_cons_self))
  exact this A _ hA (wrap_range k _).2

theorem num_den {k : IntKind} {e : E} {m : Int} (h : e.num k = some m) : k.wrap (e.den Φ ρ) = m := by
  cases e <;> simp only [E.num, Option.some.injEq, reduceCtorEq] at h
  rw [lit_den]; exact h

theorem isLit_den {e : E} {m : Int} (h : e.isLit = some m) : e.den Φ ρ = m := by
  cases e <;> simp only [E.isLit, Option.some.injEq, reduceCtorEq] at h
  rw [lit_den]; exact h

theorem decLss_sound {A : Known} (hA : Holds Φ ρ A) {k : K} {x y : E} {b : Bool} (h : decLss A k x y = some b) : bcmp .lss (k.norm (x.den Φ ρ)) (k.norm (y.den Φ ρ)) = b := by
  unfold decLss at h
  split at h
  · cases h
  · rename_i k
    have hlx := lowest_sound hA k x
    have hhx := highest_sound hA k x
    have hly := lowest_sound hA k y
    have hhy := highest_sound hA k y
    show decide (k.wrap (x.den Φ ρ) < k.wrap (y.den Φ ρ)) = b
    split at h
    · rename_i m n hx hy
      cases h; rw [num_den hx, num_den hy]
    · rename_i n hx hy
      rw [num_den hy]
      split at h
      · cases h; simp only [decide_eq_true_eq]; omega
      · split at h
        · cases h; simp only [decide_eq_false_iff_not]; omega
        · cases h
    · rename_i m hx hy
      rw [num_den hx]
      split at h
      · cases h; simp only [decide_eq_true_eq]; omega
      · split at h
        · cases h; simp only [decide_eq_false_iff_not]; omega
        · cases h
    · split at h
      · rename_i hb
        cases h
        rw [E.beq_eq _ _ hb]; simp
      · cases h

theorem decEql_sound {A : Known} (hA : Holds Φ ρ A) {k : K} {x y : E} {b : Bool} (h : decEql A k x y = some b) : bcmp .eql (k.norm (x.den Φ ρ)) (k.norm (y.den Φ ρ)) = b := by
  unfold decEql at h
  split at h
  · rename_i hb
    cases h
    rw [E.beq_eq _ _ hb]; simp [bcmp]
  · split at h
    · split at h
      · rename_i m n hx hy
        cases h; rw [isLit_den hx, isLit_den hy]; simp only [bcmp]
        by_cases e : K.bool.norm m = K.bool.norm n <;> simp [e]
      · cases h
    · rename_i k
      have hlx := lowest_sound hA k x
      have hhx := highest_sound hA k x
      have hly := lowest_sound hA k y
      have hhy := highest_sound hA k y
      show (k.wrap (x.den Φ ρ) == k.wrap (y.den Φ ρ)) = b
      split at h
      · rename_i m n hx hy
        cases h; rw [num_den hx, num_den hy]
        by_cases e : m = n <;> simp [e]
      · rename_i n hx hy
        rw [num_den hy]
        split at h
        · cases h; simp only [beq_eq_false_iff_ne]; omega
        · split at h
          · cases h; simp only [beq_iff_eq]; omega
          · cases h
      · rename_i m hx hy
        rw [num_den hx]
        split at h
        · cases h; simp only [beq_eq_false_iff_ne]; omega
        · split at h
          · cases h; simp only [beq_iff_eq]; omega
          · cases h
      · cases h

theorem bool_eq_norm (x y : Int) : bcmp .eql (K.bool.norm x) (K.bool.norm y) = ((x != 0) == (y != 0)) := (eq_norm x y).symm

theorem dec_sound {A : Known} (hA : Holds Φ ρ A) : ∀ (e : E) {b : Bool}, dec A e = some b → (e.den Φ ρ != 0) = b
  | .lit k n, b, h => by
    simp only [dec, Option.some.injEq] at h
    rw [lit_den, ← h]
    by_cases e : k.norm n = 0 <;> simp [e]
  | .not a, b, h => by
    simp only [dec, Option.map_eq_some_iff] at h
    obtain ⟨c, h1, rfl⟩ := h
    have := dec_sound hA a h1
    simp only [E.den, b2i_ne, ← this]
    simp [bne]
  | .ite k c x y, b, h => by
    cases k with
    | bool =>
      simp only [dec] at h
      simp only [E.den]
      split at h
      · rename_i hc
        have hc' := dec_sound hA c hc
        have hx := dec_sound hA x h
        rw [if_neg (by simpa using hc'), norm_bool_ne]; exact hx
      · rename_i hc
        have hc' := dec_sound hA c hc
        have hy := dec_sound hA y h
        rw [if_pos (by simpa using hc'), norm_bool_ne]; exact hy
      · cases h
    | int k => simp only [dec] at h; exact look_sound hA h
  | .cmp op k x y, b, h => by
    have eqc : ∀ {b}, (match look? A (.cmp .eql k x y) with | some r => some r | none => decEql A k x y) = some b → bcmp .eql (k.norm (x.den Φ ρ)) (k.norm (y.den Φ ρ)) = b := by
      intro b h
      split at h
      · rename_i r hr; cases h
        have := look_sound hA hr
        rwa [cmp_ne] at this
      · exact decEql_sound hA h
    have lsc : ∀ {u v : E} {b}, (match look? A (.cmp .lss k u v) with | some r => some r | none => decLss A k u v) = some b → bcmp .lss (k.norm (u.den Φ ρ)) (k.norm (v.den Φ ρ)) = b := by
      intro u v b h
      split at h
      · rename_i r hr; cases h
        have := look_sound hA hr
        rwa [cmp_ne] at this
      · exact decLss_sound hA h
    rw [cmp_ne]
    cases op with
    | eql =>
      cases k with
      | bool =>
        simp only [dec] at h
        split at h
        · rename_i r hr; cases h
          have := look_sound hA hr
          rwa [cmp_ne] at this
        · rename_i u v hu hv; cases h
          rw [bool_eq_norm, dec_sound hA x (by assumption), dec_sound hA y (by assumption)]
        · exact decEql_sound hA h
      | int k => simp only [dec] at h; exact eqc h
    | neq =>
      simp only [dec, Option.map_eq_some_iff] at h
      obtain ⟨c, h1, rfl⟩ := h
      have := eqc h1
      rw [← this]; simp [bcmp, bne]
    | lss => simp only [dec] at h; exact lsc h
    | gtr =>
      simp only [dec] at h
      have := lsc h
      rw [← this]; simp [bcmp]
    | geq =>
      simp only [dec, Option.map_eq_some_iff] at h
      obtain ⟨c, h1, rfl⟩ := h
      have := lsc h1
      rw [← this]; simp only [bcmp, ge_iff_le]
      by_cases e : k.norm (x.den Φ ρ) < k.norm (y.den Φ ρ) <;> simp [e, Int.not_lt] <;> omega
    | leq =>
      simp only [dec, Option.map_eq_some_iff] at h
      obtain ⟨c, h1, rfl⟩ := h
      have := lsc h1
      rw [← this]; simp only [bcmp]
      by_cases e : k.norm (y.den Φ ρ) < k.norm (x.den Φ ρ) <;> simp [e, Int.not_lt] <;> omega
    | _ =>
      simp only [dec] at h
      have := look_sound hA h
      rwa [cmp_ne] at this
  | .var k i, b, h => by simp only [dec] at h; exact look_sound hA h
  | .bin op k k2 x y, b, h => by simp only [dec] at h; exact look_sound hA h
  | .conv k k1 x, b, h => by simp only [dec] at h; exact look_sound hA h
  | .app k s l i, b, h => by simp only [dec] at h; exact look_sound hA h

theorem simp1_sound {A : Known} (hA : Holds Φ ρ A) (q : K) : ∀ e : E, q.norm ((simp1 A q e).den Φ ρ) = q.norm (e.den Φ ρ)
  | .ite k c x y => by
    simp only [simp1]
    split
    · rename_i hk; subst hk
      split
      · rename_i hc
        have hc' := dec_sound hA c hc
        rw [simp1_sound hA k x]
        simp only [E.den]
        rw [if_neg (by simpa using hc'), norm_norm]
      · rename_i hc
        have hc' := dec_sound hA c hc
        rw [simp1_sound hA k y]
        simp only [E.den]
        rw [if_pos (by simpa using hc'), norm_norm]
      · rfl
    · rfl
  | .lit _ _ => rfl
  | .not _ => rfl
  | .cmp _ _ _ _ => rfl
  | .var _ _ => rfl
  | .bin _ _ _ _ _ => rfl
  | .conv _ _ _ => rfl
  | .app _ _ _ _ => rfl

theorem sameE_sound {A : Known} (hA : Holds Φ ρ A) {k : K} {x y : E} (h : sameE A k x y = true) : k.norm (x.den Φ ρ) = k.norm (y.den Φ ρ) := by
  unfold sameE at h
  split at h
  · split at h
    · rename_i a b ha hb
      have h1 := dec_sound hA x ha
      have h2 := dec_sound hA y hb
      have := bool_eq_norm (x.den Φ ρ) (y.den Φ ρ)
      rw [h1, h2, h] at this
      simpa [bcmp] using this
    · rw [E.beq_eq _ _ h]
  · rename_i k
    simp only [Bool.or_eq_true] at h
    rw [← simp1_sound hA (.int k) x, ← simp1_sound hA (.int k) y]
    rcases h with h | h
    · rw [E.beq_eq _ _ h]
    · split at h
      · rename_i b hb
        subst h
        have := decEql_sound hA hb
        simpa [bcmp] using this
      · cases h

theorem sameAll_sound {A : Known} (hA : Holds Φ ρ A) : ∀ {x y : List (K × E)}, sameAll A x y = true → E.denL Φ ρ x = E.denL Φ ρ y
  | [], [], _ => rfl
  | [], _ :: _, h => by simp [sameAll] at h
  | _ :: _, [], h => by simp [sameAll] at h
  | (k, x) :: r, (k', y) :: r', h => by
    simp only [sameAll, Bool.and_eq_true, decide_eq_true_eq] at h
    obtain ⟨⟨rfl, h2⟩, h3⟩ := h
    simp only [E.denL]
    rw [sameE_sound hA h2, sameAll_sound hA h3]

theorem sameArgs_sound : ∀ {x y : List (K × E)}, sameArgs x y = true → E.denL Φ ρ x = E.denL Φ ρ y
  | [], [], _ => rfl
  | [], _ :: _, h => by simp [sameArgs] at h
  | _ :: _, [], h => by simp [sameArgs] at h
  | (k, x) :: r, (k', y) :: r', h => by
    simp only [sameArgs, Bool.and_eq_true, decide_eq_true_eq] at h
    obtain ⟨⟨rfl, h2⟩, h3⟩ := h
    simp only [E.denL]
    rw [E.beq_eq _ _ h2, sameArgs_sound h3]

/-- What may be asked of. -/
def AvailOk (Φ : Spec) (ρ : Nat → Int) (O : Owe) (V : List Avail) : Prop := ∀ v ∈ V, Holds Φ ρ v.guard → O.dom v.spec (E.denL Φ ρ v.args)
/-- What cannot be. -/
def NeverOk (Φ : Spec) (ρ : Nat → Int) (N : List Known) : Prop := ∀ l ∈ N, ¬ Holds Φ ρ l

theorem may_sound {V : List Avail} (hV : AvailOk Φ ρ O V) {A : Known} (hA : Holds Φ ρ A) {s : Nat} {l : List (K × E)} (h : may V A s l = true) : O.dom s (E.denL Φ ρ l) := by
  unfold may at h
  obtain ⟨v, hv, h⟩ := List.any_eq_true.1 h
  simp only [Bool.and_eq_true, beq_iff_eq, List.all_eq_true] at h
  obtain ⟨⟨rfl, h2⟩, h3⟩ := h
  rw [← sameArgs_sound h2]
  exact hV v hv fun p hp => dec_sound hA p.1 (h3 p hp)

theorem absurd_sound {N : List Known} (hN : NeverOk Φ ρ N) {A : Known} (hA : Holds Φ ρ A) (h : absurd' N A = true) : False := by
  unfold absurd' at h
  simp only [Bool.or_eq_true, List.any_eq_true] at h
  rcases h with ⟨p, hp, h⟩ | ⟨l, hl, h⟩
  · split at h
    · rename_i k x kn n
      have hp' := hA _ hp
      have hd : decEql (A.filter fun q => !(q.1.beq (.cmp .eql (.int k) x (.lit kn n)))) (.int k) x (.lit kn n) = some true := by simpa using h
      have := decEql_sound (fun q hq => hA q (List.mem_filter.1 hq).1) hd
      simp only [cmp_ne] at hp'
      rw [this] at hp'; cases hp'
    · cases h
  · refine hN l hl fun p hp => ?_
    have := List.all_eq_true.1 h p hp
    exact dec_sound hA p.1 (by simpa using this)

/-- TWO TREES TELL THE SAME. -/
theorem eqv_sound {α β : Type} {f : α → Option (List (K × E))} {g : β → Option (List (K × E))} {V : List Avail} {N : List Known} (hV : AvailOk Φ ρ O V) (hN : NeverOk Φ ρ N) : ∀ (n : Nat) (A : Known) (t : T α) (u : T β), Holds Φ ρ A → eqv f g V N n A t u = true →
    ∃ R : List Int, t.Ev Φ O ρ (fun ρ' a => ρ' = ρ ∧ ∃ x, f a = some x ∧ E.denL Φ ρ x = R) ∧ u.Ev Φ O ρ (fun ρ' b => ρ' = ρ ∧ ∃ y, g b = some y ∧ E.denL Φ ρ y = R)
  | 0, A, t, u, _, h => by simp [eqv] at h
  | n + 1, A, .ite c t e, u, hA, h => by
    simp only [eqv] at h
    split at h
    · rename_i hc
      have hc' := dec_sound hA c hc
      obtain ⟨R, h1, h2⟩ := eqv_sound hV hN n A t u hA h
      exact ⟨R, ⟨fun _ => h1, fun hz => by simp [hz] at hc'⟩, h2⟩
    · rename_i hc
      have hc' := dec_sound hA c hc
      obtain ⟨R, h1, h2⟩ := eqv_sound hV hN n A e u hA h
      exact ⟨R, ⟨fun hz => by simp [hz] at hc', fun _ => h1⟩, h2⟩
    · split at h
      · rename_i x _
        simp only [Bool.and_eq_true] at h
        by_cases hx : (x.den Φ ρ != 0) = true
        · exact eqv_sound hV hN n _ _ u (hA.cons hx) h.1
        · exact eqv_sound hV hN n _ _ u (hA.cons (by simpa using hx)) h.2
      · cases h
  | n + 1, A, .need s l k, u, hA, h => by
    simp only [eqv, Bool.and_eq_true] at h
    obtain ⟨R, h1, h2⟩ := eqv_sound hV hN n A k u hA h.2
    exact ⟨R, ⟨may_sound hV hA h.1, h1⟩, h2⟩
  | n + 1, A, .leaf a, .ite c t e, hA, h => by
    simp only [eqv] at h
    split at h
    · rename_i hc
      have hc' := dec_sound hA c hc
      obtain ⟨R, h1, h2⟩ := eqv_sound hV hN n A (.leaf a) t hA h
      exact ⟨R, h1, ⟨fun _ => h2, fun hz => by simp [hz] at hc'⟩⟩
    · rename_i hc
      have hc' := dec_sound hA c hc
      obtain ⟨R, h1, h2⟩ := eqv_sound hV hN n A (.leaf a) e hA h
      exact ⟨R, h1, ⟨fun hz => by simp [hz] at hc', fun _ => h2⟩⟩
    · split at h
      · rename_i x _
        simp only [Bool.and_eq_true] at h
        by_cases hx : (x.den Φ ρ != 0) = true
        · exact eqv_sound hV hN n _ _ _ (hA.cons hx) h.1
        · exact eqv_sound hV hN n _ _ _ (hA.cons (by simpa using hx)) h.2
      · cases h
  | n + 1, A, .leaf a, .need s l k, hA, h => by
    simp only [eqv, Bool.and_eq_true] at h
    obtain ⟨R, h1, h2⟩ := eqv_sound hV hN n A (.leaf a) k hA h.2
    exact ⟨R, h1, ⟨may_sound hV hA h.1, h2⟩⟩
  | n + 1, A, .leaf a, .leaf b, hA, h => by
    simp only [eqv] at h
    split at h
    · rename_i x y hx hy
      split at h
      · rename_i hs
        simp only [Bool.or_eq_true] at hs
        rcases hs with hs | hs
        · exact ⟨E.denL Φ ρ x, ⟨rfl, x, hx, rfl⟩, ⟨rfl, y, hy, (sameAll_sound hA hs).symm⟩⟩
        · exact (absurd_sound hN hA hs).elim
      · split at h
        · rename_i q _
          simp only [Bool.and_eq_true] at h
          by_cases hq : (q.den Φ ρ != 0) = true
          · exact eqv_sound hV hN n _ _ _ (hA.cons hq) h.1
          · exact eqv_sound hV hN n _ _ _ (hA.cons (by simpa using hq)) h.2
        · cases h
    · cases h
  | n + 1, A, .leaf a, .loop _ _ _ _, hA, h => by simp [eqv] at h
  | n + 1, A, .leaf a, .again _ _, hA, h => by simp [eqv] at h
  | n + 1, A, .leaf a, .fail _, hA, h => by simp [eqv] at h
  | n + 1, A, .loop _ _ _ _, u, hA, h => by simp [eqv] at h
  | n + 1, A, .again _ _, u, hA, h => by simp [eqv] at h
  | n + 1, A, .fail _, u, hA, h => by simp [eqv] at h

/-- A tree without loops: run on numbers. -/
theorem ev_outF {α : Type} {P : α → Prop} : ∀ (t : T α), t.Free → t.Ev Φ O ρ (fun ρ' a => ρ' = ρ ∧ P a) → ∃ a, t.outF Φ (fun _ _ => true) ρ = .done ρ a ∧ P a
  | .leaf a, _, h => ⟨a, rfl, h.2⟩
  | .ite c t e, hf, h => by
    simp only [T.outF]
    by_cases hc : c.den Φ ρ = 0
    · rw [if_pos hc]; exact ev_outF e hf.2 (h.2 hc)
    · rw [if_neg hc]; exact ev_outF t hf.1 (h.1 hc)
  | .need s l k, hf, h => by
    simp only [T.outF, if_true]
    exact ev_outF k hf h.2
  | .loop _ _ _ _, hf, _ => hf.elim
  | .again _ _, hf, _ => hf.elim
  | .fail _, _, h => h.elim
end
end Go.Sx

/- A function, run on literals; a contract out of a table. -/
namespace Go.Sx
open Go.RowKit

/-- Arguments that are told. -/
def litS (ts : List VT) (vs : List Int) : List SV := resAll (fun k i => .lit k (vs.getD i 0)) ts 0

/-- It comes to that. -/
def runsTo (C : Ctx) (fuel g : Nat) (c : Con) (vs r : List Int) : Bool :=
  match call C fuel 0 g (litS c.args vs) [] 0 with
  | .leaf (v, _, _) => match (flatRes c.res v).bind litVals with
    | some l => l == r
    | none => false
  | _ => false

theorem flatRes_fst {ts : List VT} {v : SV} {l : List (K × E)} (h : flatRes ts v = some l) : l.map Prod.fst = kindsOf ts := by
  have key : ∀ {ts : List VT} {args : List SV} {l : List (K × E)}, flatArgs ts args = some l → l.map Prod.fst = kindsOf ts := by
    intro ts
    induction ts with
    | nil =>
      intro args l h
      cases args with
      | nil => simp only [flatArgs, Option.some.injEq] at h; subst h; rfl
      | cons _ _ => simp [flatArgs] at h
    | cons t ts ih =>
      intro args l h
      cases t with
      | one k =>
        cases args with
        | nil => simp [flatArgs] at h
        | cons v r =>
          simp only [flatArgs] at h
          split at h
          · rename_i a b ha hb; cases h
            simp [kindsOf, VT.kinds, kinds_fst ha]
            exact ih hb
          · cases h
      | agg ks =>
        cases args with
        | nil => simp [flatArgs] at h
        | cons v r =>
          cases v <;> first | (simp [flatArgs] at h; done) | skip
          simp only [flatArgs] at h
          split at h
          · rename_i a b ha hb; cases h
            simp [kindsOf, VT.kinds, kinds_fst ha]
            exact ih hb
          · cases h
  unfold flatRes at h
  split at h
  · exact key h
  · split at h
    · exact key h
    · cases h

theorem fitted_self {ks : List K} {r : List Int} (hl : r.length = ks.length) (hn : normL ks r = r) : fitted ks r = r := by
  unfold fitted
  exact normL_get ks r hl hn

theorem denL_fitted {Φ : Spec} {ρ : Nat → Int} {ts : List VT} {v : SV} {l : List (K × E)} (h : flatRes ts v = some l) : fitted (kindsOf ts) (E.denL Φ ρ l) = E.denL Φ ρ l := by
  have h1 := flatRes_fst h
  refine fitted_self (by rw [denL_length, ← h1, List.length_map]) ?_
  rw [← h1]; exact normL_denL Φ ρ l

theorem lit_run {C : Ctx} {Φ : Spec} {O : Owe} (hC : CtxOk C Φ O) {fuel g : Nat} {c : Con} {vs r : List Int} (h : runsTo C fuel g c vs r = true) (hl : vs.length = (kindsOf c.args).length) (hn : normL (kindsOf c.args) vs = vs) (w : World) :
    Calls C.P g (valsV c.args vs).toArray w fun e w' => e = .returned (tupledV (valsV c.res (fitted (kindsOf c.res) r))) ∧ Below w.heap.size w w' := by
  unfold runsTo at h
  split at h
  · rename_i v h' nv' hcall
    split at h
    · rename_i l hl'
      have hr : l = r := by simpa using h
      subst hr
      simp only [Option.bind_eq_some_iff] at hl'
      obtain ⟨l0, h1, h2⟩ := hl'
      let n : En := ⟨Φ, fun _ => 0, fun _ => 0, fun _ => 0⟩
      have hargs : SV.reL n (litS c.args vs) = valsV c.args vs := by
        unfold litS
        rw [resAll_re (g := fun i => vs.getD i 0) (fun k i => by simp [E.den, norm_norm])]
        rw [normL_get _ _ hl hn]
      have hok : SV.OkL ([] : List SO).length 0 (litS c.args vs) := resAll_ok (fun k i => rfl) _ _
      have hE : (call C fuel 0 g (litS c.args vs) [] 0).Ev Φ O n.ρ fun ρ p => p = (v, h', nv') := by
        rw [hcall]; exact rfl
      have := (all_ok O fuel C).call 0 g (litS c.args vs) [] 0 _ w (fun b => b < w.heap.size) [] n w hC (HR.empty w n _) (Nat.zero_le _) hok hE
      rw [hargs] at this
      refine this.mono ?_
      rintro e w' ⟨n', v', h'', nv'', hp, rfl, hv, hH, hg⟩
      simp only [Prod.mk.injEq] at hp
      obtain ⟨rfl, rfl, rfl⟩ := hp
      refine ⟨?_, ⟨hH.os, hH.tape, hH.output, hH.size, fun b hb => (hH.kept b hb).2⟩⟩
      rw [tupledV_flat h1 hv]
      rw [← denL_fitted h1, litVals_ok n'.Φ n'.ρ h2]
    · cases h
  · cases h

/-- A CONTRACT OUT OF A TABLE. -/
theorem con_tab {C : Ctx} {Φ : Spec} {O : Owe} (hC : CtxOk C Φ O) {fuel g : Nat} {c : Con} {tab : List (List Int × List Int)} (ht : c.total = false) (hdom : ∀ vs, O.dom c.spec vs → ∃ r, (vs, r) ∈ tab ∧ Φ c.spec vs = r)
    (hrun : (tab.all fun e => runsTo C fuel g c e.1 e.2) = true) : ConOk C.P Φ O g c := by
  intro vs w hl hn hd
  obtain ⟨r, hr, hΦ⟩ := hdom vs (hd ht)
  have := lit_run hC (List.all_eq_true.1 hrun _ hr) hl hn w
  rw [hΦ]
  exact this

/-! ### On which specs a tree hangs -/
mutual
def E.only (p : Nat → Bool) : E → Bool
  | .var _ _ => true
  | .lit _ _ => true
  | .bin _ _ _ a b => a.only p && b.only p
  | .conv _ _ a => a.only p
  | .cmp _ _ a b => a.only p && b.only p
  | .not a => a.only p
  | .ite _ c a b => c.only p && a.only p && b.only p
  | .app _ s l _ => p s && E.onlyL p l
def E.onlyL (p : Nat → Bool) : List (K × E) → Bool
  | [] => true
  | (_, a) :: r => a.only p && E.onlyL p r
end

mutual
theorem E.den_only {p : Nat → Bool} {Φ Φ' : Spec} (h : ∀ s, p s = true → Φ s = Φ' s) {ρ : Nat → Int} : ∀ e : E, e.only p = true → e.den Φ ρ = e.den Φ' ρ
  | .var _ _, _ => rfl
  | .lit _ _, _ => rfl
  | .bin _ _ _ a b, hu => by
    simp only [E.only, Bool.and_eq_true] at hu
    simp only [E.den]; rw [E.den_only h a hu.1, E.den_only h b hu.2]
  | .conv _ _ a, hu => by simp only [E.only] at hu; simp only [E.den]; rw [E.den_only h a hu]
  | .cmp _ _ a b, hu => by
    simp only [E.only, Bool.and_eq_true] at hu
    simp only [E.den]; rw [E.den_only h a hu.1, E.den_only h b hu.2]
  | .not a, hu => by simp only [E.only] at hu; simp only [E.den]; rw [E.den_only h a hu]
  | .ite _ c a b, hu => by
    simp only [E.only, Bool.and_eq_true] at hu
    simp only [E.den]; rw [E.den_only h c hu.1.1, E.den_only h a hu.1.2, E.den_only h b hu.2]
  | .app _ s l i, hu => by
    simp only [E.only, Bool.and_eq_true] at hu
    simp only [E.den]; rw [h s hu.1, E.denL_only h l hu.2]
theorem E.denL_only {p : Nat → Bool} {Φ Φ' : Spec} (h : ∀ s, p s = true → Φ s = Φ' s) {ρ : Nat → Int} : ∀ l : List (K × E), E.onlyL p l = true → E.denL Φ ρ l = E.denL Φ' ρ l
  | [], _ => rfl
  | (_, a) :: r, hu => by
    simp only [E.onlyL, Bool.and_eq_true] at hu
    simp only [E.denL]; rw [E.den_only h a hu.1, E.denL_only h r hu.2]
end

/-- Of trees without loops, whose outcomes are as 'q' asks. -/
def T.only {α : Type} (p : Nat → Bool) (q : α → Bool) : T α → Bool
  | .leaf a => q a
  | .ite c t e => c.only p && t.only p q && e.only p q
  | .need _ _ k => k.only p q
  | .loop _ _ _ _ => false
  | .again _ _ => false
  | .fail _ => true

theorem T.outF_only {α : Type} {p : Nat → Bool} {q : α → Bool} {Φ Φ' : Spec} (h : ∀ s, p s = true → Φ s = Φ' s) {ρ ρ' : Nat → Int} {a : α} : ∀ t : T α, t.only p q = true → t.outF Φ (fun _ _ => true) ρ = .done ρ' a → t.outF Φ' (fun _ _ => true) ρ = .done ρ' a ∧ q a = true ∧ ρ' = ρ
  | .leaf b, hq, hh => by
    simp only [T.outF, Out.done.injEq] at hh ⊢
    obtain ⟨rfl, rfl⟩ := hh
    exact ⟨⟨rfl, rfl⟩, hq, rfl⟩
  | .ite c t e, hq, hh => by
    simp only [T.only, Bool.and_eq_true] at hq
    simp only [T.outF] at hh ⊢
    rw [← E.den_only h c hq.1.1]
    split at hh
    · rename_i hc; rw [if_pos hc]; exact T.outF_only h e hq.2 hh
    · rename_i hc; rw [if_neg hc]; exact T.outF_only h t hq.1.2 hh
  | .need s l k, hq, hh => by
    simp only [T.only] at hq
    simp only [T.outF, if_true] at hh ⊢
    exact T.outF_only h k hq hh
  | .loop _ _ _ _, hq, hh => by simp [T.outF] at hh
  | .again _ _, hq, hh => by simp [T.outF] at hh
  | .fail _, hq, hh => by simp [T.outF] at hh

/-- What a tree without loops comes to, under some specs. -/
def treeSpec (Φ : Spec) (res : List VT) (t : T (SV × List SO × Nat)) (vs : List Int) : List Int :=
  match t.outF Φ (fun _ _ => true) (fun i => vs.getD i 0) with
  | .done ρ p => match flatRes res p.1 with
    | some l => E.denL Φ ρ l
    | none => []
  | _ => []

def onlyRes (p : Nat → Bool) (res : List VT) : SV × List SO × Nat → Bool := fun x => match flatRes res x.1 with | some l => E.onlyL p l | none => true

/-- A PAIR OF FUNCTIONS THAT TELL THE SAME: both have the contract that the first's tree tells. -/
theorem con_pair {C C' : Ctx} {Φ Φ0 : Spec} {O : Owe} (hC : CtxOk C Φ O) (hC' : CtxOk C' Φ O) {g g' : Nat} {c : Con} {fuel fuel' : Nat} {t t' : T (SV × List SO × Nat)} {V : List Avail} {N : List Known} {A : Known} {m : Nat} {p : Nat → Bool}
    (hcall : call C fuel 0 g (argsS c.args 0) [] (kindsOf c.args).length = t) (hcall' : call C' fuel' 0 g' (argsS c.args 0) [] (kindsOf c.args).length = t')
    (hfree : t.Free) (honly : t.only p (onlyRes p c.res) = true) (hp : ∀ s, p s = true → Φ s = Φ0 s) (hΦ : ∀ vs, Φ c.spec vs = treeSpec Φ0 c.res t vs)
    (heqv : eqv (fun (x : SV × List SO × Nat) => flatRes c.res x.1) (fun (x : SV × List SO × Nat) => flatRes c.res x.1) V N m A t t' = true)
    (hs : ∀ (vs : List Int), vs.length = (kindsOf c.args).length → normL (kindsOf c.args) vs = vs → (c.total = false → O.dom c.spec vs) →
      AvailOk Φ (fun i => vs.getD i 0) O V ∧ NeverOk Φ (fun i => vs.getD i 0) N ∧ Holds Φ (fun i => vs.getD i 0) A) : ConOk C.P Φ O g c ∧ ConOk C'.P Φ O g' c := by
  have key : ∀ (vs : List Int), vs.length = (kindsOf c.args).length → normL (kindsOf c.args) vs = vs → (c.total = false → O.dom c.spec vs) →
      (t.Ev Φ O (fun i => vs.getD i 0) fun ρ p => ∃ l, flatRes c.res p.1 = some l ∧ E.denL Φ ρ l = fitted (kindsOf c.res) (Φ c.spec vs)) ∧
      (t'.Ev Φ O (fun i => vs.getD i 0) fun ρ p => ∃ l, flatRes c.res p.1 = some l ∧ E.denL Φ ρ l = fitted (kindsOf c.res) (Φ c.spec vs)) := by
    intro vs hl hn hd
    obtain ⟨hV, hN, hA⟩ := hs vs hl hn hd
    obtain ⟨R, h1, h2⟩ := eqv_sound hV hN m A t t' hA heqv
    obtain ⟨a, h3, x, hx, hR⟩ := ev_outF t hfree h1
    obtain ⟨h4, h5, _⟩ := T.outF_only hp t honly h3
    have hsp : Φ c.spec vs = R := by
      rw [hΦ]
      unfold treeSpec
      rw [h4]
      simp only [hx]
      have : E.onlyL p x = true := by
        unfold onlyRes at h5
        rw [hx] at h5; exact h5
      rw [← E.denL_only hp x this, hR]
    have hfit : fitted (kindsOf c.res) R = R := by rw [← hR]; exact denL_fitted hx
    rw [hsp, hfit]
    refine ⟨T.Ev_mono t _ ?_ h1, T.Ev_mono t' _ ?_ h2⟩
    · rintro ρ b ⟨rfl, y, hy, hyR⟩; exact ⟨y, hy, hyR⟩
    · rintro ρ b ⟨rfl, y, hy, hyR⟩; exact ⟨y, hy, hyR⟩
  exact ⟨con_ok hC hcall fun vs hl hn hd => (key vs hl hn hd).1, con_ok hC' hcall' fun vs hl hn hd => (key vs hl hn hd).2⟩

end Go.Sx

/- Calls at told arguments; two functions that tell the same, whatever it is. -/
namespace Go.Sx
open Go.RowKit

/-- What a function comes to at some arguments. -/
def Tells (P : Program) (g : Nat) (c : Con) (vs r : List Int) : Prop :=
  ∀ w : World, Calls P g (valsV c.args vs).toArray w fun e w' => e = .returned (tupledV (valsV c.res (fitted (kindsOf c.res) r))) ∧ Below w.heap.size w w'

theorem conOk_tells {P : Program} {Φ : Spec} {O : Owe} {g : Nat} {c : Con} (h : ∀ vs : List Int, vs.length = (kindsOf c.args).length → normL (kindsOf c.args) vs = vs → (c.total = false → O.dom c.spec vs) → Tells P g c vs (Φ c.spec vs)) : ConOk P Φ O g c :=
  fun vs w h1 h2 h3 => h vs h1 h2 h3 w

/-- One call, at some arguments. -/
theorem tells_at {C : Ctx} {Φ : Spec} {O : Owe} (hC : CtxOk C Φ O) {ρ : Nat → Int} {g fuel m : Nat} {c : Con} {args : List SV} {vs R : List Int}
    (hre : ∀ n : En, n.ρ = ρ → SV.reL n args = valsV c.args vs) (hok : SV.OkL 0 m args)
    (hE : (call C fuel 0 g args [] m).Ev Φ O ρ fun ρ' p => ∃ l, flatRes c.res p.1 = some l ∧ E.denL Φ ρ' l = fitted (kindsOf c.res) R) : Tells C.P g c vs R := by
  intro w
  let n : En := ⟨Φ, ρ, fun _ => 0, fun _ => 0⟩
  have := (all_ok O fuel C).call 0 g args [] m _ w (fun b => b < w.heap.size) [] n w hC (HR.empty w n _) (Nat.zero_le _) hok hE
  rw [hre n rfl] at this
  refine this.mono ?_
  rintro e w' ⟨n', v, h', nv', ⟨l, h1, h2⟩, rfl, hv, hH, hg⟩
  have hΦ : n'.Φ = Φ := hg.ag.Φ.symm
  refine ⟨?_, ⟨hH.os, hH.tape, hH.output, hH.size, fun b hb => (hH.kept b hb).2⟩⟩
  rw [tupledV_flat h1 hv, hΦ, h2]

/-- The arguments that are variables. -/
theorem argsS_re {n : En} {ts : List VT} {vs : List Int} (hρ : n.ρ = fun i => vs.getD i 0) (hl : vs.length = (kindsOf ts).length) (hn : normL (kindsOf ts) vs = vs) : SV.reL n (argsS ts 0) = valsV ts vs := by
  rw [argsS_eq, resAll_re (g := fun i => vs.getD i 0) (fun k i => by simp [E.den, hρ, norm_norm])]
  rw [normL_get _ _ hl hn]

/-- Two functions that tell the same at some arguments. -/
theorem pair_at {C C' : Ctx} {Φ : Spec} {O : Owe} (hC : CtxOk C Φ O) (hC' : CtxOk C' Φ O) {ρ : Nat → Int} {g g' fuel fuel' m k : Nat} {c : Con} {args : List SV} {vs : List Int} {V : List Avail} {N : List Known} {A : Known}
    (hre : ∀ n : En, n.ρ = ρ → SV.reL n args = valsV c.args vs) (hok : SV.OkL 0 m args)
    (heqv : eqv (fun (x : SV × List SO × Nat) => flatRes c.res x.1) (fun (x : SV × List SO × Nat) => flatRes c.res x.1) V N k A (call C fuel 0 g args [] m) (call C' fuel' 0 g' args [] m) = true)
    (hV : AvailOk Φ ρ O V) (hN : NeverOk Φ ρ N) (hA : Holds Φ ρ A) : ∃ r, Tells C.P g c vs r ∧ Tells C'.P g' c vs r := by
  obtain ⟨R, h1, h2⟩ := eqv_sound hV hN k A _ _ hA heqv
  have key : ∀ {t : T (SV × List SO × Nat)}, t.Ev Φ O ρ (fun ρ' a => ρ' = ρ ∧ ∃ x, flatRes c.res a.1 = some x ∧ E.denL Φ ρ x = R) → t.Ev Φ O ρ fun ρ' p => ∃ l, flatRes c.res p.1 = some l ∧ E.denL Φ ρ' l = fitted (kindsOf c.res) R := by
    intro t h
    refine T.Ev_mono t _ ?_ h
    rintro ρ' b ⟨rfl, y, hy, hyR⟩
    exact ⟨y, hy, by rw [← hyR, denL_fitted hy]⟩
  exact ⟨R, tells_at hC hre hok (key h1), tells_at hC' hre hok (key h2)⟩

/-- A function that comes to what some expressions come to. -/
theorem tells_leaf {C : Ctx} {Φ : Spec} {O : Owe} (hC : CtxOk C Φ O) {ρ : Nat → Int} {g fuel m k : Nat} {c : Con} {args : List SV} {vs : List Int} {V : List Avail} {N : List Known} {A : Known} {es : List (K × E)}
    (hre : ∀ n : En, n.ρ = ρ → SV.reL n args = valsV c.args vs) (hok : SV.OkL 0 m args)
    (heqv : eqv (fun (x : SV × List SO × Nat) => flatRes c.res x.1) (fun (_ : Unit) => some es) V N k A (call C fuel 0 g args [] m) (.leaf ()) = true)
    (hV : AvailOk Φ ρ O V) (hN : NeverOk Φ ρ N) (hA : Holds Φ ρ A) : Tells C.P g c vs (E.denL Φ ρ es) := by
  obtain ⟨R, h1, h2⟩ := eqv_sound hV hN k A _ _ hA heqv
  simp only [T.Ev, Option.some.injEq, exists_eq_left', true_and] at h2
  refine tells_at hC hre hok (T.Ev_mono _ _ ?_ h1)
  rintro ρ' b ⟨rfl, y, hy, hyR⟩
  exact ⟨y, hy, by rw [h2, ← hyR, denL_fitted hy]⟩

open Classical in
/-- What two functions tell, if it is the same. -/
noncomputable def pairSpec (P : Program) (g g' : Nat) (c : Con) (vs : List Int) : List Int :=
  if h : ∃ r, Tells P g c vs r ∧ Tells P g' c vs r then h.choose else []

theorem pair_con {P : Program} {Φ : Spec} {O : Owe} {g g' : Nat} {c : Con} (hΦ : ∀ vs, Φ c.spec vs = pairSpec P g g' c vs)
    (h : ∀ vs : List Int, vs.length = (kindsOf c.args).length → normL (kindsOf c.args) vs = vs → (c.total = false → O.dom c.spec vs) → ∃ r, Tells P g c vs r ∧ Tells P g' c vs r) : ConOk P Φ O g c ∧ ConOk P Φ O g' c := by
  have key : ∀ vs : List Int, vs.length = (kindsOf c.args).length → normL (kindsOf c.args) vs = vs → (c.total = false → O.dom c.spec vs) → Tells P g c vs (Φ c.spec vs) ∧ Tells P g' c vs (Φ c.spec vs) := by
    intro vs h1 h2 h3
    have hx := h vs h1 h2 h3
    rw [hΦ]
    unfold pairSpec
    rw [dif_pos hx]
    exact hx.choose_spec
  exact ⟨conOk_tells fun vs h1 h2 h3 => (key vs h1 h2 h3).1, conOk_tells fun vs h1 h2 h3 => (key vs h1 h2 h3).2⟩

/-- Two lists of expressions that come to the same. -/
theorem same_leaves {Φ : Spec} {O : Owe} {ρ : Nat → Int} {V : List Avail} {N : List Known} {A : Known} {k : Nat} {x y : List (K × E)}
    (heqv : eqv (fun (_ : Unit) => some x) (fun (_ : Unit) => some y) V N k A (.leaf ()) (.leaf ()) = true) (hV : AvailOk Φ ρ O V) (hN : NeverOk Φ ρ N) (hA : Holds Φ ρ A) : E.denL Φ ρ x = E.denL Φ ρ y := by
  obtain ⟨R, h1, h2⟩ := eqv_sound hV hN k A _ _ hA heqv
  simp only [T.Ev, Option.some.injEq, exists_eq_left', true_and] at h1 h2
  rw [h1, h2]
end Go.Sx

/- Arguments of which some are told; variables, one behind the other. -/
namespace Go.Sx
open Go.RowKit

def pickE (m : List (Nat × Int)) (k : K) (i : Nat) : E := match m.lookup i with | some x => .lit k x | none => .var k i
def argsM (m : List (Nat × Int)) (ts : List VT) : List SV := resAll (pickE m) ts 0
def vM (m : List (Nat × Int)) : List K → Nat → List (K × E)
  | [], _ => []
  | k :: ks, i => (k, pickE m k i) :: vM m ks (i + 1)
def seg3 (vs : List Int) (i n : Nat) : List Int := (vs.drop i).take n

/-- What is told is so. -/
def Fits (m : List (Nat × Int)) (vs : List Int) : Prop := ∀ i x, m.lookup i = some x → vs.getD i 0 = x
theorem Fits.nil (vs : List Int) : Fits [] vs := fun i x h => by simp at h

theorem pickE_den {m : List (Nat × Int)} {vs : List Int} (h : Fits m vs) (Φ : Spec) (k : K) (i : Nat) : k.norm ((pickE m k i).den Φ fun i => vs.getD i 0) = k.norm (vs.getD i 0) := by
  unfold pickE
  split
  · rename_i x hx
    rw [h i x hx]; simp [E.den, norm_norm]
  · simp [E.den, norm_norm]

theorem argsM_re {n : En} {m : List (Nat × Int)} {ts : List VT} {vs : List Int} (h : Fits m vs) (hρ : n.ρ = fun i => vs.getD i 0) (hl : vs.length = (kindsOf ts).length) (hn : normL (kindsOf ts) vs = vs) : SV.reL n (argsM m ts) = valsV ts vs := by
  unfold argsM
  rw [resAll_re (g := fun i => vs.getD i 0) (fun k i => by rw [hρ]; exact pickE_den h _ k i)]
  rw [normL_get _ _ hl hn]

theorem pickE_under {m : List (Nat × Int)} {k : K} {i N : Nat} (h : i < N) : (pickE m k i).under N = true := by
  unfold pickE
  split
  · rfl
  · simpa [E.under] using h

theorem argsM_ok {m : List (Nat × Int)} {M N : Nat} {ts : List VT} (h : (kindsOf ts).length ≤ N) : SV.OkL M N (argsM m ts) := by
  have cells : ∀ (ks : List K) (i : Nat), i + ks.length ≤ N → SV.OkL M N (resCells (pickE m) ks i) := by
    intro ks
    induction ks with
    | nil => exact fun _ _ => trivial
    | cons k ks ih =>
      intro i hi
      simp only [List.length_cons] at hi
      refine ⟨?_, ih (i + 1) (by omega)⟩
      cases k <;> exact pickE_under (by omega)
  have key : ∀ (ts : List VT) (i : Nat), i + (kindsOf ts).length ≤ N → SV.OkL M N (resAll (pickE m) ts i) := by
    intro ts
    induction ts with
    | nil => exact fun _ _ => trivial
    | cons t ts ih =>
      intro i hi
      have hk : (kindsOf (t :: ts)).length = t.kinds.length + (kindsOf ts).length := by simp [kindsOf]
      cases t with
      | one k =>
        simp only [VT.kinds, List.length_singleton] at hk
        refine ⟨?_, ih _ (by simp only [VT.size]; omega)⟩
        cases k <;> exact pickE_under (by omega)
      | agg ks =>
        simp only [VT.kinds] at hk
        exact ⟨cells ks i (by omega), ih _ (by simp only [VT.size]; omega)⟩
  exact key ts 0 (by omega)

theorem normL_drop : ∀ (i : Nat) {ks : List K} {vs : List Int}, normL ks vs = vs → normL (ks.drop i) (vs.drop i) = vs.drop i
  | 0, _, _, h => by simpa using h
  | i + 1, [], vs, h => by
    cases vs with
    | nil => rfl
    | cons v vs => simp [normL] at h
  | i + 1, k :: ks, [], h => by simp [normL]
  | i + 1, k :: ks, v :: vs, h => by
    simp only [normL, List.cons.injEq] at h
    simpa using normL_drop i h.2

theorem normL_take : ∀ (i : Nat) {ks : List K} {vs : List Int}, normL ks vs = vs → normL (ks.take i) (vs.take i) = vs.take i
  | 0, _, _, h => by simp [normL]
  | i + 1, [], vs, h => by
    cases vs with
    | nil => rfl
    | cons v vs => simp [normL] at h
  | i + 1, k :: ks, [], h => by simp [normL]
  | i + 1, k :: ks, v :: vs, h => by
    simp only [normL, List.cons.injEq] at h
    simp only [List.take_succ_cons, normL, List.cons.injEq]
    exact ⟨h.1, normL_take i h.2⟩

theorem denL_vM' {m : List (Nat × Int)} {vs : List Int} (h : Fits m vs) (Φ : Spec) : ∀ (ks : List K) (i : Nat), i + ks.length ≤ vs.length → normL ks (seg3 vs i ks.length) = seg3 vs i ks.length → E.denL Φ (fun i => vs.getD i 0) (vM m ks i) = seg3 vs i ks.length
  | [], _, _, _ => by simp [vM, E.denL, seg3]
  | k :: ks, i, hl, hn => by
    simp only [List.length_cons] at hl
    have hi : i < vs.length := by omega
    have hs : seg3 vs i (ks.length + 1) = vs.getD i 0 :: seg3 vs (i + 1) ks.length := by
      unfold seg3
      rw [List.drop_eq_getElem_cons hi, List.take_succ_cons, List.getD_eq_getElem?_getD, List.getElem?_eq_getElem hi]; rfl
    rw [List.length_cons, hs] at hn ⊢
    simp only [normL, List.cons.injEq] at hn
    simp only [vM, E.denL]
    rw [pickE_den h, hn.1, denL_vM' h Φ ks (i + 1) (by omega) hn.2]

/-- Variables that are a part of the arguments. -/
theorem denL_vM {m : List (Nat × Int)} {vs : List Int} (h : Fits m vs) (Φ : Spec) {all ks : List K} {i : Nat} (hl : vs.length = all.length) (hn : normL all vs = vs) (hi : i + ks.length ≤ all.length) (hs : (all.drop i).take ks.length = ks) :
    E.denL Φ (fun i => vs.getD i 0) (vM m ks i) = seg3 vs i ks.length := by
  refine denL_vM' h Φ ks i (by omega) ?_
  have := normL_take ks.length (normL_drop i hn)
  rw [hs] at this
  exact this

theorem seg3_length {vs : List Int} {i n : Nat} (h : i + n ≤ vs.length) : (seg3 vs i n).length = n := by
  simp [seg3]; omega
end Go.Sx

/- The state of a frame told anew: what is no more used is forgotten, the rest is numbered again. A run in pieces. -/
namespace Go.Sx
open Go.RowKit

mutual
/-- A value, its blocks numbered again: block b is what was block 'sel b'. -/
def sameRen (sel : List Nat) : SV → SV → Bool
  | .int k e, .int k' e' => decide (k = k') && e.beq e'
  | .bool e, .bool e' => e.beq e'
  | .ptr b o, .ptr b' o' => decide (sel[b]? = some b') && o == o'
  | .nilptr, .nilptr => true
  | .slice b o n c, .slice b' o' n' c' => decide (sel[b]? = some b') && o == o' && n == n' && decide (c = c')
  | .nilslice, .nilslice => true
  | .agg a, .agg a' => sameRenL sel a a'
  | .tuple a, .tuple a' => sameRenL sel a a'
  | _, _ => false
def sameRenL (sel : List Nat) : List SV → List SV → Bool
  | [], [] => true
  | a :: r, a' :: r' => sameRen sel a a' && sameRenL sel r r'
  | _, _ => false
end

def gcTmps (sel : List Nat) : List (Option SV) → List (Option SV) → Bool
  | [], [] => true
  | none :: r, _ :: r' => gcTmps sel r r'
  | some a :: r, some a' :: r' => sameRen sel a a' && gcTmps sel r r'
  | _, _ => false

def gcSO (sel : List Nat) : SO → SO → Bool
  | .cells a e, .cells a' e' => e == e' && sameRenL sel a a'
  | .grow a e n, .grow a' e' n' => e == e' && n == n' && sameRenL sel a a'
  | _, _ => false

noncomputable def gcHeap (sel : List Nat) (R : List SO) : List SO → List Nat → Bool
  | [], [] => true
  | o :: g, s :: ss => (match atR R s with | some o' => gcSO sel o o' | none => false) && gcHeap sel R g ss
  | _, _ => false

def SV.blk : SV → Nat
  | .ptr b _ => b
  | .slice b _ _ _ => b
  | _ => 0

/-- No variables are named. -/
def plainSt (S : St) : Bool := S.nv == 0 && (S.tmps.all fun o => match o with | some v => v.okb S.heap.length 0 | none => true) && S.heap.all fun o => o.okb S.heap.length 0

/-- The blocks that some slots name. -/
def selT (ts : List Nat) (R : St) : List Nat := ts.map fun t => match R.tmps[t]? with | some (some v) => v.blk | _ => 0

noncomputable def gcOk (ts : List Nat) (S R : St) : Bool :=
  gcTmps (selT ts R) S.tmps R.tmps && gcHeap (selT ts R) R.heap S.heap (selT ts R) && decide (selT ts R).Nodup && (S.nv == R.nv || plainSt S)

def X.same : X → X → Bool
  | .norm, .norm => true
  | .exit i, .exit j => i == j
  | .goto i, .goto j => i == j
  | .ret, .ret => true
  | _, _ => false

theorem X.same_eq {x y : X} (h : X.same x y = true) : x = y := by
  cases x <;> cases y <;> simp_all [X.same]

noncomputable def stepsTo (C : Ctx) (f cur : Nat) (c : Code) (S : St) (x : X) (ts : List Nat) (S' : St) : Bool :=
  match exec C f 0 cur none c S with
  | .leaf (y, R) => X.same x y && gcOk ts S' R
  | _ => false

def En.ren (n : En) (sel : List Nat) : En := { n with ε := fun j => n.ε (sel.getD j 0), κ := fun j => n.κ (sel.getD j 0) }

theorem sel_getD {sel : List Nat} {b b' : Nat} (h : sel[b]? = some b') : sel.getD b 0 = b' := by simp [List.getD_eq_getElem?_getD, h]

mutual
theorem sameRen_re {n : En} {sel : List Nat} : ∀ a b : SV, sameRen sel a b = true → a.re (n.ren sel) = b.re n
  | .int k e, b, h => by
    cases b <;> simp only [sameRen, Bool.and_eq_true, decide_eq_true_eq, reduceCtorEq, Bool.false_eq_true] at h
    obtain ⟨rfl, h⟩ := h
    rw [E.beq_eq _ _ h]; rfl
  | .bool e, b, h => by
    cases b <;> simp only [sameRen, reduceCtorEq, Bool.false_eq_true] at h
    rw [E.beq_eq _ _ h]; rfl
  | .ptr i o, b, h => by
    cases b <;> simp only [sameRen, Bool.and_eq_true, decide_eq_true_eq, beq_iff_eq, reduceCtorEq, Bool.false_eq_true] at h
    obtain ⟨h1, rfl⟩ := h
    simp only [SV.re, En.ren, sel_getD h1]
  | .nilptr, b, h => by
    cases b <;> simp only [sameRen, reduceCtorEq, Bool.false_eq_true] at h
    rfl
  | .slice i o l c, b, h => by
    cases b <;> simp only [sameRen, Bool.and_eq_true, decide_eq_true_eq, beq_iff_eq, reduceCtorEq, Bool.false_eq_true] at h
    obtain ⟨⟨⟨h1, rfl⟩, rfl⟩, rfl⟩ := h
    simp only [SV.re, En.ren, sel_getD h1]
  | .nilslice, b, h => by
    cases b <;> simp only [sameRen, reduceCtorEq, Bool.false_eq_true] at h
    rfl
  | .agg l, b, h => by
    cases b <;> simp only [sameRen, reduceCtorEq, Bool.false_eq_true] at h
    simp only [SV.re, sameRenL_re _ _ h]
  | .tuple l, b, h => by
    cases b <;> simp only [sameRen, reduceCtorEq, Bool.false_eq_true] at h
    simp only [SV.re, sameRenL_re _ _ h]
  | .etail _ _ _ _, b, h => by cases b <;> simp [sameRen] at h
  | .sel _ _ _ _ _, b, h => by cases b <;> simp [sameRen] at h
  | .map _, b, h => by cases b <;> simp [sameRen] at h
  | .nilmap, b, h => by cases b <;> simp [sameRen] at h
  | .fn _ _ _, b, h => by cases b <;> simp [sameRen] at h
  | .yield _, b, h => by cases b <;> simp [sameRen] at h
  | .nilfn, b, h => by cases b <;> simp [sameRen] at h
theorem sameRenL_re {n : En} {sel : List Nat} : ∀ a b : List SV, sameRenL sel a b = true → SV.reL (n.ren sel) a = SV.reL n b
  | [], [], _ => rfl
  | a :: r, b :: r', h => by
    simp only [sameRenL, Bool.and_eq_true] at h
    simp only [SV.reL, sameRen_re a b h.1, sameRenL_re r r' h.2]
  | [], _ :: _, h => by simp [sameRenL] at h
  | _ :: _, [], h => by simp [sameRenL] at h
end

theorem sel_lt {sel : List Nat} {b b' : Nat} (h : sel[b]? = some b') : b < sel.length := (List.getElem?_eq_some_iff.1 h).1

mutual
theorem sameRen_ok {sel : List Nat} {N m : Nat} : ∀ a b : SV, sameRen sel a b = true → b.Ok N m → a.Ok sel.length m
  | .int k e, b, h, hb => by
    cases b <;> simp only [sameRen, Bool.and_eq_true, decide_eq_true_eq, reduceCtorEq, Bool.false_eq_true] at h
    rw [← E.beq_eq _ _ h.2] at hb; exact hb
  | .bool e, b, h, hb => by
    cases b <;> simp only [sameRen, reduceCtorEq, Bool.false_eq_true] at h
    rw [← E.beq_eq _ _ h] at hb; exact hb
  | .ptr i o, b, h, hb => by
    cases b <;> simp only [sameRen, Bool.and_eq_true, decide_eq_true_eq, reduceCtorEq, Bool.false_eq_true] at h
    exact sel_lt h.1
  | .nilptr, b, h, hb => trivial
  | .slice i o l c, b, h, hb => by
    cases b <;> simp only [sameRen, Bool.and_eq_true, decide_eq_true_eq, reduceCtorEq, Bool.false_eq_true] at h
    exact sel_lt h.1.1.1
  | .nilslice, b, h, hb => trivial
  | .agg l, b, h, hb => by
    cases b <;> simp only [sameRen, reduceCtorEq, Bool.false_eq_true] at h
    exact sameRenL_ok _ _ h hb
  | .tuple l, b, h, hb => by
    cases b <;> simp only [sameRen, reduceCtorEq, Bool.false_eq_true] at h
    exact sameRenL_ok _ _ h hb
  | .etail _ _ _ _, b, h, _ => by cases b <;> simp [sameRen] at h
  | .sel _ _ _ _ _, b, h, _ => by cases b <;> simp [sameRen] at h
  | .map _, b, h, _ => by cases b <;> simp [sameRen] at h
  | .nilmap, b, h, _ => by cases b <;> simp [sameRen] at h
  | .fn _ _ _, b, h, _ => by cases b <;> simp [sameRen] at h
  | .yield _, b, h, _ => by cases b <;> simp [sameRen] at h
  | .nilfn, b, h, _ => by cases b <;> simp [sameRen] at h
theorem sameRenL_ok {sel : List Nat} {N m : Nat} : ∀ a b : List SV, sameRenL sel a b = true → SV.OkL N m b → SV.OkL sel.length m a
  | [], [], _, _ => trivial
  | a :: r, b :: r', h, hb => by
    simp only [sameRenL, Bool.and_eq_true] at h
    exact ⟨sameRen_ok a b h.1 hb.1, sameRenL_ok r r' h.2 hb.2⟩
  | [], _ :: _, h, _ => by simp [sameRenL] at h
  | _ :: _, [], h, _ => by simp [sameRenL] at h
end

theorem gcTmps_get {sel : List Nat} : ∀ {g h : List (Option SV)}, gcTmps sel g h = true → g.length = h.length ∧ ∀ (i : Nat) (v : SV), g[i]? = some (some v) → ∃ v', h[i]? = some (some v') ∧ sameRen sel v v' = true
  | [], [], _ => ⟨rfl, by simp⟩
  | [], _ :: _, hs => by simp [gcTmps] at hs
  | none :: _, [], hs => by simp [gcTmps] at hs
  | some _ :: _, [], hs => by simp [gcTmps] at hs
  | none :: r, b :: r', hs => by
    simp only [gcTmps] at hs
    obtain ⟨h1, h2⟩ := gcTmps_get hs
    refine ⟨by simp [h1], ?_⟩
    intro i v hi
    cases i with
    | zero => simp at hi
    | succ i => simp at hi; obtain ⟨o', h3, h4⟩ := h2 i v hi; exact ⟨o', by simpa using h3, h4⟩
  | some a :: r, none :: r', hs => by simp [gcTmps] at hs
  | some a :: r, some b :: r', hs => by
    simp only [gcTmps, Bool.and_eq_true] at hs
    obtain ⟨h1, h2⟩ := gcTmps_get hs.2
    refine ⟨by simp [h1], ?_⟩
    intro i v hi
    cases i with
    | zero => simp at hi; subst hi; exact ⟨b, by simp, hs.1⟩
    | succ i => simp at hi; obtain ⟨o', h3, h4⟩ := h2 i v hi; exact ⟨o', by simpa using h3, h4⟩

theorem gcHeap_get {sel : List Nat} {R : List SO} : ∀ {g : List SO} {ss : List Nat}, gcHeap sel R g ss = true → g.length = ss.length ∧ ∀ (i : Nat) (o : SO), g[i]? = some o → ∃ (s : Nat) (o' : SO), ss[i]? = some s ∧ R[s]? = some o' ∧ gcSO sel o o' = true
  | [], [], _ => ⟨rfl, by simp⟩
  | [], _ :: _, hs => by simp [gcHeap] at hs
  | _ :: _, [], hs => by simp [gcHeap] at hs
  | o :: g, s :: ss, hs => by
    simp only [gcHeap, Bool.and_eq_true] at hs
    obtain ⟨h1, h2⟩ := gcHeap_get hs.2
    refine ⟨by simp [h1], ?_⟩
    intro i o1 hi
    cases i with
    | zero =>
      simp at hi; subst hi
      have h3 := hs.1
      rw [atR_eq] at h3
      split at h3
      · rename_i o' ho'
        exact ⟨s, o', by simp, ho', h3⟩
      · cases h3
    | succ i => simp at hi; obtain ⟨s', o', h3, h4⟩ := h2 i o1 hi; exact ⟨s', o', by simpa using h3, h4⟩

theorem gcSO_alive {sel : List Nat} {o o' : SO} (h : gcSO sel o o' = true) : o.alive = true ∧ o'.alive = true := by
  cases o <;> cases o' <;> simp [gcSO] at h <;> exact ⟨rfl, rfl⟩

theorem gcSO_or {n : En} {sel : List Nat} {N m k : Nat} {o o' : SO} {x : Option Obj} (h : gcSO sel o o' = true) (ho : OR n N m k o' x) : OR (n.ren sel) sel.length m k o x := by
  cases o <;> cases o' <;> simp only [gcSO, Bool.and_eq_true, beq_iff_eq, reduceCtorEq, Bool.false_eq_true] at h
  · obtain ⟨rfl, h⟩ := h
    exact ⟨sameRenL_ok _ _ h ho.1, by rw [sameRenL_re _ _ h]; exact ho.2⟩
  · obtain ⟨⟨rfl, rfl⟩, h⟩ := h
    obtain ⟨h1, rest, h2, h3⟩ := ho
    refine ⟨sameRenL_ok _ _ h h1, rest, by rw [sameRenL_re _ _ h]; exact h2, ?_⟩
    rename_i cs _ _ cs'
    have hl : (SV.reL (n.ren sel) cs).length = (SV.reL n cs').length := by rw [sameRenL_re _ _ h]
    simp only [SV.reL_eq, List.length_map] at hl
    rw [hl]; exact h3

section
variable {w0 : World} {kp : Nat → Prop} {hid : List Nat} {rd : Option Nat} {n : En} {a : Act} {w : World}

/-- THE STATE TOLD ANEW. -/
theorem Rel.gc {ts : List Nat} {S R : St} (h : gcOk ts S R = true) (H : Rel w0 kp hid 0 rd n R a w) : Rel w0 kp hid 0 rd (n.ren (selT ts R)) S a w := by
  simp only [gcOk, Bool.and_eq_true, decide_eq_true_eq] at h
  obtain ⟨⟨⟨h1, h2⟩, h3⟩, h4⟩ := h
  obtain ⟨ht1, ht2⟩ := gcTmps_get h1
  obtain ⟨hh1, hh2⟩ := gcHeap_get h2
  obtain ⟨hc, hd, hrd, hH⟩ := H.hr
  have hsel : ∀ {i s : Nat}, (selT ts R)[i]? = some s → (n.ren (selT ts R)).ε i = n.ε s ∧ (n.ren (selT ts R)).κ i = n.κ s := by
    intro i s hs
    simp only [En.ren, sel_getD hs, and_self]
  have key : (∀ (i : Nat) (o : SO), S.heap[i]? = some o → ∀ (k : Nat) (x : Option Obj), OR (n.ren (selT ts R)) (selT ts R).length R.nv k o x → OR (n.ren (selT ts R)) S.heap.length S.nv k o x) ∧
      ∀ (i : Nat) (v : SV), S.tmps[i]? = some (some v) → v.Ok (selT ts R).length R.nv → v.Ok S.heap.length S.nv := by
    simp only [Bool.or_eq_true, beq_iff_eq] at h4
    rcases h4 with h4 | h4
    · rw [hh1, h4]
      exact ⟨fun _ _ _ _ _ h => h, fun _ _ _ h => h⟩
    · simp only [plainSt, Bool.and_eq_true, beq_iff_eq, List.all_eq_true] at h4
      obtain ⟨⟨e0, e1⟩, e2⟩ := h4
      rw [e0]
      exact ⟨fun i o hi k x h => h.ok' (SO.okb_ok (e2 o (List.mem_of_getElem? hi))), fun i v hi _ => SV.okb_ok v (e1 _ (List.mem_of_getElem? hi))⟩
  refine ⟨⟨hc, hd, hrd, { hH with blk := ?_, inj := ?_, own := ?_, nohid := ?_ }⟩, ?_, Nat.zero_le _⟩
  · intro i o hi
    obtain ⟨s, o', e1, e2, e3⟩ := hh2 i o hi
    rw [(hsel e1).1, (hsel e1).2]
    exact key.1 i o hi _ _ (gcSO_or e3 (hH.blk s o' e2))
  · intro i j oi oj hi hj hai haj he
    obtain ⟨s, o', e1, e2, e3⟩ := hh2 i oi hi
    obtain ⟨t, o'', f1, f2, f3⟩ := hh2 j oj hj
    rw [(hsel e1).1, (hsel f1).1] at he
    have := hH.inj s t _ _ e2 f2 (gcSO_alive e3).2 (gcSO_alive f3).2 he
    subst this
    exact (List.getElem?_inj (sel_lt e1) h3).1 (e1.trans f1.symm)
  · intro i o hi ha hro
    obtain ⟨s, o', e1, e2, e3⟩ := hh2 i o hi
    rw [(hsel e1).1]
    exact hH.own s o' e2 (gcSO_alive e3).2 (Nat.zero_le _)
  · intro i o hi ha
    obtain ⟨s, o', e1, e2, e3⟩ := hh2 i o hi
    rw [(hsel e1).1]
    exact hH.nohid s o' e2 (gcSO_alive e3).2
  · refine ⟨H.tr.1.trans ht1.symm, fun i v hi => ?_⟩
    obtain ⟨v', e1, e2⟩ := ht2 i v hi
    obtain ⟨e3, e4⟩ := H.tr.2 i v' e1
    exact ⟨key.2 i v hi (sameRen_ok v v' e2 e3), by rw [sameRen_re v v' e2]; exact e4⟩
end

/-! ### A run in pieces -/
/-- A frame stands as 'S' tells. -/
def Has (Φ : Spec) (w0 : World) (S : St) (a : Act) (w : World) : Prop := ∃ n : En, n.Φ = Φ ∧ Rel w0 (fun b => b < w0.heap.size) [] 0 none n S a w

variable {C : Ctx} {Φ : Spec} {O : Owe} {w0 : World} {a : Act} {w : World} {k : Nat}

/-- One piece. -/
theorem has_step (hC : CtxOk C Φ O) {f cur : Nat} {c : Code} {S S' : St} {x : X} {ts : List Nat} (h : stepsTo C f cur c S x ts S' = true) (H : Has Φ w0 S a w) :
    c.wpIn (fenAt none) k C.P (fun e a' w' => xIs x e ∧ Has Φ w0 S' a' w') a w := by
  unfold stepsTo at h
  split at h
  · rename_i y R hex
    simp only [Bool.and_eq_true] at h
    have hxy := X.same_eq h.1; subst hxy
    obtain ⟨n, hΦ, hR⟩ := H
    subst hΦ
    have hE : (exec C f 0 cur none c S).Ev n.Φ O n.ρ fun _ p => p = (x, R) := by rw [hex]; exact rfl
    refine wpIn_mono ((all_ok O f C).exec 0 cur none c S _ w0 _ [] n a w none k hC (fun _ => rfl) hR hE) ?_
    rintro e a' w' ⟨n', x', st', hq, hx, hR', hg⟩
    simp only [Prod.mk.injEq] at hq
    obtain ⟨rfl, rfl⟩ := hq
    exact ⟨hx, n'.ren (selT ts st'), hg.ag.Φ.symm, hR'.gc h.2⟩
  · cases h

/-- The last piece: a tree. -/
theorem has_tree (hC : CtxOk C Φ O) {f cur : Nat} {c : Code} {S : St} {Q : X × St → Prop} (hE : ∀ ρ, (exec C f 0 cur none c S).Ev Φ O ρ fun _ p => Q p) (H : Has Φ w0 S a w) :
    c.wpIn (fenAt none) k C.P (fun e a' w' => ∃ x S', Q (x, S') ∧ xIs x e ∧ Has Φ w0 S' a' w') a w := by
  obtain ⟨n, hΦ, hR⟩ := H
  subst hΦ
  refine wpIn_mono ((all_ok O f C).exec 0 cur none c S _ w0 _ [] n a w none k hC (fun _ => rfl) hR (hE n.ρ)) ?_
  rintro e a' w' ⟨n', x', st', hq, hx, hR', hg⟩
  exact ⟨x', st', hq, hx, n', hg.ag.Φ.symm, hR'⟩

theorem has_seq {P : Program} {x y : Code} {S' : St} {Q : Exit → Act → World → Prop} (h1 : x.wpIn (fenAt none) k P (fun e a' w' => xIs .norm e ∧ Has Φ w0 S' a' w') a w) (h2 : ∀ a' w', Has Φ w0 S' a' w' → y.wpIn (fenAt none) k P Q a' w') :
    (Code.seq x y).wpIn (fenAt none) k P Q a w := by
  refine wpIn_seq (wpIn_mono h1 ?_)
  rintro e a' w' ⟨hx, H⟩
  simp only [xIs] at hx; subst hx
  exact h2 a' w' H

theorem has_block {P : Program} {b : Code} {id : Nat} {S' : St} (h : b.wpIn (fenAt none) k P (fun e a' w' => xIs .norm e ∧ Has Φ w0 S' a' w') a w) :
    (Code.block id b).wpIn (fenAt none) k P (fun e a' w' => xIs .norm e ∧ Has Φ w0 S' a' w') a w := by
  refine wpIn_block (wpIn_mono h ?_)
  rintro e a' w' ⟨hx, H⟩
  simp only [xIs] at hx; subst hx
  exact ⟨rfl, H⟩

/-- A loop, round by round. -/
theorem has_loop {P : Program} {b : Code} {id N : Nat} {S : Nat → St} {SE : St} (hstep : ∀ i, i < N → ∀ a w, Has Φ w0 (S i) a w → b.wpIn (fenAt none) k P (fun e a' w' => xIs .norm e ∧ Has Φ w0 (S (i + 1)) a' w') a w)
    (hlast : ∀ a w, Has Φ w0 (S N) a w → b.wpIn (fenAt none) k P (fun e a' w' => xIs (.exit id) e ∧ Has Φ w0 SE a' w') a w) (H : Has Φ w0 (S 0) a w) :
    (Code.block id (.loop b)).wpIn (fenAt none) k P (fun e a' w' => xIs .norm e ∧ Has Φ w0 SE a' w') a w := by
  refine wpIn_block (wpIn_loop_rounds (N + 1) ?_)
  have key : ∀ (j i : Nat), i + j = N → ∀ (a : Act) (w : World), Has Φ w0 (S i) a w → Code.roundsIn (fenAt none) k P b (Exit.inBlock id fun e a' w' => xIs .norm e ∧ Has Φ w0 SE a' w') (j + 1) a w := by
    intro j
    induction j with
    | zero =>
      intro i hi a w H
      obtain rfl : i = N := by omega
      refine wpIn_mono (hlast a w H) ?_
      rintro e a' w' ⟨hx, H'⟩
      simp only [xIs] at hx; subst hx
      show Exit.inBlock id (fun e a' w' => xIs .norm e ∧ Has Φ w0 SE a' w') (.exit id) a' w'
      unfold Exit.inBlock
      simp only [if_true]
      exact ⟨rfl, H'⟩
    | succ j ih =>
      intro i hi a w H
      refine wpIn_mono (hstep i (by omega) a w H) ?_
      rintro e a' w' ⟨hx, H'⟩
      simp only [xIs] at hx; subst hx
      exact ih (i + 1) (by omega) a' w' H'
  exact key N 0 (by omega) a w H

/-- What a piece leaves. -/
noncomputable def runSt (C : Ctx) (f cur : Nat) (c : Code) (S : St) : St := match exec C f 0 cur none c S with | .leaf (_, R) => R | _ => S
noncomputable def runs (C : Ctx) (f cur : Nat) (c : Code) (S : St) : Bool := match exec C f 0 cur none c S with | .leaf (.norm, _) => true | _ => false

theorem has_run (hC : CtxOk C Φ O) {f cur : Nat} {c : Code} {S : St} (h : runs C f cur c S = true) (H : Has Φ w0 S a w) :
    c.wpIn (fenAt none) k C.P (fun e a' w' => xIs .norm e ∧ Has Φ w0 (runSt C f cur c S) a' w') a w := by
  unfold runs at h
  unfold runSt
  split at h
  · rename_i R hex
    refine wpIn_mono (has_tree (f := f) (cur := cur) (Q := fun p => p = (.norm, R)) hC (fun ρ => by rw [hex]; exact rfl) H) ?_
    rintro e a' w' ⟨x, S', hq, hx, hH⟩
    simp only [Prod.mk.injEq] at hq
    obtain ⟨rfl, rfl⟩ := hq
    rw [hex]
    exact ⟨hx, hH⟩
  · cases h

theorem Has.gc {ts : List Nat} {S R : St} (h : gcOk ts S R = true) (H : Has Φ w0 R a w) : Has Φ w0 S a w := by
  obtain ⟨n, hΦ, hR⟩ := H
  exact ⟨n.ren (selT ts R), hΦ, hR.gc h⟩

/-- What the last piece returns. -/
noncomputable def endsWith (C : Ctx) (f cur : Nat) (c : Code) (S : St) (rs : List ResultVar) : Option (List SV) := match exec C f 0 cur none c S with | .leaf (.ret, R) => resultsS C.P rs R R.heap | _ => none

theorem has_end (hC : CtxOk C Φ O) {f cur : Nat} {c : Code} {S : St} {rs : List ResultVar} {vs : List SV} (h : endsWith C f cur c S rs = some vs) (H : Has Φ w0 S a w) :
    c.wpIn (fenAt none) k C.P (fun e a' w' => ∃ S, e = .ret ∧ Has Φ w0 S a' w' ∧ resultsS C.P rs S S.heap = some vs) a w := by
  unfold endsWith at h
  split at h
  · rename_i R hex
    refine wpIn_mono (has_tree (f := f) (cur := cur) (Q := fun p => p = (.ret, R)) hC (fun ρ => by rw [hex]; exact rfl) H) ?_
    rintro e a' w' ⟨x, S', hq, hx, hH⟩
    simp only [Prod.mk.injEq] at hq
    obtain ⟨rfl, rfl⟩ := hq
    exact ⟨S', hx, hH, h⟩
  · cases h

/-! Parts of code. -/
def sL : Code → Code | .seq a _ => a | _ => .skip
def sR : Code → Code | .seq _ b => b | _ => .skip
def inBlk : Code → Code | .block _ b => b | _ => .skip
def inLoop : Code → Code | .loop b => b | _ => .skip

/-- A call, by its body. -/
theorem calls_body {P : Program} {g : Nat} {fn : Func} {b : Code} (hfn : P.funcs[g]? = some fn) (hb : fn.body = some b) {args vs : List SV} {vals rv : List Value} (hok : SV.OkL 0 0 args) (hre : ∀ n : En, SV.reL n args = vals) (hrv : ∀ n : En, SV.reL n vs = rv) (w : World)
    (hbody : ∀ a, Has Φ w { tmps := (args ++ List.replicate (fn.ntmps - args.length) undefS).map some, heap := [], nv := 0 } a w → b.wpIn (fenAt none) 0 P (fun e a' w' => ∃ S, e = .ret ∧ Has Φ w S a' w' ∧ resultsS P fn.results.toList S S.heap = some vs) a w) :
    Calls P g vals.toArray w fun e w' => e = .returned (tupledV rv) ∧ Below w.heap.size w w' := by
  let n : En := ⟨Φ, fun _ => 0, fun _ => 0, fun _ => 0⟩
  rw [← hre n]
  refine callsIn_wide.1 (callsIn_of_wp_marks (F := fenAt none) (n := 0) hfn hb trivial ?_ rfl)
  have hRel : Rel w (fun b => b < w.heap.size) [] 0 none n { tmps := (args ++ List.replicate (fn.ntmps - args.length) undefS).map some, heap := [], nv := 0 } { tmps := (SV.reL n args).toArray ++ Array.replicate (fn.ntmps - (SV.reL n args).toArray.size) undef, defers := [] } w :=
    ⟨⟨[], rfl, fun _ => rfl, HR.empty w n 0⟩, TR.start hok _, Nat.zero_le _⟩
  refine wpIn_mono (hbody _ ⟨n, rfl, hRel⟩) ?_
  rintro e a' w' ⟨S, rfl, ⟨n', hΦ, hR⟩, hres⟩
  obtain ⟨hc, hd, _, hH⟩ := hR.hr
  show LeavesInM _ _ _ _ _ _ a'.defers .returning w'
  rw [hd]
  refine leaves_marks hc hH fun w2 hH2 => ?_
  obtain ⟨_, h2⟩ := run_results hH2 hR.tr hres
  refine ⟨_, h2, ?_, ⟨hH2.os, hH2.tape, hH2.output, hH2.size, fun b hb => (hH2.kept b hb).2⟩⟩
  rw [tupled_re, hrv n']
end Go.Sx

/- Trees whose loops count up: sound by looking. -/
namespace Go.Sx

/-- What is known at a loop's head: its one variable is from 0 to N. -/
def headK (N : Int) (l : Nat) : Known := [(.cmp .lss (.int .i64) (.var (.int .i64) l) (.lit (.int .i64) 0), false), (.cmp .lss (.int .i64) (.lit (.int .i64) N) (.var (.int .i64) l), false)]
def invK (N : Nat → Int) (l : Nat) (v : List Int) : Prop := ∃ x : Int, v = [x] ∧ 0 ≤ x ∧ x ≤ N l
def muK (N : Nat → Int) (l : Nat) (v : List Int) : Nat := (N l - IntKind.i64.wrap (v.headD 0)).toNat
/-- It is that variable and so many more. -/
def plusV (l : Nat) : E → Option Int
  | .bin .add .i64 .i64 (.var (.int .i64) i) (.lit (.int .i64) d) => if i = l then some d else none
  | _ => none

/-- Does a tree come to good leaves alone? -/
def evk {α : Type} (good : α → Bool) (V : List Avail) (Z : List Known) (N : Nat → Int) : Nat → Known → T α → Bool
  | 0, _, _ => false
  | n + 1, A, .ite c t e =>
    match dec A c with
    | some true => evk good V Z N n A t
    | some false => evk good V Z N n A e
    | none => match atom A c with
      | some x => evk good V Z N n ((x, true) :: A) (.ite c t e) && evk good V Z N n ((x, false) :: A) (.ite c t e)
      | none => false
  | n + 1, A, .need s l k => may V A s l && evk good V Z N n A k
  | _ + 1, A, .leaf a => good a || absurd' Z A
  | n + 1, A, .loop l init base step =>
    match init with
    | [(.int .i64, .lit (.int .i64) 0)] => l == base && (A.all fun p => p.1.under base) && evk good V Z N n (headK (N l) l ++ A) step
    | _ => false
  | _ + 1, A, .again l es =>
    match es with
    | [(.int .i64, e)] => match plusV l e with
      | some d => decide (1 ≤ d) && decide (d ≤ 1000) && decide (0 ≤ lowest A .i64 (.var (.int .i64) l)) && decide (highest A .i64 (.var (.int .i64) l) + d ≤ N l)
      | none => false
    | _ => false
  | _ + 1, _, .fail _ => false

theorem holds_upd {Φ : Spec} {ρ : Nat → Int} {A : Known} {base : Nat} (hA : Holds Φ ρ A) (hu : (A.all fun p => p.1.under base) = true) (v : List Int) : Holds Φ (upd ρ base v) A := by
  intro p hp
  rw [← hA p hp]
  congr 1
  exact E.den_congr (fun i hi => upd_lt ρ v hi) p.1 (List.all_eq_true.1 hu p hp)

theorem evk_sound {α : Type} {good : α → Bool} {V : List Avail} {Z : List Known} {N : Nat → Int} {Φ : Spec} {O : Owe} (hN : ∀ l, 0 ≤ N l ∧ N l ≤ 1000000) (hinv : O.inv = invK N) (hmu : O.mu = muK N) (hV : ∀ ρ, AvailOk Φ ρ O V) (hZ : ∀ ρ, NeverOk Φ ρ Z) : ∀ (n : Nat) (A : Known) (t : T α) (ρ : Nat → Int), Holds Φ ρ A → evk good V Z N n A t = true → t.Ev Φ O ρ fun _ a => good a = true
  | 0, _, _, _, _, h => by simp [evk] at h
  | n + 1, A, .ite c t e, ρ, hA, h => by
    simp only [evk] at h
    split at h
    · rename_i hc
      have hc' := dec_sound hA c hc
      exact ⟨fun _ => evk_sound hN hinv hmu hV hZ n A t ρ hA h, fun hz => by simp [hz] at hc'⟩
    · rename_i hc
      have hc' := dec_sound hA c hc
      exact ⟨fun hz => by simp [hz] at hc', fun _ => evk_sound hN hinv hmu hV hZ n A e ρ hA h⟩
    · split at h
      · rename_i x _
        simp only [Bool.and_eq_true] at h
        by_cases hx : (x.den Φ ρ != 0) = true
        · exact evk_sound hN hinv hmu hV hZ n _ _ ρ (hA.cons hx) h.1
        · exact evk_sound hN hinv hmu hV hZ n _ _ ρ (hA.cons (by simpa using hx)) h.2
      · cases h
  | n + 1, A, .need s l k, ρ, hA, h => by
    simp only [evk, Bool.and_eq_true] at h
    exact ⟨may_sound (hV ρ) hA h.1, evk_sound hN hinv hmu hV hZ n A k ρ hA h.2⟩
  | n + 1, A, .leaf a, ρ, hA, h => by
    simp only [evk, Bool.or_eq_true] at h
    rcases h with h | h
    · exact h
    · exact (absurd_sound (hZ ρ) hA h).elim
  | n + 1, A, .loop l init base step, ρ, hA, h => by
    simp only [evk] at h
    split at h
    · simp only [Bool.and_eq_true, beq_iff_eq] at h
      obtain ⟨⟨rfl, h2⟩, h3⟩ := h
      refine ⟨?_, ?_⟩
      · rw [hinv]
        exact ⟨0, rfl, Int.le_refl _, (hN _).1⟩
      · intro v hv hi
        rw [hinv] at hi
        obtain ⟨x, rfl, hx0, hxN⟩ := hi
        obtain ⟨hN0, hN1⟩ := hN l
        refine evk_sound hN hinv hmu hV hZ n _ step _ ?_ h3
        have hvar : upd ρ l [x] l = x := upd_ge ρ (Nat.le_refl _) (by simp)
        have hw : IntKind.i64.wrap x = x := wrap_id ⟨by simp only [lo]; omega, by simp only [hi]; omega⟩
        have hw0 : IntKind.i64.wrap 0 = 0 := wrap_id ⟨by decide, by decide⟩
        have hwN : IntKind.i64.wrap (N l) = N l := wrap_id ⟨by simp only [lo]; omega, by simp only [hi]; omega⟩
        have hd : (E.var (.int .i64) l).den Φ (upd ρ l [x]) = x := by rw [E.den, hvar, norm_int, hw]
        intro p hp
        simp only [headK, List.cons_append, List.nil_append, List.mem_cons] at hp
        rcases hp with rfl | rfl | hp
        · rw [cmp_ne, lit_den, hd]
          simp only [bcmp, norm_int, hw0, hw, decide_eq_false_iff_not, Int.not_lt]
          exact hx0
        · rw [cmp_ne, lit_den, hd]
          simp only [bcmp, norm_int, hwN, hw, decide_eq_false_iff_not, Int.not_lt]
          exact hxN
        · exact holds_upd hA h2 [x] p hp
    · cases h
  | n + 1, A, .again l es, ρ, hA, h => by
    simp only [evk] at h
    split at h
    · rename_i e
      split at h
      · rename_i d hp
        simp only [Bool.and_eq_true, decide_eq_true_eq] at h
        obtain ⟨⟨⟨hd1, hd2⟩, h2⟩, h3⟩ := h
        have he : e = .bin .add .i64 .i64 (.var (.int .i64) l) (.lit (.int .i64) d) := by
          unfold plusV at hp
          split at hp
          · split at hp
            · rename_i hil
              simp only [Option.some.injEq] at hp
              subst hp hil
              rfl
            · cases hp
          · cases hp
        subst he
        obtain ⟨hN0, hN1⟩ := hN l
        have hlo := lowest_sound hA .i64 (.var (.int .i64) l)
        have hhi := highest_sound hA .i64 (.var (.int .i64) l)
        simp only [E.den, norm_int, wrap_wrap] at hlo hhi
        have hw1 : IntKind.i64.wrap d = d := wrap_id ⟨by simp only [lo]; omega, by simp only [hi]; omega⟩
        have hs : IntKind.i64.wrap (IntKind.i64.wrap (ρ l) + d) = IntKind.i64.wrap (ρ l) + d := wrap_id ⟨by simp only [lo]; omega, by simp only [hi]; omega⟩
        have hd : E.denL Φ ρ [((K.int .i64), E.bin .add .i64 .i64 (.var (.int .i64) l) (.lit (.int .i64) d))] = [IntKind.i64.wrap (ρ l) + d] := by
          simp only [E.denL, E.den, bop, norm_int, wrap_wrap, hw1, hs]
        refine ⟨?_, ?_⟩
        · rw [hd, hinv]
          exact ⟨_, rfl, by omega, by omega⟩
        · rw [hd, hmu]
          simp only [muK, cur, List.length_cons, List.length_nil, List.range_succ, List.range_zero, List.nil_append, List.map_cons, List.map_nil, List.headD_cons, Nat.add_zero, Nat.zero_add, hs]
          omega
      · cases h
    · cases h
  | n + 1, A, .fail _, ρ, hA, h => by simp [evk] at h
end Go.Sx
