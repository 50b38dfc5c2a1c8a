/-
  Contracts, views of memory and drawn orders of the symbolic run are sound; no condition.
-/
import Derived.Test.YtkmieoelgamdpaaGreatDoorSxB
import Derived.RangeFuncCalls
set_option linter.deprecated false
set_option linter.unusedVariables false
set_option linter.unusedSimpArgs false

namespace Go.Sx
open Go.RowKit

/-! ### What is known of functions -/
def normL : List K → List Int → List Int
  | k :: ks, x :: xs => k.norm x :: normL ks xs
  | _, _ => []

def VT.kinds : VT → List K
  | .one k => [k]
  | .agg ks => ks

def kindsOf (ts : List VT) : List K := ts.flatMap VT.kinds

/-- Values out of numbers. -/
def valsV : List VT → List Int → List Value
  | [], _ => []
  | .one k :: ts, vs => leafV k (vs.headD 0) :: valsV ts vs.tail
  | .agg ks :: ts, vs => .agg (cellsV ks (vs.take ks.length)).toArray :: valsV ts (vs.drop ks.length)

def tupledV (l : List Value) : Value := match l with | [v] => v | l => .tuple l.toArray

/-- So many numbers, each of its kind: what is told of 'r'. -/
def fitted (ks : List K) (r : List Int) : List Int := ks.zipIdx.map fun (k, i) => k.norm (r.getD i 0)

def ConOk (P : Program) (Φ : Spec) (O : Owe) (f : Nat) (c : Con) : Prop :=
  ∀ (vs : List Int) (w : World), vs.length = (kindsOf c.args).length → normL (kindsOf c.args) vs = vs → (c.total = false → O.dom c.spec vs) →
    Calls P f (valsV c.args vs).toArray w fun e w' => e = .returned (tupledV (valsV c.res (fitted (kindsOf c.res) (Φ c.spec vs)))) ∧ Below w.heap.size w w'

structure CtxOk (C : Ctx) (Φ : Spec) (O : Owe) : Prop where
  con : ∀ (f : Nat) (c : Con), C.con.lookup f = some c → ConOk C.P Φ O f c
  fold : ∀ (s : Nat) (vs r : List Int), C.fold s vs = some r → Φ s vs = r ∧ O.dom s vs
  noGo : ∀ (f : Nat) (fn : Func), C.P.funcs[f]? = some fn → (fn.name == "runtime.NumGoroutine") = false
  has : ∀ (f : Nat) (c : Con), C.con.lookup f = some c → ∃ (fn : Func) (b : Code), C.P.funcs[f]? = some fn ∧ fn.body = some b
  mixed : C.P.follows .mixedOrders = true
  ext : ∀ (g : Nat), C.add64 = some g → ∀ (x y c : Int) (w : World), 0 ≤ x → 0 ≤ y → 0 ≤ c → c ≤ 1 →
    (callFunc g #[.int .u64 x, .int .u64 y, .int .u64 c]).run C.P w = .ok (.value (.tuple #[.int .u64 ((x + y + c) % 18446744073709551616), .int .u64 ((x + y + c) / 18446744073709551616)])) w

theorem denL_length (Φ : Spec) (ρ : Nat → Int) : ∀ l : List (K × E), (E.denL Φ ρ l).length = l.length
  | [] => rfl
  | (k, e) :: r => by simp [E.denL, denL_length Φ ρ r]

theorem denL_append (Φ : Spec) (ρ : Nat → Int) : ∀ a b : List (K × E), E.denL Φ ρ (a ++ b) = E.denL Φ ρ a ++ E.denL Φ ρ b
  | [], b => rfl
  | (k, e) :: r, b => by simp [E.denL, denL_append Φ ρ r b]

theorem normL_denL (Φ : Spec) (ρ : Nat → Int) : ∀ l : List (K × E), normL (l.map Prod.fst) (E.denL Φ ρ l) = E.denL Φ ρ l
  | [] => rfl
  | (k, e) :: r => by simp [E.denL, normL, norm_norm, normL_denL Φ ρ r]

theorem underL_append {m : Nat} : ∀ {a b : List (K × E)}, E.underL m (a ++ b) = true ↔ E.underL m a = true ∧ E.underL m b = true
  | [], b => by simp [E.underL]
  | (k, e) :: r, b => by simp [E.underL, underL_append (a := r), and_assoc]

theorem flatArgs_ok {n : En} {N m : Nat} : ∀ {ts : List VT} {args : List SV} {l : List (K × E)}, flatArgs ts args = some l → SV.OkL N m args →
    l.map Prod.fst = kindsOf ts ∧ SV.reL n args = valsV ts (E.denL n.Φ n.ρ l) ∧ E.underL m l = true
  | [], [], l, h, _ => by simp only [flatArgs, Option.some.injEq] at h; subst h; exact ⟨rfl, rfl, rfl⟩
  | [], _ :: _, l, h, _ => by simp [flatArgs] at h
  | .one _ :: _, [], l, h, _ => by simp [flatArgs] at h
  | .agg _ :: _, [], l, h, _ => by simp [flatArgs] at h
  | .one k :: ts, v :: r, l, h, hok => by
    simp only [flatArgs] at h
    split at h
    · rename_i a b ha hb; cases h
      obtain ⟨h1, h2, h3⟩ := flatArgs_ok (n := n) hb hok.2
      have h4 := kinds_fst ha
      obtain ⟨h5, h6⟩ := kinds_re (n := n) ha
      have h7 := kinds_ok (m := m) (N := N) ha ⟨hok.1, trivial⟩
      cases a with
      | nil => simp at h4
      | cons p a =>
        cases a with
        | cons q a => simp at h4
        | nil =>
          obtain ⟨k', e⟩ := p
          simp only [List.map_cons, List.map_nil, List.cons.injEq, and_true] at h4
          subst h4
          refine ⟨by simp [kindsOf, VT.kinds, h1], ?_, underL_append.2 ⟨h7, h3⟩⟩
          simp only [SV.reL, E.denL, List.zip_cons_cons, List.zip_nil_right, List.map_cons, List.map_nil, List.cons.injEq, and_true] at h5
          simp only [SV.reL, List.singleton_append, E.denL, valsV, List.headD_cons, List.tail_cons, h5, h2]
    · cases h
  | .agg ks :: ts, v :: r, l, h, hok => by
    cases v <;> first | (simp [flatArgs] at h; done) | skip
    rename_i cs
    simp only [flatArgs] at h
    split at h
    · rename_i a b ha hb; cases h
      obtain ⟨h1, h2, h3⟩ := flatArgs_ok (n := n) hb hok.2
      have h4 := kinds_fst ha
      obtain ⟨h5, h6⟩ := kinds_re (n := n) ha
      have h7 := kinds_ok (m := m) (N := N) ha hok.1
      refine ⟨by simp [kindsOf, VT.kinds, h4]; exact h1, ?_, underL_append.2 ⟨h7, h3⟩⟩
      simp only [SV.reL, SV.re, denL_append, valsV]
      rw [List.take_left' h6, List.drop_left' h6, h2]
      congr 2
      exact congrArg List.toArray h5
    · cases h

theorem leaf_re {n : En} {app : K → Nat → E} {g : Nat → Int} (hg : ∀ (k : K) (i : Nat), k.norm ((app k i).den n.Φ n.ρ) = k.norm (g i)) (k : K) (i : Nat) : (leafOf k (app k i)).re n = leafV k (k.norm (g i)) := by
  have := resCells_re hg [k] i
  simpa [resCells, SV.reL] using this

theorem fitted_append (a b : List K) (r : List Int) : fitted (a ++ b) r = fitted a r ++ (b.zipIdx a.length).map fun (k, j) => k.norm (r.getD j 0) := by
  simp [fitted, List.zipIdx_append]

theorem cellsV_map (ks : List K) (g : Nat → Int) : ∀ (l : List K) (i : Nat), cellsV l ((l.zipIdx i).map fun (k, j) => k.norm (g j)) = (l.zipIdx i).map fun (k, j) => leafV k (k.norm (g j))
  | [], _ => rfl
  | k :: l, i => by
    have := cellsV_map ks g l (i + 1)
    simp only [cellsV, List.zipIdx_cons, List.map_cons, List.zip_cons_cons] at *
    rw [this]

theorem resAll_re {n : En} {app : K → Nat → E} {g : Nat → Int} (hg : ∀ (k : K) (i : Nat), k.norm ((app k i).den n.Φ n.ρ) = k.norm (g i)) : ∀ (ts : List VT) (i : Nat), SV.reL n (resAll app ts i) = valsV ts (((kindsOf ts).zipIdx i).map fun (k, j) => k.norm (g j))
  | [], _ => rfl
  | .one k :: ts, i => by
    simp only [resAll, SV.reL, resOne, leaf_re hg, VT.size, resAll_re hg ts (i + 1)]
    simp [kindsOf, VT.kinds, valsV]
  | .agg ks :: ts, i => by
    simp only [resAll, SV.reL, resOne, SV.re, resCells_re hg, VT.size, resAll_re hg ts (i + ks.length)]
    have hk : kindsOf (.agg ks :: ts) = ks ++ kindsOf ts := by simp [kindsOf, VT.kinds]
    rw [hk, List.zipIdx_append, List.map_append]
    simp only [valsV]
    rw [List.take_left' (by simp), List.drop_left' (by simp), cellsV_map ks]

theorem resAll_ok {N m : Nat} {app : K → Nat → E} (h : ∀ (k : K) (i : Nat), (app k i).under m = true) : ∀ (ts : List VT) (i : Nat), SV.OkL N m (resAll app ts i)
  | [], _ => trivial
  | .one k :: ts, i => ⟨by cases k <;> exact h _ _, resAll_ok h ts _⟩
  | .agg ks :: ts, i => by
    refine ⟨?_, resAll_ok h ts _⟩
    have : ∀ (ks : List K) (i : Nat), SV.OkL N m (resCells app ks i) := by
      intro ks
      induction ks with
      | nil => exact fun _ => trivial
      | cons k ks ih => exact fun i => ⟨by cases k <;> exact h _ _, ih _⟩
    exact this ks i

theorem tupled_re (n : En) (l : List SV) : (tupled l).re n = tupledV (SV.reL n l) := by
  rcases l with _ | ⟨v, _ | ⟨u, l⟩⟩ <;> rfl

theorem tupled_ok {N m : Nat} {l : List SV} (h : SV.OkL N m l) : (tupled l).Ok N m := by
  rcases l with _ | ⟨v, _ | ⟨u, l⟩⟩
  · exact h
  · exact h.1
  · exact h

section
variable {C : Ctx} {O : Owe} {w0 w : World} {kp : Nat → Prop} {hid : List Nat} {ro : Nat} {n : En} {m : Nat} {h : List SO}

/-- Memory that has grown. -/
theorem HR.below (H : HR w0 kp hid ro n m h w) {w' : World} (hb : Below w.heap.size w w') : HR w0 kp hid ro n m h w' := by
  refine ⟨hb.os.trans H.os, hb.tape.trans H.tape, hb.output.trans H.output, Nat.le_trans H.size hb.size, ?_, ?_, H.nodup, ?_, H.inj, H.own, H.nohid⟩
  · intro b hk
    obtain ⟨h1, h2⟩ := H.kept b hk
    exact ⟨h1, (hb.block b (by have := H.size; omega)).trans h2⟩
  · intro D hD
    obtain ⟨h1, h2⟩ := H.hids D hD
    exact ⟨h1, (hb.block D (Array.getElem?_eq_some_iff.1 h2).1).trans h2⟩
  · intro i o hi
    by_cases ha : o.alive = true
    · rw [hb.block _ (H.lt hi ha)]; exact H.blk i o hi
    · cases o <;> simp [SO.alive] at ha
      trivial

/-- A call by what is known of the function. -/
theorem byCon_ok {Φ : Spec} (hC : CtxOk C n.Φ O) (H : HR w0 kp hid ro n m h w) {f : Nat} {c : Con} (hf : C.con.lookup f = some c) {args : List SV} (hargs : SV.OkL h.length m args) {Q : (Nat → Int) → SV → Prop}
    (hE : (byCon C c args).Ev n.Φ O n.ρ Q) : ∃ v, Q n.ρ v ∧ v.Ok h.length m ∧ Calls C.P f (SV.reL n args).toArray w fun e w' => e = .returned (v.re n) ∧ HR w0 kp hid ro n m h w' := by
  unfold byCon at hE
  split at hE
  · exact hE.elim
  · rename_i l hl
    obtain ⟨h1, h2, h3⟩ := flatArgs_ok (n := n) hl hargs
    have hcon := hC.con f c hf (E.denL n.Φ n.ρ l) w (by rw [denL_length, ← h1, List.length_map]) (by rw [← h1]; exact normL_denL _ _ _)
    split at hE
    · rename_i vs hvs
      simp only [Option.bind_eq_some_iff] at hvs
      obtain ⟨us, hus, hfold⟩ := hvs
      obtain ⟨hΦ, hdom⟩ := hC.fold _ _ _ hfold
      rw [← litVals_ok n.Φ n.ρ hus] at hΦ hdom
      refine ⟨_, hE, tupled_ok (resAll_ok (fun k i => rfl) _ _), ?_⟩
      rw [h2]
      refine (hcon (fun _ => hdom)).mono ?_
      rintro e w' ⟨rfl, hb⟩
      refine ⟨?_, H.below hb⟩
      rw [tupled_re, resAll_re (g := fun i => vs.getD i 0) (fun k i => by simp [E.den, norm_norm]), hΦ]
      rfl
    · have hv2 : SV.Ok h.length m (tupled (resAll (fun k i => .app k c.spec l i) c.res 0)) := tupled_ok (resAll_ok (app := fun k i => .app k c.spec l i) (fun k i => by simpa only [E.under] using h3) _ _)
      have hv3 : (tupled (resAll (fun k i => .app k c.spec l i) c.res 0)).re n = tupledV (valsV c.res (fitted (kindsOf c.res) (n.Φ c.spec (E.denL n.Φ n.ρ l)))) := by
        rw [tupled_re, resAll_re (g := fun i => (n.Φ c.spec (E.denL n.Φ n.ρ l)).getD i 0) (fun k i => by simp [E.den, norm_norm])]
        rfl
      simp only at hE
      split at hE
      · rename_i ht
        refine ⟨_, hE, hv2, ?_⟩
        rw [h2]
        refine (hcon (fun hf => by rw [ht] at hf; cases hf)).mono ?_
        rintro e w' ⟨rfl, hb⟩
        exact ⟨by rw [hv3], H.below hb⟩
      · refine ⟨_, hE.2, hv2, ?_⟩
        rw [h2]
        refine (hcon (fun _ => hE.1)).mono ?_
        rintro e w' ⟨rfl, hb⟩
        exact ⟨by rw [hv3], H.below hb⟩
end

end Go.Sx

/- Memory seen anew: what a loop's head forgets; what a part of a region has done, put back into the whole. -/
namespace Go.Sx
open Go.RowKit

mutual
theorem E.beq_eq : ∀ a b : E, a.beq b = true → a = b
  | .var k i, b, h => by cases b <;> simp [E.beq] at h ⊢ <;> exact h
  | .lit k n, b, h => by cases b <;> simp [E.beq] at h ⊢ <;> exact h
  | .bin op k k2 x y, b, h => by
    cases b <;> simp [E.beq] at h ⊢
    obtain ⟨⟨⟨⟨h1, h2⟩, h3⟩, h4⟩, h5⟩ := h
    exact ⟨h1, h2, h3, E.beq_eq x _ h4, E.beq_eq y _ h5⟩
  | .conv k k1 x, b, h => by
    cases b <;> simp [E.beq] at h ⊢
    obtain ⟨⟨h1, h2⟩, h4⟩ := h
    exact ⟨h1, h2, E.beq_eq x _ h4⟩
  | .cmp op k x y, b, h => by
    cases b <;> simp [E.beq] at h ⊢
    obtain ⟨⟨⟨h1, h2⟩, h4⟩, h5⟩ := h
    exact ⟨h1, h2, E.beq_eq x _ h4, E.beq_eq y _ h5⟩
  | .not x, b, h => by
    cases b <;> simp [E.beq] at h ⊢
    exact E.beq_eq x _ h
  | .ite k c x y, b, h => by
    cases b <;> simp [E.beq] at h ⊢
    obtain ⟨⟨⟨h1, h2⟩, h4⟩, h5⟩ := h
    exact ⟨h1, E.beq_eq c _ h2, E.beq_eq x _ h4, E.beq_eq y _ h5⟩
  | .app k s l i, b, h => by
    cases b <;> simp [E.beq] at h ⊢
    obtain ⟨⟨⟨h1, h2⟩, h4⟩, h5⟩ := h
    exact ⟨h1, h2, E.beqL_eq l _ h5, h4⟩
theorem E.beqL_eq : ∀ a b : List (K × E), E.beqL a b = true → a = b
  | [], [], _ => rfl
  | [], _ :: _, h => by simp [E.beqL] at h
  | (_, _) :: _, [], h => by simp [E.beqL] at h
  | (k, x) :: r, (k', y) :: r', h => by
    simp only [E.beqL, Bool.and_eq_true, decide_eq_true_eq] at h
    obtain ⟨⟨h1, h2⟩, h3⟩ := h
    rw [h1, E.beq_eq x y h2, E.beqL_eq r r' h3]
end

/-- The variables from 'base' on are what is told. -/
def En.head (n : En) (base : Nat) (vs : List (K × E)) : En := { n with ρ := upd n.ρ base (E.denL n.Φ n.ρ vs) }

theorem upd_lt (ρ : Nat → Int) {base : Nat} (v : List Int) {i : Nat} (h : i < base) : upd ρ base v i = ρ i := by simp [upd, Nat.not_le_of_lt h]
theorem upd_ge (ρ : Nat → Int) {base : Nat} {v : List Int} {i : Nat} (h : base ≤ i) {x : Int} (hx : v[i - base]? = some x) : upd ρ base v i = x := by simp [upd, h, hx]
theorem upd_nil (ρ : Nat → Int) (base : Nat) : upd ρ base [] = ρ := by funext i; simp [upd]

theorem denL_get {Φ : Spec} {ρ : Nat → Int} : ∀ {l : List (K × E)} {i : Nat} {k : K} {e : E}, l[i]? = some (k, e) → (E.denL Φ ρ l)[i]? = some (k.norm (e.den Φ ρ))
  | [], i, k, e, h => by simp at h
  | (k', e') :: r, 0, k, e, h => by simp at h; obtain ⟨rfl, rfl⟩ := h; simp [E.denL]
  | (k', e') :: r, i + 1, k, e, h => by simp at h; simp [E.denL, denL_get h]

theorem headE_den {n : En} {q : K} {base : Nat} {vs : List (K × E)} {h e : E} (hh : headE q base vs h e = true) :
    q.norm (h.den n.Φ (n.head base vs).ρ) = q.norm (e.den n.Φ n.ρ) ∧ h.under (base + vs.length) = true := by
  have old : ∀ {h : E}, h.under base = true → h.den n.Φ (n.head base vs).ρ = h.den n.Φ n.ρ := fun hu => E.den_congr (fun i hi => upd_lt _ _ hi) _ hu
  have up : ∀ {h : E}, h.under base = true → h.under (base + vs.length) = true := fun hu => E.under_mono (Nat.le_add_right _ _) _ hu
  cases h
  case var k i =>
    simp only [headE] at hh
    split at hh
    · rename_i hb
      split at hh
      · rename_i k' e' hv
        simp only [Bool.and_eq_true, decide_eq_true_eq] at hh
        obtain ⟨⟨rfl, rfl⟩, h3⟩ := hh
        have := E.beq_eq _ _ h3
        subst this
        refine ⟨?_, ?_⟩
        · simp only [E.den, En.head, upd_ge n.ρ hb (denL_get hv), norm_norm]
        · have := (List.getElem?_eq_some_iff.1 hv).1
          simp only [E.under, decide_eq_true_eq]; omega
      · cases hh
    · rename_i hb
      have := E.beq_eq _ _ hh
      subst this
      have hu : (E.var k i).under base = true := by simp only [E.under, decide_eq_true_eq]; omega
      exact ⟨by rw [old hu], up hu⟩
  all_goals
    simp only [headE, Bool.and_eq_true] at hh
    have := E.beq_eq _ _ hh.2
    subst this
    exact ⟨by rw [old hh.1], up hh.1⟩

mutual
theorem sameSV_re {n : En} {base : Nat} {vs : List (K × E)} : ∀ a b : SV, sameSV base vs a b = true → a.re (n.head base vs) = b.re n
  | .int k h, b, hs => by
    cases b <;> simp [sameSV] at hs
    obtain ⟨rfl, h2⟩ := hs
    have := (headE_den (n := n) h2).1
    simp only [SV.re]
    exact congrArg _ this
  | .bool h, b, hs => by
    cases b <;> simp [sameSV] at hs
    have := (headE_den (n := n) hs).1
    simp only [SV.re]
    rw [← norm_bool_ne, ← norm_bool_ne (E.den n.Φ n.ρ _)]
    exact congrArg (fun x => Value.bool (x != 0)) this
  | .ptr b o, c, hs => by cases c <;> simp [sameSV] at hs; obtain ⟨rfl, rfl⟩ := hs; rfl
  | .nilptr, c, hs => by cases c <;> simp [sameSV] at hs; rfl
  | .slice b o l k, c, hs => by cases c <;> simp [sameSV] at hs; obtain ⟨⟨⟨rfl, rfl⟩, rfl⟩, rfl⟩ := hs; rfl
  | .nilslice, c, hs => by cases c <;> simp [sameSV] at hs; rfl
  | .etail b o d j, c, hs => by cases c <;> simp [sameSV] at hs; obtain ⟨⟨⟨rfl, rfl⟩, rfl⟩, rfl⟩ := hs; rfl
  | .sel b o z k h, c, hs => by
    cases c <;> simp [sameSV] at hs
    obtain ⟨⟨⟨⟨rfl, rfl⟩, rfl⟩, rfl⟩, h2⟩ := hs
    have := (headE_den (n := n) h2).1
    simp only [norm_int] at this
    simp only [SV.re]
    rw [show (n.head base vs).Φ = n.Φ from rfl, this]; rfl
  | .map r, c, hs => by cases c <;> simp [sameSV] at hs; subst hs; rfl
  | .nilmap, c, hs => by cases c <;> simp [sameSV] at hs; rfl
  | .fn f x y, c, hs => by
    cases c <;> simp [sameSV] at hs
    obtain ⟨⟨rfl, h1⟩, h2⟩ := hs
    simp only [SV.re]; rw [sameL_re x _ h1, sameL_re y _ h2]
  | .yield l, c, hs => by cases c <;> simp [sameSV] at hs; subst hs; rfl
  | .nilfn, c, hs => by cases c <;> simp [sameSV] at hs; rfl
  | .agg x, c, hs => by cases c <;> simp [sameSV] at hs; simp only [SV.re]; rw [sameL_re x _ hs]
  | .tuple x, c, hs => by cases c <;> simp [sameSV] at hs; simp only [SV.re]; rw [sameL_re x _ hs]
theorem sameL_re {n : En} {base : Nat} {vs : List (K × E)} : ∀ a b : List SV, sameL base vs a b = true → SV.reL (n.head base vs) a = SV.reL n b
  | [], [], _ => rfl
  | [], _ :: _, hs => by simp [sameL] at hs
  | _ :: _, [], hs => by simp [sameL] at hs
  | x :: r, y :: r', hs => by
    simp only [sameL, Bool.and_eq_true] at hs
    simp only [SV.reL]; rw [sameSV_re x y hs.1, sameL_re r r' hs.2]
end

mutual
theorem sameSV_ok {base : Nat} {vs : List (K × E)} {N m : Nat} : ∀ a b : SV, sameSV base vs a b = true → b.Ok N m → a.Ok N (base + vs.length)
  | .int k h, b, hs, _ => by
    cases b <;> simp [sameSV] at hs
    exact (headE_den (n := ⟨fun _ _ => [], fun _ => 0, fun _ => 0, fun _ => 0⟩) hs.2).2
  | .bool h, b, hs, _ => by
    cases b <;> simp [sameSV] at hs
    exact (headE_den (n := ⟨fun _ _ => [], fun _ => 0, fun _ => 0, fun _ => 0⟩) hs).2
  | .ptr b o, c, hs, hk => by cases c <;> simp [sameSV] at hs; obtain ⟨rfl, rfl⟩ := hs; exact hk
  | .nilptr, c, hs, hk => trivial
  | .slice b o l k, c, hs, hk => by cases c <;> simp [sameSV] at hs; obtain ⟨⟨⟨rfl, rfl⟩, rfl⟩, rfl⟩ := hs; exact hk
  | .nilslice, c, hs, hk => trivial
  | .etail b o d j, c, hs, hk => by cases c <;> simp [sameSV] at hs; obtain ⟨⟨⟨rfl, rfl⟩, rfl⟩, rfl⟩ := hs; exact hk
  | .sel b o z k h, c, hs, hk => by
    cases c <;> simp [sameSV] at hs
    obtain ⟨⟨⟨⟨rfl, rfl⟩, rfl⟩, rfl⟩, h2⟩ := hs
    exact ⟨hk.1, (headE_den (n := ⟨fun _ _ => [], fun _ => 0, fun _ => 0, fun _ => 0⟩) h2).2⟩
  | .map r, c, hs, hk => by cases c <;> simp [sameSV] at hs; subst hs; exact hk
  | .nilmap, c, hs, hk => trivial
  | .fn f x y, c, hs, hk => by
    cases c <;> simp [sameSV] at hs
    obtain ⟨⟨rfl, h1⟩, h2⟩ := hs
    exact ⟨sameL_ok x _ h1 hk.1, sameL_ok y _ h2 hk.2⟩
  | .yield l, c, hs, hk => by cases c <;> simp [sameSV] at hs; subst hs; exact hk
  | .nilfn, c, hs, hk => trivial
  | .agg x, c, hs, hk => by cases c <;> simp [sameSV] at hs; exact sameL_ok x _ hs hk
  | .tuple x, c, hs, hk => by cases c <;> simp [sameSV] at hs; exact sameL_ok x _ hs hk
theorem sameL_ok {base : Nat} {vs : List (K × E)} {N m : Nat} : ∀ a b : List SV, sameL base vs a b = true → SV.OkL N m b → SV.OkL N (base + vs.length) a
  | [], _, _, _ => trivial
  | _ :: _, [], hs, _ => by simp [sameL] at hs
  | x :: r, y :: r', hs, hk => by
    simp only [sameL, Bool.and_eq_true] at hs
    exact ⟨sameSV_ok x y hs.1 hk.1, sameL_ok r r' hs.2 hk.2⟩
end

def SO.Ok (N m : Nat) : SO → Prop
  | .cells cs _ => SV.OkL N m cs
  | .grow cs _ _ => SV.OkL N m cs
  | .map es _ => ∀ p ∈ es, p.1.Ok N m ∧ p.2.Ok N m
  | .loop _ _ _ t _ _ _ => ∀ (i : Nat) (v : SV), t[i]? = some (some v) → v.Ok N m
  | .bag => True
  | .look _ es => ∀ p ∈ es, p.1.Ok N m ∧ p.2.Ok N m
  | .dead => True

theorem OR.ok {n : En} {N m k : Nat} {o : SO} {x : Option Obj} (h : OR n N m k o x) : o.Ok N m := by
  cases o with
  | cells cs e => exact h.1
  | grow cs e sz => exact h.1
  | map es cl => exact h.1
  | loop s p f t ps a b =>
    obtain ⟨lp, _, _, _, _, _, _, h8⟩ := h
    exact fun i v hv => (h8.2 i v hv).1
  | bag => trivial
  | look ks es => exact h.1
  | dead => trivial

/-- The same object, of which more is known. -/
theorem OR.ok' {n : En} {N m N' m' k : Nat} {o : SO} {x : Option Obj} (h : OR n N m k o x) (hk : o.Ok N' m') : OR n N' m' k o x := by
  cases o with
  | cells cs e => exact ⟨hk, h.2⟩
  | grow cs e sz => exact ⟨hk, h.2⟩
  | map es cl => exact ⟨hk, h.2⟩
  | loop s p f t ps a b =>
    obtain ⟨lp, h1, h2, h3, h5, h6, h7, h8⟩ := h
    exact ⟨lp, h1, h2, h3, h5, h6, h7, h8.1, fun i v hv => ⟨hk i v hv, (h8.2 i v hv).2⟩⟩
  | bag => exact h
  | look ks es => exact ⟨hk, h.2⟩
  | dead => trivial

theorem sameMap_re {n : En} {base : Nat} {vs : List (K × E)} {N m : Nat} : ∀ {a b : List (SV × SV)}, sameMap base vs a b = true → (∀ p ∈ b, p.1.Ok N m ∧ p.2.Ok N m) →
    (a.map fun p => (p.1.re (n.head base vs), p.2.re (n.head base vs))) = (b.map fun p => (p.1.re n, p.2.re n)) ∧ ∀ p ∈ a, p.1.Ok N (base + vs.length) ∧ p.2.Ok N (base + vs.length)
  | [], [], _, _ => ⟨rfl, by simp⟩
  | [], _ :: _, hs, _ => by simp [sameMap] at hs
  | (_, _) :: _, [], hs, _ => by simp [sameMap] at hs
  | (k, v) :: r, (k', v') :: r', hs, hk => by
    simp only [sameMap, Bool.and_eq_true] at hs
    obtain ⟨h1, h2⟩ := sameMap_re (n := n) hs.2 (fun p hp => hk p (List.mem_cons_of_mem _ hp))
    have h0 := hk (k', v') List.mem_cons_self
    refine ⟨by simp only [List.map_cons, sameSV_re k k' hs.1.1, sameSV_re v v' hs.1.2, h1], ?_⟩
    intro p hp
    rcases List.mem_cons.1 hp with rfl | hp
    · exact ⟨sameSV_ok _ _ hs.1.1 h0.1, sameSV_ok _ _ hs.1.2 h0.2⟩
    · exact h2 p hp

theorem sameSO_or {n : En} {base : Nat} {vs : List (K × E)} {N m k : Nat} {a b : SO} {x : Option Obj} (hs : sameSO base vs a b = true) (ha : a.alive = true) (h : OR n N m k b x) :
    b.alive = true ∧ OR (n.head base vs) N (base + vs.length) k a x := by
  cases a <;> simp [SO.alive] at ha <;> cases b <;> simp [sameSO] at hs
  · obtain ⟨rfl, h2⟩ := hs
    exact ⟨rfl, sameL_ok _ _ h2 h.1, by rw [sameL_re _ _ h2]; exact h.2⟩
  · obtain ⟨⟨rfl, rfl⟩, h2⟩ := hs
    refine ⟨rfl, sameL_ok _ _ h2 h.1, ?_⟩
    rw [sameL_re (n := n) _ _ h2]
    obtain ⟨rest, h3, h4⟩ := h.2
    refine ⟨rest, h3, ?_⟩
    have := congrArg List.length (sameL_re (n := n) _ _ h2)
    rw [reL_length, reL_length] at this
    rw [this]; exact h4
  · obtain ⟨rfl, h2⟩ := hs
    obtain ⟨hok, ents, c, h3, h4⟩ := h
    obtain ⟨h5, h6⟩ := sameMap_re (n := n) h2 hok
    exact ⟨rfl, h6, ents, c, h3, by rw [h4, h5]⟩

theorem sameHeap_get {base : Nat} {vs : List (K × E)} : ∀ {g h : List SO}, sameHeap base vs g h = true → g.length = h.length ∧ ∀ (i : Nat) (o : SO), g[i]? = some o → ∃ o', h[i]? = some o' ∧ sameSO base vs o o' = true
  | [], [], _ => ⟨rfl, by simp⟩
  | [], _ :: _, hs => by simp [sameHeap] at hs
  | _ :: _, [], hs => by simp [sameHeap] at hs
  | a :: r, b :: r', hs => by
    simp only [sameHeap, Bool.and_eq_true] at hs
    obtain ⟨h1, h2⟩ := sameHeap_get hs.2
    refine ⟨by simp [h1], ?_⟩
    intro i o hi
    cases i with
    | zero => simp at hi; subst hi; exact ⟨b, by simp, hs.1⟩
    | succ i => simp at hi; obtain ⟨o', h3, h4⟩ := h2 i o hi; exact ⟨o', by simpa using h3, h4⟩

theorem sameTmps_get {base : Nat} {vs : List (K × E)} : ∀ {g h : List (Option SV)}, sameTmps base vs g h = true → g.length = h.length ∧ ∀ (i : Nat) (v : SV), g[i]? = some (some v) → ∃ v', h[i]? = some (some v') ∧ sameSV base vs v v' = true
  | [], [], _ => ⟨rfl, by simp⟩
  | [], _ :: _, hs => by simp [sameTmps] at hs
  | none :: _, [], hs => by simp [sameTmps] at hs
  | some _ :: _, [], hs => by simp [sameTmps] at hs
  | none :: r, b :: r', hs => by
    simp only [sameTmps] at hs
    obtain ⟨h1, h2⟩ := sameTmps_get hs
    refine ⟨by simp [h1], ?_⟩
    intro i v hi
    cases i with
    | zero => simp at hi
    | succ i => simp at hi; obtain ⟨o', h3, h4⟩ := h2 i v hi; exact ⟨o', by simpa using h3, h4⟩
  | some a :: r, none :: r', hs => by simp [sameTmps] at hs
  | some a :: r, some b :: r', hs => by
    simp only [sameTmps, Bool.and_eq_true] at hs
    obtain ⟨h1, h2⟩ := sameTmps_get hs.2
    refine ⟨by simp [h1], ?_⟩
    intro i v hi
    cases i with
    | zero => simp at hi; subst hi; exact ⟨b, by simp, hs.1⟩
    | succ i => simp at hi; obtain ⟨o', h3, h4⟩ := h2 i v hi; exact ⟨o', by simpa using h3, h4⟩

section
variable {w0 w : World} {kp : Nat → Prop} {hid : List Nat} {ro : Nat} {n : En} {m : Nat} {h : List SO}

/-- The same memory, told in another way. -/
theorem HR.swap (H : HR w0 kp hid ro n m h w) {g : List SO} {n' : En} {m' : Nat} (hε : ∀ i o, g[i]? = some o → o.alive = true → n'.ε i = n.ε i)
    (hp : ∀ i o, g[i]? = some o → o.alive = true → ∃ o', h[i]? = some o' ∧ o'.alive = true ∧ ∀ x, OR n h.length m (n.κ i) o' x → OR n' g.length m' (n'.κ i) o x) : HR w0 kp hid ro n' m' g w := by
  refine { H with blk := ?_, inj := ?_, own := ?_, nohid := ?_ }
  · intro i o hi
    by_cases ha : o.alive = true
    · obtain ⟨o', h1, h2, h3⟩ := hp i o hi ha
      rw [hε i o hi ha]
      exact h3 _ (H.blk i o' h1)
    · cases o <;> simp [SO.alive] at ha
      trivial
  · intro i j oi oj hi hj hai haj he
    obtain ⟨_, h1, h2, _⟩ := hp i oi hi hai
    obtain ⟨_, h3, h4, _⟩ := hp j oj hj haj
    rw [hε i oi hi hai, hε j oj hj haj] at he
    exact H.inj i j _ _ h1 h3 h2 h4 he
  · intro i o hi ha hro
    obtain ⟨_, h1, h2, _⟩ := hp i o hi ha
    rw [hε i o hi ha]; exact H.own i _ h1 h2 hro
  · intro i o hi ha
    obtain ⟨_, h1, h2, _⟩ := hp i o hi ha
    rw [hε i o hi ha]; exact H.nohid i _ h1 h2
end
end Go.Sx

/- What one operation of a region has done, put back into the whole of memory. -/
namespace Go.Sx
open Go.RowKit

/-- Two tell the same but for the blocks a..b. -/
structure En.But (a b m : Nat) (n n' : En) : Prop where
  Φ : n.Φ = n'.Φ
  ρ : ∀ i, i < m → n.ρ i = n'.ρ i
  ε : ∀ i, i < a ∨ b ≤ i → n.ε i = n'.ε i
  κ : ∀ i, i < a ∨ b ≤ i → n.κ i = n'.κ i

theorem av_iff {a b i : Nat} : (decide (i < a) || decide (b ≤ i)) = true ↔ i < a ∨ b ≤ i := by simp

mutual
theorem SV.re_av {a b N m : Nat} {n n' : En} (h : En.But a b m n n') : ∀ v : SV, v.Ok N m → v.av a b = true → v.re n = v.re n'
  | .int k x, hv, _ => by simp only [SV.Ok] at hv; simp only [SV.re]; rw [h.Φ, E.den_congr h.ρ x hv]
  | .bool x, hv, _ => by simp only [SV.Ok] at hv; simp only [SV.re]; rw [h.Φ, E.den_congr h.ρ x hv]
  | .ptr i o, hv, ha => by simp only [SV.av, av_iff] at ha; simp only [SV.re]; rw [h.ε i ha]
  | .nilptr, _, _ => rfl
  | .slice i o l c, hv, ha => by simp only [SV.av, av_iff] at ha; simp only [SV.re]; rw [h.ε i ha, h.κ i ha]
  | .nilslice, _, _ => rfl
  | .etail i o d j, hv, ha => by simp only [SV.av, av_iff] at ha; simp only [SV.re]; rw [h.ε i ha, h.κ i ha]
  | .sel i o z c x, hv, ha => by simp only [SV.av, av_iff] at ha; simp only [SV.re]; rw [h.ε i ha, h.Φ, E.den_congr h.ρ x hv.2]
  | .map i, hv, ha => by simp only [SV.av, av_iff] at ha; simp only [SV.re]; rw [h.ε i ha]
  | .nilmap, _, _ => rfl
  | .fn f x y, hv, ha => by simp only [SV.av, Bool.and_eq_true] at ha; simp only [SV.re]; rw [SV.reL_av h x hv.1 ha.1, SV.reL_av h y hv.2 ha.2]
  | .yield i, hv, ha => by simp only [SV.av, av_iff] at ha; simp only [SV.re]; rw [h.ε i ha]
  | .nilfn, _, _ => rfl
  | .agg cs, hv, ha => by simp only [SV.av] at ha; simp only [SV.re]; rw [SV.reL_av h cs hv ha]
  | .tuple cs, hv, ha => by simp only [SV.av] at ha; simp only [SV.re]; rw [SV.reL_av h cs hv ha]
theorem SV.reL_av {a b N m : Nat} {n n' : En} (h : En.But a b m n n') : ∀ l : List SV, SV.OkL N m l → SV.avL a b l = true → SV.reL n l = SV.reL n' l
  | [], _, _ => rfl
  | v :: r, hv, ha => by
    simp only [SV.avL, Bool.and_eq_true] at ha
    simp only [SV.reL]; rw [SV.re_av h v hv.1 ha.1, SV.reL_av h r hv.2 ha.2]
end

theorem OR.re_av {a b N m k k' : Nat} {n n' : En} {o : SO} {x : Option Obj} (h : En.But a b m n n') (hk : k' = k) (ho : OR n N m k o x) (ha : o.av a b = true) : OR n' N m k' o x := by
  subst hk
  cases o with
  | cells cs e => exact ⟨ho.1, by rw [← SV.reL_av h cs ho.1 ha]; exact ho.2⟩
  | grow cs e sz => exact ⟨ho.1, by rw [← SV.reL_av h cs ho.1 ha]; exact ho.2⟩
  | map es cl =>
    obtain ⟨hok, ents, c, h1, h2⟩ := ho
    simp only [SO.av, List.all_eq_true, Bool.and_eq_true] at ha
    refine ⟨hok, ents, c, h1, h2.trans ?_⟩
    refine List.map_congr_left fun p hp => ?_
    rw [SV.re_av h _ (hok p hp).1 (ha p hp).1, SV.re_av h _ (hok p hp).2 (ha p hp).2]
  | loop s p f t ps x y =>
    obtain ⟨lp, h1, h2, h3, h5, h6, h7, h8⟩ := ho
    refine ⟨lp, h1, h2, h3, h5, h6, h7, h8.1, fun i v hv => ⟨(h8.2 i v hv).1, ?_⟩⟩
    simp only [SO.av, List.all_eq_true] at ha
    have := ha _ (List.mem_of_getElem? hv)
    rw [← SV.re_av h v (h8.2 i v hv).1 this]; exact (h8.2 i v hv).2
  | bag => exact ho
  | look ks es =>
    obtain ⟨hok, ents, c, h1, h2⟩ := ho
    simp only [SO.av, List.all_eq_true, Bool.and_eq_true] at ha
    refine ⟨hok, ents, c, h1, h2.trans (List.Perm.of_eq ?_)⟩
    refine List.map_congr_left fun p hp => ?_
    rw [SV.re_av h _ (hok p hp).1 (ha p hp).1, SV.re_av h _ (hok p hp).2 (ha p hp).2]
  | dead => trivial

/-- The objects up to 'b' as the one tells them, the rest as the other. -/
def En.over (n n1 : En) (b : Nat) : En := { n1 with ε := fun i => if i < b then n1.ε i else n.ε i, κ := fun i => if i < b then n1.κ i else n.κ i }

theorem En.over_but {n n1 : En} {a b m : Nat} (hag : En.Agree a m n n1) (hab : a ≤ b) : En.But a b m n (n.over n1 b) := by
  refine ⟨hag.Φ, hag.ρ, fun i hi => ?_, fun i hi => ?_⟩ <;> simp only [En.over] <;> split
  · exact hag.ε i (by omega)
  · rfl
  · exact hag.κ i (by omega)
  · rfl

theorem En.over_agree {n n1 : En} {b m : Nat} : En.Agree b m n1 (n.over n1 b) :=
  ⟨rfl, fun _ _ => rfl, fun i hi => by simp [En.over, hi], fun i hi => by simp [En.over, hi]⟩

section
variable {w0 w w1 : World} {kp kp1 : Nat → Prop} {hid : List Nat} {ro : Nat} {n n1 : En} {m m1 : Nat} {M hv h1 M' : List SO}

/-- What is kept where only the first objects are seen. -/
def seen (w : World) (hid : List Nat) (ro : Nat) (n : En) (hv : List SO) (b : Nat) : Prop := b < w.heap.size ∧ b ∉ hid ∧ ∀ (i : Nat) (o : SO), hv[i]? = some o → o.alive = true → ro ≤ i → n.ε i ≠ b

/-- A part of memory, by itself. -/
theorem HR.part (H : HR w0 kp hid ro n m M w) (hsub : ∀ (i : Nat) (o : SO), hv[i]? = some o → o.alive = true → M[i]? = some o) (hok : ∀ (i : Nat) (o : SO), hv[i]? = some o → o.alive = true → o.Ok hv.length m) :
    HR w (seen w hid ro n hv) hid ro n m hv w := by
  refine ⟨rfl, rfl, rfl, Nat.le_refl _, fun b hb => ⟨hb.1, rfl⟩, fun D hD => ⟨fun hs => hs.2.1 hD, (H.hids D hD).2⟩, H.nodup, ?_, ?_, ?_, fun i o hi ha => H.nohid i o (hsub i o hi ha) ha⟩
  · intro i o hi
    by_cases ha : o.alive = true
    · exact (H.blk i o (hsub i o hi ha)).ok' (hok i o hi ha)
    · cases o <;> simp [SO.alive] at ha
      trivial
  · intro i j oi oj hi hj hai haj he
    exact H.inj i j oi oj (hsub i oi hi hai) (hsub j oj hj haj) hai haj he
  · intro i o hi ha hro hk
    exact hk.2.2 i o hi ha hro rfl

theorem HR.merge (H : HR w0 kp hid ro n m M w) (hsub : ∀ (i : Nat) (o : SO), hv[i]? = some o → o.alive = true → M[i]? = some o) (H1 : HR w (seen w hid ro n hv) hid ro n1 m h1 w1)
    (hag : En.Agree hv.length m n n1) (hlen : hv.length ≤ h1.length) (hro : ro ≤ hv.length)
    (hcell : ∀ (i : Nat) (o : SO), i < hv.length → h1[i]? = some o → o.alive = true → ∃ (o' : SO), hv[i]? = some o' ∧ o'.alive = true)
    (hres : ∀ (i : Nat) (o : SO), hv.length ≤ i → i < h1.length → M[i]? = some o → o.alive = false)
    (hav : ∀ (i : Nat) (o : SO), M[i]? = some o → o.alive = true → o.av hv.length h1.length = true)
    (hM1 : M'.length = M.length) (hM2 : h1.length ≤ M.length)
    (hM' : ∀ (i : Nat) (o : SO), M'[i]? = some o → o.alive = true → h1[i]? = some o ∨ (M[i]? = some o ∧ ∀ (o' : SO), hv[i]? = some o' → o'.alive = false)) :
    HR w0 kp hid ro (n.over n1 h1.length) m M' w1 := by
  have hbut := En.over_but (b := h1.length) hag hlen
  have hov : En.Agree h1.length m n1 (n.over n1 h1.length) := En.over_agree
  have hlt : ∀ {l : List SO} {i : Nat} {o : SO}, l[i]? = some o → i < l.length := fun hi => (List.getElem?_eq_some_iff.1 hi).1
  -- an object that the part does not see: its block, as it was
  have hfar : ∀ {i : Nat} {o : SO}, M[i]? = some o → o.alive = true → (∀ (o' : SO), hv[i]? = some o' → o'.alive = false) → (n.over n1 h1.length).ε i = n.ε i ∧ (n.over n1 h1.length).κ i = n.κ i ∧ seen w hid ro n hv (n.ε i) := by
    intro i o hi ha hno
    have hi' : i < hv.length ∨ h1.length ≤ i := by
      by_cases h1' : i < hv.length
      · exact .inl h1'
      · by_cases h2 : i < h1.length
        · have := hres i o (by omega) h2 hi; rw [this] at ha; cases ha
        · exact .inr (by omega)
    refine ⟨(hbut.ε i hi').symm, (hbut.κ i hi').symm, H.lt hi ha, H.nohid i o hi ha, fun j oj hj haj hr he => ?_⟩
    have := H.inj j i _ _ (hsub j oj hj haj) hi haj ha he
    subst this
    rw [hno oj hj] at haj; cases haj
  have hkeep : ∀ b, seen w hid ro n hv b → w1.heap[b]? = w.heap[b]? := fun b hb => (H1.kept b hb).2
  -- an object of the part's that was not new
  have hold : ∀ {i : Nat} {o : SO}, h1[i]? = some o → o.alive = true → i < hv.length → ∃ (o' : SO), M[i]? = some o' ∧ o'.alive = true ∧ n1.ε i = n.ε i := by
    intro i o hi ha hil
    obtain ⟨o', h2, h3⟩ := hcell i o hil hi ha
    exact ⟨o', hsub i o' h2 h3, h3, (hag.ε i hil).symm⟩
  refine ⟨H1.os.trans H.os, H1.tape.trans H.tape, H1.output.trans H.output, Nat.le_trans H.size H1.size, ?_, ?_, H.nodup, ?_, ?_, ?_, ?_⟩
  · intro b hb
    obtain ⟨h2, h3⟩ := H.kept b hb
    refine ⟨h2, (hkeep b ⟨by have := H.size; omega, fun hb' => (H.hids b hb').1 hb, fun i o hi ha hr he => ?_⟩).trans h3⟩
    exact H.own i o (hsub i o hi ha) ha hr (he ▸ hb)
  · intro D hD
    exact ⟨(H.hids D hD).1, (H1.hids D hD).2⟩
  · intro i o hi
    by_cases ha : o.alive = true
    · rcases hM' i o hi ha with h2 | ⟨h2, h3⟩
      · have := H1.blk i o h2
        rw [hov.ε i (hlt h2), hov.κ i (hlt h2)] at this
        exact this.mono (by rw [hM1]; exact hM2) (Nat.le_refl _) hov
      · obtain ⟨he, hk, hs⟩ := hfar h2 ha h3
        rw [he, hkeep _ hs, hM1]
        exact OR.re_av hbut hk (H.blk i o h2) (hav i o h2 ha)
    · cases o <;> simp [SO.alive] at ha
      trivial
  · -- apart
    have hmix : ∀ {i j : Nat} {oi oj : SO}, h1[i]? = some oi → oi.alive = true → M[j]? = some oj → oj.alive = true → (∀ (o' : SO), hv[j]? = some o' → o'.alive = false) → (n.over n1 h1.length).ε i = (n.over n1 h1.length).ε j → i = j := by
      intro i j oi oj hi hai hj haj hno he
      obtain ⟨he2, _, hs⟩ := hfar hj haj hno
      rw [← hov.ε i (hlt hi), he2] at he
      by_cases hil : i < hv.length
      · obtain ⟨o', h2, h3, h4⟩ := hold hi hai hil
        rw [h4] at he
        exact H.inj i j _ _ h2 hj h3 haj he
      · exact absurd (he ▸ hs) (H1.own i oi hi hai (by omega))
    intro i j oi oj hi hj hai haj he
    rcases hM' i oi hi hai with h2 | ⟨h2, h3⟩ <;> rcases hM' j oj hj haj with h4 | ⟨h4, h5⟩
    · rw [← hov.ε i (hlt h2), ← hov.ε j (hlt h4)] at he
      exact H1.inj i j _ _ h2 h4 hai haj he
    · exact hmix h2 hai h4 haj h5 he
    · exact (hmix h4 haj h2 hai h3 he.symm).symm
    · rw [(hfar h2 hai h3).1, (hfar h4 haj h5).1] at he
      exact H.inj i j _ _ h2 h4 hai haj he
  · intro i o hi ha hr hk
    rcases hM' i o hi ha with h2 | ⟨h2, h3⟩
    · rw [← hov.ε i (hlt h2)] at hk
      refine H1.own i o h2 ha hr ⟨by have := (H.kept _ hk).1; have := H.size; omega, H1.nohid i o h2 ha, fun j oj hj haj hrj he => ?_⟩
      exact H.own j oj (hsub j oj hj haj) haj hrj (he ▸ hk)
    · rw [(hfar h2 ha h3).1] at hk
      exact H.own i o h2 ha hr hk
  · intro i o hi ha hk
    rcases hM' i o hi ha with h2 | ⟨h2, h3⟩
    · rw [← hov.ε i (hlt h2)] at hk
      exact H1.nohid i o h2 ha hk
    · rw [(hfar h2 ha h3).1] at hk
      exact H.nohid i o h2 ha hk
end
end Go.Sx

/- What an operation of a region that draws its order sees of what has been done. -/
namespace Go.Sx
open Go.RowKit

/-- Memory where those of 'S' have been done: in the text's order; what the others make stands reserved. -/
def doneH (S : Nat → Bool) : List SO → List Did → Nat → List SO
  | h, d :: ds, j => doneH S (if S j = true then d.r.heap h else h ++ d.r.new.map fun _ => .dead) ds (j + 1)
  | h, [], _ => h

theorem setAll_length : ∀ (h : List SO) (l : List (Nat × SO)), (setAll h l).length = h.length
  | h, [] => rfl
  | h, (i, o) :: r => by simp only [setAll, setR_eq]; rw [setAll_length (h.set i o) r, List.length_set]

theorem killAll_length : ∀ (h : List SO) (l : List (Nat × SO)), (killAll h l).length = h.length
  | h, [] => rfl
  | h, (i, o) :: r => by simp only [killAll, setR_eq]; rw [killAll_length (h.set i .dead) r, List.length_set]

theorem heap_length (r : R) (h : List SO) : (r.heap h).length = h.length + r.new.length := by simp [R.heap, setAll_length]

/-- Not turned: as it was. -/
theorem setAll_other : ∀ (h : List SO) (l : List (Nat × SO)) {b : Nat}, (∀ p ∈ l, p.1 ≠ b) → (setAll h l)[b]? = h[b]?
  | h, [], b, _ => rfl
  | h, (i, o) :: r, b, hb => by
    simp only [setAll, setR_eq]
    rw [setAll_other (h.set i o) r (fun p hp => hb p (List.mem_cons_of_mem _ hp)), List.getElem?_set_ne (hb (i, o) List.mem_cons_self)]

theorem killAll_alive : ∀ (h : List SO) (l : List (Nat × SO)) {b : Nat} {o : SO}, (killAll h l)[b]? = some o → o.alive = true → h[b]? = some o ∧ ∀ p ∈ l, p.1 ≠ b
  | h, [], b, o, hb, _ => ⟨hb, by simp⟩
  | h, (i, x) :: r, b, o, hb, ha => by
    simp only [killAll, setR_eq] at hb
    obtain ⟨h1, h2⟩ := killAll_alive (h.set i .dead) r hb ha
    rw [List.getElem?_set] at h1
    split at h1
    · split at h1
      · cases h1; cases ha
      · cases h1
    · rename_i hne
      exact ⟨h1, fun p hp => (List.mem_cons.1 hp).elim (fun e => e ▸ hne) (h2 p)⟩

/-- Seen, but for 'X'. -/
def Part (X : Nat → Prop) (V M : List SO) : Prop := V.length = M.length ∧ ∀ (b : Nat) (o : SO), V[b]? = some o → o.alive = true → ¬ X b → M[b]? = some o

theorem Part.setAll {X : Nat → Prop} : ∀ {V M : List SO} (l : List (Nat × SO)), Part X V M → Part X (Sx.setAll V l) (Sx.setAll M l)
  | V, M, [], h => h
  | V, M, (i, o) :: r, h => by
    simp only [Sx.setAll, setR_eq]
    refine Part.setAll r ⟨by simp [h.1], fun b q hb ha hx => ?_⟩
    rw [List.getElem?_set] at hb ⊢
    split at hb
    · rename_i e; subst e
      rw [if_pos rfl]
      rw [← h.1]; exact hb
    · rename_i e
      rw [if_neg e]; exact h.2 b q hb ha hx

theorem Part.append {X : Nat → Prop} {V M : List SO} (h : Part X V M) {a b : List SO} (hl : a.length = b.length) (hs : ∀ (i : Nat) (o : SO), a[i]? = some o → o.alive = true → b[i]? = some o) : Part X (V ++ a) (M ++ b) := by
  refine ⟨by simp [h.1, hl], fun i o hi ha hx => ?_⟩
  by_cases hlt : i < V.length
  · rw [List.getElem?_append_left hlt] at hi
    rw [List.getElem?_append_left (by rw [← h.1]; exact hlt)]
    exact h.2 i o hi ha hx
  · rw [List.getElem?_append_right (by omega)] at hi
    rw [List.getElem?_append_right (by rw [← h.1]; omega), ← h.1]
    exact hs _ o hi ha

theorem dead_get {l : List SO} {i : Nat} {o : SO} (h : (l.map fun _ => SO.dead)[i]? = some o) : o.alive = false := by
  rw [List.getElem?_map] at h
  cases hl : l[i]? <;> rw [hl] at h <;> simp at h
  subst h; rfl

theorem viewOf_heap {mem : Bool} {m : Nat} {S : Nat → Bool} : ∀ (os : List Oper) (ds : List Did) (j : Nat) (tm : List (Option SV)) (V M : List SO) (X : Nat → Prop),
    (∀ i, m.testBit i = true → j ≤ i → i < j + ds.length → S i = true) → os.length = ds.length → Part X V M → Part X (viewOf mem m tm V os ds j).2 (doneH S M ds j)
  | [], [], j, tm, V, M, X, _, _, h => by
    simp only [viewOf, doneH]
    split
    · exact h
    · exact ⟨by simp [h.1], fun b o hb ha _ => by rw [dead_get hb] at ha; cases ha⟩
  | [], _ :: _, j, tm, V, M, X, _, hl, h => by simp at hl
  | _ :: _, [], j, tm, V, M, X, _, hl, h => by simp at hl
  | o :: os, d :: ds, j, tm, V, M, X, hS, hl, h => by
    have hS' : ∀ i, m.testBit i = true → j + 1 ≤ i → i < j + 1 + ds.length → S i = true := fun i h1 h2 h3 => hS i h1 (by omega) (by simp; omega)
    simp only [viewOf, doneH]
    split
    · rename_i hm
      rw [if_pos (hS j hm (Nat.le_refl _) (by simp))]
      exact viewOf_heap os ds (j + 1) _ _ _ X hS' (by simpa using hl) (Part.append (h.setAll _) rfl fun i o hi _ => hi)
    · rename_i hm
      have h2 : Part (fun b => X b ∨ ∃ p ∈ d.r.upd, p.1 = b) (V ++ d.r.new.map fun _ => .dead) (if S j = true then d.r.heap M else M ++ d.r.new.map fun _ => .dead) := by
        have hV : Part (fun b => X b ∨ ∃ p ∈ d.r.upd, p.1 = b) V (if S j = true then Sx.setAll M d.r.upd else M) := by
          refine ⟨by split <;> simp [h.1, setAll_length], fun b q hb ha hx => ?_⟩
          have := h.2 b q hb ha (fun hx' => hx (.inl hx'))
          split
          · rw [setAll_other _ _ (fun p hp e => hx (.inr ⟨p, hp, e⟩))]; exact this
          · exact this
        split
        · rename_i hs
          rw [if_pos hs] at hV
          exact Part.append hV (by simp) fun i q hi ha => by rw [dead_get hi] at ha; cases ha
        · rename_i hs
          rw [if_neg hs] at hV
          exact Part.append hV rfl fun i q hi _ => hi
      have h3 := viewOf_heap (mem := mem) (m := m) (S := S) os ds (j + 1) tm _ _ _ hS' (by simpa using hl) h2
      refine ⟨by rw [killAll_length]; exact h3.1, fun b q hb ha hx => ?_⟩
      obtain ⟨h4, h5⟩ := killAll_alive _ _ hb ha
      exact h3.2 b q h4 ha (fun hx' => hx'.elim hx fun ⟨p, hp, e⟩ => h5 p hp e)

end Go.Sx

/- One more operation of a region that draws its order has been done. -/
namespace Go.Sx
open Go.RowKit

variable {S S' : Nat → Bool}

theorem doneH_append : ∀ (h : List SO) (a b : List Did) (j : Nat), doneH S h (a ++ b) j = doneH S (doneH S h a j) b (j + a.length)
  | h, [], b, j => rfl
  | h, d :: a, b, j => by
    simp only [List.cons_append, doneH, List.length_cons]
    rw [doneH_append _ a b (j + 1)]
    congr 1; omega

theorem doneH_congr : ∀ (h : List SO) (a : List Did) (j : Nat), (∀ i, j ≤ i → i < j + a.length → S i = S' i) → doneH S h a j = doneH S' h a j
  | h, [], j, _ => rfl
  | h, d :: a, j, hs => by
    simp only [doneH]
    rw [hs j (Nat.le_refl _) (by simp)]
    exact doneH_congr _ a (j + 1) fun i h1 h2 => hs i (by omega) (by simp; omega)

/-- What those make that come behind. -/
def madeT (S : Nat → Bool) : List Did → Nat → List SO
  | d :: ds, j => (if S j = true then d.r.new else d.r.new.map fun _ => .dead) ++ madeT S ds (j + 1)
  | [], _ => []

theorem madeT_length : ∀ (a : List Did) (j : Nat), (madeT S a j).length = (madeT S' a j).length
  | [], _ => rfl
  | d :: a, j => by
    simp only [madeT, List.length_append]
    rw [madeT_length a (j + 1)]
    congr 1
    split <;> split <;> simp

theorem doneH_calm : ∀ (h : List SO) (a : List Did) (j : Nat), (∀ (i : Nat) (d : Did), a[i]? = some d → S (j + i) = true → d.r.upd = []) → doneH S h a j = h ++ madeT S a j
  | h, [], j, _ => by simp [doneH, madeT]
  | h, d :: a, j, hs => by
    simp only [doneH, madeT]
    have h0 := hs 0 d rfl
    rw [doneH_calm _ a (j + 1) (fun i d' hd hS => hs (i + 1) d' (by simpa using hd) (by rw [show j + (i + 1) = j + 1 + i by omega]; exact hS))]
    split
    · rename_i hj
      have : d.r.heap h = h ++ d.r.new := by simp [R.heap, h0 (by simpa using hj), setAll, setR_eq]
      rw [this, List.append_assoc]
    · rw [List.append_assoc]

theorem doneH_length : ∀ (h : List SO) (a : List Did) (j : Nat), (doneH S h a j).length = h.length + (madeT S a j).length
  | h, [], j => by simp [doneH, madeT]
  | h, d :: a, j => by
    simp only [doneH, madeT]
    rw [doneH_length _ a (j + 1)]
    split <;> simp [heap_length] <;> omega

theorem setAll_same : ∀ {V M : List SO} (l : List (Nat × SO)) {b : Nat}, V.length = M.length → (∃ p ∈ l, p.1 = b) → (setAll V l)[b]? = (setAll M l)[b]?
  | V, M, [], b, _, hb => by obtain ⟨p, hp, _⟩ := hb; simp at hp
  | V, M, (i, o) :: r, b, hl, hb => by
    simp only [setAll, setR_eq]
    by_cases h : ∃ p ∈ r, p.1 = b
    · exact setAll_same r (by simp [hl]) h
    · have hn : ∀ p ∈ r, p.1 ≠ b := fun p hp e => h ⟨p, hp, e⟩
      obtain ⟨p, hp, e⟩ := hb
      have : i = b := by
        rcases List.mem_cons.1 hp with rfl | hp
        · exact e
        · exact absurd e (hn p hp)
      subst this
      rw [setAll_other _ _ hn, setAll_other _ _ hn, List.getElem?_set, List.getElem?_set, hl]
      simp

/-- The facts that 'HR.merge' asks for. -/
theorem done_facts {h0 hv : List SO} {pre post : List Did} {d : Did} (hS : S pre.length = false) (hS' : S' pre.length = true) (hoff : ∀ i, i ≠ pre.length → S' i = S i)
    (hlen : hv.length = (doneH S h0 pre 0).length)
    (hcase : (Part (fun _ => False) hv (doneH S h0 pre 0) ∧ ∀ (i : Nat) (d' : Did), post[i]? = some d' → S (pre.length + 1 + i) = true → d'.r.upd = []) ∨
      ((∀ (b : Nat) (o : SO), hv[b]? = some o → o.alive = false) ∧ d.r.upd = [] ∧ d.r.new = [])) :
    (∀ (i : Nat) (o : SO), hv[i]? = some o → o.alive = true → (doneH S h0 (pre ++ d :: post) 0)[i]? = some o) ∧
    (∀ (i : Nat) (o : SO), hv.length ≤ i → i < (d.r.heap hv).length → (doneH S h0 (pre ++ d :: post) 0)[i]? = some o → o.alive = false) ∧
    (doneH S' h0 (pre ++ d :: post) 0).length = (doneH S h0 (pre ++ d :: post) 0).length ∧
    (d.r.heap hv).length ≤ (doneH S h0 (pre ++ d :: post) 0).length ∧
    (∀ (i : Nat) (o : SO), (doneH S' h0 (pre ++ d :: post) 0)[i]? = some o → o.alive = true → (d.r.heap hv)[i]? = some o ∨ ((doneH S h0 (pre ++ d :: post) 0)[i]? = some o ∧ ∀ (o' : SO), hv[i]? = some o' → o'.alive = false)) := by
  have hpre : doneH S' h0 pre 0 = doneH S h0 pre 0 := doneH_congr h0 pre 0 fun i _ h2 => hoff i (by omega)
  have hlen2 : (doneH S' h0 (pre ++ d :: post) 0).length = (doneH S h0 (pre ++ d :: post) 0).length := by
    rw [doneH_length, doneH_length, madeT_length (S := S') (S' := S)]
  have hM : doneH S h0 (pre ++ d :: post) 0 = doneH S (doneH S h0 pre 0 ++ d.r.new.map fun _ => .dead) post (pre.length + 1) := by
    rw [doneH_append, doneH]; simp only [Nat.zero_add, hS]; rfl
  have hM' : doneH S' h0 (pre ++ d :: post) 0 = doneH S (d.r.heap (doneH S h0 pre 0)) post (pre.length + 1) := by
    rw [doneH_append, doneH]; simp only [Nat.zero_add, hS', if_true, hpre]
    exact doneH_congr _ _ _ fun i h1 _ => hoff i (by omega)
  have hle : (d.r.heap hv).length ≤ (doneH S h0 (pre ++ d :: post) 0).length := by
    rw [hM, doneH_length, heap_length, hlen]; simp
  rcases hcase with ⟨hp, hw⟩ | ⟨hd, hu, hn⟩
  · have hMc : doneH S h0 (pre ++ d :: post) 0 = (doneH S h0 pre 0 ++ d.r.new.map fun _ => .dead) ++ madeT S post (pre.length + 1) := by rw [hM, doneH_calm _ _ _ hw]
    have hMc' : doneH S' h0 (pre ++ d :: post) 0 = (setAll (doneH S h0 pre 0) d.r.upd ++ d.r.new) ++ madeT S post (pre.length + 1) := by rw [hM', doneH_calm _ _ _ hw]; rfl
    have hlow : ∀ {i : Nat}, i < hv.length → (doneH S h0 (pre ++ d :: post) 0)[i]? = (doneH S h0 pre 0)[i]? := by
      intro i hi
      rw [hMc, List.getElem?_append_left (by simp; omega), List.getElem?_append_left (by omega)]
    refine ⟨?_, ?_, hlen2, hle, ?_⟩
    · intro i o hi ha
      rw [hlow (List.getElem?_eq_some_iff.1 hi).1]
      exact hp.2 i o hi ha (fun h => h)
    · intro i o h1 h2 hi
      rw [heap_length] at h2
      rw [hMc, List.getElem?_append_left (by simp; omega), List.getElem?_append_right (by omega)] at hi
      exact dead_get hi
    · intro i o hi ha
      rw [hMc'] at hi
      by_cases h1 : i < hv.length
      · rw [List.getElem?_append_left (by simp [setAll_length]; omega), List.getElem?_append_left (by rw [setAll_length]; omega)] at hi
        by_cases hb : ∃ p ∈ d.r.upd, p.1 = i
        · left
          rw [R.heap, List.getElem?_append_left (by rw [setAll_length]; exact h1), setAll_same d.r.upd hlen hb]; exact hi
        · have hb' : ∀ p ∈ d.r.upd, p.1 ≠ i := fun p hp e => hb ⟨p, hp, e⟩
          rw [setAll_other _ _ hb'] at hi
          by_cases hx : ∃ o', hv[i]? = some o' ∧ o'.alive = true
          · left
            obtain ⟨o', h3, h4⟩ := hx
            have := hp.2 i o' h3 h4 (fun h => h)
            rw [hi] at this; cases this
            rw [R.heap, List.getElem?_append_left (by rw [setAll_length]; exact h1), setAll_other _ _ hb']; exact h3
          · right
            refine ⟨by rw [hlow h1]; exact hi, fun o' h3 => ?_⟩
            cases h4 : o'.alive
            · rfl
            · exact absurd ⟨o', h3, h4⟩ hx
      · by_cases h2 : i < hv.length + d.r.new.length
        · left
          rw [List.getElem?_append_left (by simp [setAll_length]; omega), List.getElem?_append_right (by rw [setAll_length]; omega), setAll_length] at hi
          rw [R.heap, List.getElem?_append_right (by rw [setAll_length]; omega), setAll_length, hlen]; exact hi
        · right
          refine ⟨?_, fun o' h3 => ?_⟩
          · rw [hMc]
            rw [List.getElem?_append_right (by simp [setAll_length]; omega)] at hi ⊢
            simpa [setAll_length] using hi
          · have := (List.getElem?_eq_some_iff.1 h3).1; omega
  · have heq : doneH S' h0 (pre ++ d :: post) 0 = doneH S h0 (pre ++ d :: post) 0 := by
      rw [hM, hM']; simp [R.heap, hu, hn, setAll, setR_eq]
    refine ⟨fun i o hi ha => ?_, fun i o h1 h2 => ?_, hlen2, hle, fun i o hi ha => .inr ⟨heq ▸ hi, fun o' => hd i o'⟩⟩
    · rw [hd i o hi] at ha; cases ha
    · rw [heap_length, hn] at h2; simp at h2; omega

end Go.Sx

/- The orders that a region may draw. -/
namespace Go.Sx
open Go.RowKit

/-- What comes ahead by the edges stands ahead in the text. -/
def Plain (ops : Array Oper) : Prop := ∀ (i : Nat) (o : Oper), ops[i]? = some o → ∀ e ∈ o.after.toList, Region.binds .any e = true → e.on < i

structure Lin (ops : Array Oper) (L : List Nat) : Prop where
  nodup : L.Nodup
  mem : ∀ i, i ∈ L ↔ i < ops.size
  first : ∀ (l1 : List Nat) (i : Nat) (l2 : List Nat), L = l1 ++ i :: l2 → ∀ o, ops[i]? = some o → ∀ e ∈ o.after.toList, Region.binds .any e = true → e.on ∈ l1

def Unl (N : Nat) (l : Array Bool) : Nat := ((List.range N).filter fun i => !l.getD i true).length

theorem getD_set {l : Array Bool} {i j : Nat} (hi : i < l.size) : (l.setIfInBounds i true).getD j true = if j = i then true else l.getD j true := by
  simp only [Array.getD_eq_getD_getElem?, Array.getElem?_setIfInBounds]
  by_cases h : i = j
  · subst h; simp [hi]
  · rw [if_neg h, if_neg (fun e => h e.symm)]

theorem unl_set {N : Nat} {l : Array Bool} {i : Nat} (hN : i < N) (hi : i < l.size) (h : l.getD i true = false) : Unl N (l.setIfInBounds i true) < Unl N l := by
  unfold Unl
  have : (List.range N).filter (fun j => !(l.setIfInBounds i true).getD j true) = ((List.range N).filter fun j => !l.getD j true).filter fun j => j != i := by
    rw [List.filter_filter]
    refine List.filter_congr fun j _ => ?_
    rw [getD_set hi]
    by_cases e : j = i <;> simp [e]
  rw [this]
  refine List.length_filter_lt_length_iff_exists.2 ⟨i, ?_, by simp⟩
  simp only [List.mem_filter, List.mem_range]
  exact ⟨hN, by rw [h]; rfl⟩

theorem lin_go {ops : Array Oper} (hp : Plain ops) : ∀ (fuel t : Nat) (listed : Array Bool) (acc : List Nat), listed.size = ops.size → (∀ i, i < ops.size → (listed.getD i true = true ↔ i ∈ acc)) → (∀ i ∈ acc, i < ops.size) → acc.Nodup →
    (∀ (a : List Nat) (i : Nat) (b : List Nat), acc = a ++ i :: b → ∀ o, ops[i]? = some o → ∀ e ∈ o.after.toList, Region.binds .any e = true → e.on ∈ b) → Unl ops.size listed ≤ fuel →
    Lin ops (Region.linearise.go .any ops fuel t listed acc) := by
  have done : ∀ (listed : Array Bool) (acc : List Nat), (∀ i, i < ops.size → (listed.getD i true = true ↔ i ∈ acc)) → (∀ i ∈ acc, i < ops.size) → acc.Nodup →
      (∀ (a : List Nat) (i : Nat) (b : List Nat), acc = a ++ i :: b → ∀ o, ops[i]? = some o → ∀ e ∈ o.after.toList, Region.binds .any e = true → e.on ∈ b) → (∀ i, i < ops.size → listed.getD i true = true) → Lin ops acc.reverse := by
    intro listed acc h1 h2 h3 h4 h5
    refine ⟨List.pairwise_reverse.2 (h3.imp fun h => Ne.symm h), fun i => ?_, fun l1 i l2 hL o ho e he hb => ?_⟩
    · rw [List.mem_reverse]; exact ⟨h2 i, fun hi => (h1 i hi).1 (h5 i hi)⟩
    · have : acc = l2.reverse ++ i :: l1.reverse := by rw [← List.reverse_reverse acc, hL]; simp
      exact List.mem_reverse.1 (h4 _ i _ this o ho e he hb)
  intro fuel
  induction fuel with
  | zero =>
    intro t listed acc h0 h1 h2 h3 h4 h5
    refine done listed acc h1 h2 h3 h4 fun i hi => ?_
    have hz : Unl ops.size listed = 0 := Nat.le_zero.1 h5
    unfold Unl at hz
    have := List.filter_eq_nil_iff.1 (List.length_eq_zero_iff.1 hz) i (List.mem_range.2 hi)
    simpa using this
  | succ fuel ih =>
    intro t listed acc h0 h1 h2 h3 h4 h5
    simp only [Region.linearise.go]
    split
    · rename_i i hi
      have hm := List.mem_of_getElem? hi
      simp only [List.mem_filter, List.mem_range, Bool.and_eq_true, Bool.not_eq_true'] at hm
      obtain ⟨hlt, hun, hpre⟩ := hm
      have hni : i ∉ acc := fun hc => by have := (h1 i hlt).2 hc; rw [this] at hun; cases hun
      refine ih _ _ _ (by simp [h0]) ?_ ?_ ?_ ?_ ?_
      · intro j hj
        rw [getD_set (by omega)]
        by_cases e : j = i
        · simp [e]
        · rw [if_neg e, h1 j hj]; simp [e]
      · intro j hj
        rcases List.mem_cons.1 hj with rfl | hj
        · exact hlt
        · exact h2 j hj
      · exact List.nodup_cons.2 ⟨hni, h3⟩
      · intro a j b hab o ho e he hb
        cases a with
        | nil =>
          simp only [List.nil_append, List.cons.injEq] at hab
          obtain ⟨rfl, rfl⟩ := hab
          rw [ho] at hpre
          simp only [Option.map_some, Option.getD_some] at hpre
          have := Array.all_eq_true'.1 hpre e (Array.mem_toList_iff.1 he)
          rw [hb] at this
          simp only [Bool.not_true, Bool.false_or] at this
          have hlt' := hp i o ho e he hb
          refine (h1 e.on (by omega)).1 ?_
          rw [Array.getD_eq_getD_getElem?] at this ⊢
          have hs : e.on < listed.size := by omega
          rw [Array.getElem?_eq_getElem hs] at this ⊢
          exact this
        | cons x a =>
          simp only [List.cons_append, List.cons.injEq] at hab
          exact h4 a j b hab.2 o ho e he hb
      · have := unl_set (N := ops.size) hlt (by omega) hun
        omega
    · rename_i hnone
      refine done listed acc h1 h2 h3 h4 fun i hi => ?_
      -- the least that is not listed could be drawn
      have hnil : ((List.range ops.size).filter fun i => !listed.getD i true && ((ops[i]?).map (fun o => o.after.all fun e => !Region.binds .any e || listed.getD e.on false)).getD false) = [] := by
        cases hr : ((List.range ops.size).filter fun i => !listed.getD i true && ((ops[i]?).map (fun o => o.after.all fun e => !Region.binds .any e || listed.getD e.on false)).getD false) with
        | nil => rfl
        | cons x xs =>
          rw [hr] at hnone
          have := List.getElem?_eq_none_iff.1 hnone
          have := Nat.mod_lt t (show 0 < (x :: xs).length by simp)
          omega
      induction i using Nat.strongRecOn with
      | ind i ihi =>
        have := List.filter_eq_nil_iff.1 hnil i (List.mem_range.2 hi)
        cases hl : listed.getD i true with
        | true => rfl
        | false =>
          exfalso; apply this
          have ho : ops[i]? = some ops[i] := Array.getElem?_eq_getElem hi
          rw [hl, ho]
          simp only [Bool.not_false, Bool.true_and, Option.map_some, Option.getD_some]
          refine Array.all_eq_true'.2 fun e he => ?_
          cases hb : Region.binds .any e with
          | false => rfl
          | true =>
            have hlt := hp i _ ho e (Array.mem_toList_iff.2 he) hb
            have := ihi e.on hlt (by omega)
            rw [Array.getD_eq_getD_getElem?] at this ⊢
            have hs : e.on < listed.size := by omega
            rw [Array.getElem?_eq_getElem hs] at this ⊢
            simpa using this

theorem lin_schedule {ops : Array Oper} (hp : Plain ops) (t : Nat) : Lin ops (Region.schedule true ops t) := by
  have : Region.schedule true ops t = Region.linearise .any ops t := by simp [Region.schedule]
  rw [this]
  refine lin_go hp _ _ _ _ (by simp) ?_ (by simp) List.nodup_nil (fun a i b h => by simp at h) ?_
  · intro i hi
    simp [Array.getD_eq_getD_getElem?, hi]
  · unfold Unl
    refine Nat.le_trans (List.length_filter_le _ _) (by simp)

end Go.Sx

/- Trees without loops: for given variables, one outcome. -/
namespace Go.Sx
open Go.RowKit

def T.Free {α : Type} : T α → Prop
  | .leaf _ => True
  | .ite _ t e => t.Free ∧ e.Free
  | .need _ _ k => k.Free
  | .loop _ _ _ _ => False
  | .again _ _ => False
  | .fail _ => True

theorem T.Free.ev {α : Type} {Φ : Spec} {O : Owe} : ∀ {t : T α} {ρ : Nat → Int} {Q : (Nat → Int) → α → Prop}, t.Free → t.Ev Φ O ρ Q → ∃ a, Q ρ a ∧ t.Ev Φ O ρ fun ρ' b => ρ' = ρ ∧ b = a
  | .leaf a, ρ, Q, _, h => ⟨a, h, rfl, rfl⟩
  | .ite c t e, ρ, Q, hf, h => by
    by_cases hc : c.den Φ ρ = 0
    · obtain ⟨a, h1, h2⟩ := T.Free.ev hf.2 (h.2 hc)
      exact ⟨a, h1, fun hn => absurd hc hn, fun _ => h2⟩
    · obtain ⟨a, h1, h2⟩ := T.Free.ev hf.1 (h.1 hc)
      exact ⟨a, h1, fun _ => h2, fun hz => absurd hz hc⟩
  | .need s args k, ρ, Q, hf, h => by
    obtain ⟨a, h1, h2⟩ := T.Free.ev (t := k) hf h.2
    exact ⟨a, h1, h.1, h2⟩
  | .loop _ _ _ _, _, _, hf, _ => hf.elim
  | .again _ _, _, _, hf, _ => hf.elim
  | .fail _, _, _, _, h => h.elim

theorem T.Free.bind {α β : Type} : ∀ {t : T α} {f : α → T β}, t.Free → (∀ a, (f a).Free) → (t.bind f).Free
  | .leaf a, f, _, h => h a
  | .ite c t e, f, hf, h => ⟨T.Free.bind hf.1 h, T.Free.bind hf.2 h⟩
  | .need s args k, f, hf, h => T.Free.bind (t := k) hf h
  | .loop _ _ _ _, _, hf, _ => hf.elim
  | .again _ _, _, hf, _ => hf.elim
  | .fail _, _, _, _ => trivial

theorem free_branch {α : Type} {c : E} {t e : T α} (h1 : t.Free) (h2 : e.Free) : (branch c t e).Free := by
  unfold branch
  split
  · split <;> assumption
  · exact ⟨h1, h2⟩

theorem free_lift {α : Type} (o : Option α) (s : String) : (lift o s).Free := by cases o <;> trivial

theorem free_look {q : IntKind} {a : E} : ∀ l : List (SV × SV), (look q a l).Free
  | [] => trivial
  | (k, v) :: r => by
    cases k <;> first | exact trivial | skip
    simp only [look]
    split
    · exact free_branch trivial (free_look r)
    · trivial

theorem free_place {q : IntKind} {a : E} : ∀ (l : List (SV × SV)) (i : Nat), (place q a l i).Free
  | [], i => trivial
  | (k, v) :: r, i => by
    cases k <;> first | exact trivial | skip
    simp only [place]
    split
    · exact free_branch trivial (free_place r _)
    · trivial

theorem free_minmax {mx : Bool} : ∀ (v : SV) (l : List SV), (minmax mx v l).Free
  | v, [] => trivial
  | v, x :: r => by
    cases v <;> cases x <;> first | exact trivial | skip
    simp only [minmax]
    split
    · exact free_minmax _ r
    · trivial

theorem free_byCon {C : Ctx} {c : Con} {args : List SV} : (byCon C c args).Free := by
  unfold byCon
  split
  · trivial
  · simp only
    split <;> (try simp only [T.Free]) <;> split <;> trivial


theorem free_sop (C : Ctx) (ro : Nat) (st : St) (o : Oper) : (sop C ro st o).Free := by
  unfold sop binS unS convS indexAddrS sliceS loadSel builtinS appendS lenR looked inserted
  simp only
  repeat' (first
    | exact True.intro
    | apply free_lift
    | apply free_look
    | apply free_place
    | apply free_minmax
    | apply T.Free.bind
    | apply free_branch
    | intro _
    | split)

end Go.Sx

namespace Go.Sx
open Go.RowKit

theorem free_branchAt {α : Type} {c : E} {t : Tmp} {l : List (Option SV)} {yes no : List (Option SV) → T α} (h1 : ∀ l, (yes l).Free) (h2 : ∀ l, (no l).Free) : (branchAt c t l yes no).Free := by
  unfold branchAt
  split
  · split
    · exact h2 _
    · exact h1 _
  · exact ⟨h1 _, h2 _⟩

theorem free_wanted {α : Type} {ops : List Oper} {l : List (Option SV)} {o : Oper} {yes no : List (Option SV) → T α} (h1 : ∀ l, (yes l).Free) (h2 : ∀ l, (no l).Free) : (wanted ops l o yes no).Free := by
  unfold wanted
  split
  · exact h1 _
  · split
    · split
      · split
        · exact free_branchAt h1 h2
        · exact free_branchAt h2 h1
      · exact h2 _
      · exact True.intro
    · exact True.intro

theorem free_settle {α : Type} {ops : List Oper} {j : Nat} {r : R} {k : R → T α} (h : ∀ r, (k r).Free) : (settle ops j r k).Free := by
  unfold settle
  split
  · split
    · exact free_branch (h _) (h _)
    · exact True.intro
  · exact h _

structure FreeAt (C : Ctx) (f : Nat) : Prop where
  exec : ∀ (ro cur : Nat) (rd : Option Nat) (c : Code) (st : St), (exec C f ro cur rd c st).Free
  ops : ∀ (ro : Nat) (rd : Option Nat) (ops os : List Oper) (st : St), (execOps C f ro rd ops os st).Free
  draw : ∀ (ro : Nat) (ops : List Oper) (ms : List Nat) (st : St) (ds : List Did) (os : List Oper), (execDraw C f ro ops ms st ds os).Free
  callV : ∀ (ro : Nat) (v : SV) (args : List SV) (h : List SO) (nv : Nat), (callV C f ro v args h nv).Free
  call : ∀ (ro g : Nat) (args : List SV) (h : List SO) (nv : Nat), (call C f ro g args h nv).Free

theorem freeAt' : ∀ (f : Nat) (C : Ctx), C.loops = [] → FreeAt C f := by
  intro f
  induction f with
  | zero =>
    intro C hC
    exact ⟨fun _ _ _ _ _ => by simp only [Sx.exec, T.Free], fun _ _ _ _ _ => by simp only [Sx.execOps, T.Free], fun _ _ _ _ _ _ => by simp only [Sx.execDraw, T.Free],
      fun _ _ _ _ _ => by simp only [Sx.callV, T.Free], fun _ _ _ _ _ => by simp only [Sx.call, T.Free]⟩
  | succ f ih0 =>
    intro C hC
    have hCC : { C with loops := [] } = C := by cases C; simp_all
    have ih := ih0 C hC
    have ihb := (ih0 { C with bag := true } hC).draw
    simp only [hC] at ihb
    refine ⟨?_, ?_, ?_, ?_, ?_⟩
    · intro ro cur rd c st
      unfold Sx.exec
      simp only [hC, List.find?_nil]
      repeat' (first
        | exact True.intro
        | apply ih.exec
        | apply ih.ops
        | apply ih.draw
        | apply ihb
        | apply ih.call
        | apply T.Free.bind
        | apply free_branch
        | apply free_branchAt
        | intro _
        | split)
    · intro ro rd ops os st
      cases os <;> simp only [Sx.execOps]
      repeat' (first
        | exact True.intro
        | apply ih.callV
        | apply ih.ops
        | apply free_sop
        | apply free_wanted
        | apply T.Free.bind
        | intro _
        | split)
    · intro ro ops ms st ds os
      cases os <;> simp only [Sx.execDraw, hCC]
      repeat' (first
        | exact True.intro
        | apply ih.callV
        | apply ih.draw
        | apply free_sop
        | apply free_settle
        | apply T.Free.bind
        | intro _
        | split)
    · intro ro v args h nv
      unfold Sx.callV
      simp only
      repeat' (first
        | exact True.intro
        | apply ih.exec
        | apply ih.call
        | apply T.Free.bind
        | intro _
        | split)
    · intro ro g args h nv
      simp only [Sx.call]
      repeat' (first
        | exact True.intro
        | apply ih.exec
        | apply free_byCon
        | apply T.Free.bind
        | intro _
        | split)

theorem freeAt {C : Ctx} (hC : C.loops = []) : ∀ f, FreeAt C f := fun f => freeAt' f C hC

end Go.Sx
