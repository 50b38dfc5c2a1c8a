/-
  Each operation of the symbolic run is sound; no condition.
-/
import Derived.Test.YtkmieoelgamdpaaGreatDoorSxA
import Derived.Laws.StructEq
import Derived.Laws.Build
set_option linter.deprecated false
set_option linter.unusedVariables false
set_option linter.unusedSimpArgs false

namespace Go.Sx
open Go.RowKit

def leafEq : K → Int → Int → Bool
  | .bool, x, y => (x != 0) == (y != 0)
  | .int _, x, y => x == y

def eqV : List K → List Int → List Int → Bool
  | k :: ks, x :: xs, y :: ys => leafEq k x y && eqV ks xs ys
  | _, _, _ => true

def cellsV (ks : List K) (vx : List Int) : List Value := (ks.zip vx).map fun p => leafV p.1 p.2

def wholeV (agg : Bool) (cs : List Value) : Value := if agg then .agg cs.toArray else cs.headD undef

theorem cellsV_length {ks : List K} {vx : List Int} (h : vx.length = ks.length) : (cellsV ks vx).length = ks.length := by simp [cellsV, h]

theorem eqV_append {a b : List K} : ∀ {x1 x2 y1 y2 : List Int}, x1.length = a.length → y1.length = a.length → eqV (a ++ b) (x1 ++ x2) (y1 ++ y2) = (eqV a x1 y1 && eqV b x2 y2) := by
  induction a with
  | nil => intro x1 x2 y1 y2 hx hy; simp at hx hy; subst hx hy; simp [eqV]
  | cons k a ih =>
    intro x1 x2 y1 y2 hx hy
    cases x1 with
    | nil => simp at hx
    | cons x x1 => cases y1 with
      | nil => simp at hy
      | cons y y1 =>
        simp only [List.cons_append, eqV]
        rw [ih (by simpa using hx) (by simpa using hy), Bool.and_assoc]

theorem cellsV_append {a b : List K} {x1 x2 : List Int} (hx : x1.length = a.length) : cellsV (a ++ b) (x1 ++ x2) = cellsV a x1 ++ cellsV b x2 := by
  simp [cellsV, List.zip_append hx.symm]

section
variable {P : Program} (w : World)

/-- A field's part of a row of leaves. -/
theorem run_part {t : TypeId} {pre b post : List Value} {ag : Bool} (hag : isAgg? P t = some ag) (hsz : sizeOf? P t = some b.length) (h1 : ag = false → b.length = 1) :
    (part t (pre ++ b ++ post).toArray pre.length).run P w = .ok (wholeV ag b) w := by
  cases ag with
  | true =>
    simp only [part, Sem.run_bind, run_isAgg' w hag, Result.andThen_ok, if_true, run_sizeOf' w hsz, Sem.run_pure, wholeV]
    congr 2
    simp [List.extract_eq_take_drop]
  | false =>
    have hb := h1 rfl
    obtain ⟨x, rfl⟩ := List.length_eq_one_iff.1 hb
    simp [part, Sem.run_bind, run_isAgg' w hag, wholeV]

theorem plainTy_agg {n : Nat} {t : TypeId} {ks : List K} (h : plainTy P n t = some ks) : ∃ ag, isAgg? P t = some ag ∧ (ag = false → ks.length = 1) := by
  cases n with
  | zero => simp [plainTy] at h
  | succ n =>
    simp only [plainTy] at h
    split at h
    · rename_i k hu; cases h; exact ⟨false, by simp [isAgg?, hu], fun _ => rfl⟩
    · rename_i hu; cases h; exact ⟨false, by simp [isAgg?, hu], fun _ => rfl⟩
    · rename_i fs hu; exact ⟨true, by simp [isAgg?, hu], fun h => by cases h⟩
    · cases h

/-- What the fields' kinds are put together by. -/
def plainStep (P : Program) (n : Nat) (acc : Option (List K)) (f : Field) : Option (List K) :=
  match acc, plainTy P n f.type with
  | some a, some b => if f.name ≠ "_" ∧ f.offset = a.length ∧ sizeOf? P f.type = some b.length then some (a ++ b) else none
  | _, _ => none

theorem plainStep_none {n : Nat} : ∀ fs : List Field, fs.foldl (plainStep P n) none = none
  | [] => rfl
  | f :: fs => by simp only [List.foldl_cons]; exact plainStep_none fs

theorem run_equalIn_plain : ∀ (n : Nat) (t : TypeId) (ks : List K), plainTy P n t = some ks → ∀ (d : Nat), n ≤ d → ∀ (vx vy : List Int), vx.length = ks.length → vy.length = ks.length → ∀ ag, isAgg? P t = some ag →
    (Op.equalIn d t (wholeV ag (cellsV ks vx)) (wholeV ag (cellsV ks vy))).run P w = .ok (eqV ks vx vy) w := by
  intro n
  induction n with
  | zero => intro t ks h; simp [plainTy] at h
  | succ n ih =>
    intro t ks h d hd vx vy hx hy ag hag
    obtain ⟨d, rfl⟩ : ∃ e, d = e + 1 := ⟨d - 1, by omega⟩
    simp only [plainTy] at h
    split at h
    · rename_i k hu; cases h
      obtain ⟨x, rfl⟩ := List.length_eq_one_iff.1 hx
      obtain ⟨y, rfl⟩ := List.length_eq_one_iff.1 hy
      simp only [isAgg?, hu, Option.some.injEq] at hag; subst hag
      simp [wholeV, cellsV, leafV, Op.equalIn, run_underlying hu, eqV, leafEq]
    · rename_i hu; cases h
      obtain ⟨x, rfl⟩ := List.length_eq_one_iff.1 hx
      obtain ⟨y, rfl⟩ := List.length_eq_one_iff.1 hy
      simp only [isAgg?, hu, Option.some.injEq] at hag; subst hag
      simp [wholeV, cellsV, leafV, Op.equalIn, run_underlying hu, eqV, leafEq]
    · rename_i fs hu
      simp only [isAgg?, hu, Option.some.injEq] at hag; subst hag
      split at h
      · cases h
      · rename_i hst
        have hf : P.fieldsOf t = fs := by simp [Program.fieldsOf, hu]
        simp only [wholeV, if_true]
        rw [run_equalIn_struct w d t _ _ (by rw [hf]; exact hu) (by simpa using hst), hf]
        have key : ∀ (l : List Field) (a : List K), l.foldl (plainStep P n) (some a) = some ks →
            (Op.eqFields d (cellsV ks vx).toArray (cellsV ks vy).toArray l).run P w = .ok (eqV (ks.drop a.length) (vx.drop a.length) (vy.drop a.length)) w ∧ ∃ r, ks = a ++ r := by
          intro l
          induction l with
          | nil =>
            intro a h; simp only [List.foldl_nil, Option.some.injEq] at h; subst h
            exact ⟨by simp [Op.eqFields, eqV], [], by simp⟩
          | cons f l ihl =>
            intro a h
            simp only [List.foldl_cons] at h
            cases hp : plainTy P n f.type with
            | none => simp only [plainStep, hp] at h; rw [plainStep_none] at h; cases h
            | some b =>
              simp only [plainStep, hp] at h
              split at h
              · rename_i hc
                obtain ⟨hname, hoff, hsz⟩ := hc
                obtain ⟨h1, r, hr⟩ := ihl (a ++ b) h
                refine ⟨?_, b ++ r, by rw [hr, List.append_assoc]⟩
                obtain ⟨agf, hagf, hone⟩ := plainTy_agg hp
                -- the values in three parts
                have cut : ∀ v : List Int, v.length = ks.length → ∃ v1 v2 v3, v = v1 ++ v2 ++ v3 ∧ v1.length = a.length ∧ v2.length = b.length := by
                  intro v hv
                  have hl : ks.length = a.length + b.length + r.length := by rw [hr]; simp [Nat.add_assoc]
                  refine ⟨v.take a.length, (v.drop a.length).take b.length, (v.drop a.length).drop b.length, ?_, by simp; omega, by simp; omega⟩
                  rw [List.append_assoc, List.take_append_drop b.length (v.drop a.length), List.take_append_drop a.length v]
                obtain ⟨x1, x2, x3, rfl, hx1, hx2⟩ := cut vx hx
                obtain ⟨y1, y2, y3, rfl, hy1, hy2⟩ := cut vy hy
                have hcx : cellsV ks (x1 ++ x2 ++ x3) = cellsV a x1 ++ cellsV b x2 ++ cellsV r x3 := by
                  rw [hr, cellsV_append (by simp [hx1, hx2]), cellsV_append hx1]
                have hcy : cellsV ks (y1 ++ y2 ++ y3) = cellsV a y1 ++ cellsV b y2 ++ cellsV r y3 := by
                  rw [hr, cellsV_append (by simp [hy1, hy2]), cellsV_append hy1]
                have hb1 : (cellsV b x2).length = b.length := cellsV_length hx2
                have hb2 : (cellsV b y2).length = b.length := cellsV_length hy2
                simp only [Op.eqFields, hname, ne_eq, not_false_eq_true, if_true, Sem.run_bind]
                have e1 := run_part w (t := f.type) (pre := cellsV a x1) (b := cellsV b x2) (post := cellsV r x3) hagf (by rw [hb1]; exact hsz) (by rw [hb1]; exact hone)
                have e2 := run_part w (t := f.type) (pre := cellsV a y1) (b := cellsV b y2) (post := cellsV r y3) hagf (by rw [hb2]; exact hsz) (by rw [hb2]; exact hone)
                rw [cellsV_length hx1, ← hoff, ← hcx] at e1
                rw [cellsV_length hy1, ← hoff, ← hcy] at e2
                rw [e1]; simp only [Result.andThen_ok]
                rw [e2]; simp only [Result.andThen_ok]
                rw [ih f.type b hp d (by omega) x2 y2 hx2 hy2 agf hagf]
                simp only [Result.andThen_ok]
                have hd1 : List.drop a.length (x1 ++ x2 ++ x3) = x2 ++ x3 := by rw [List.append_assoc, List.drop_append_of_le_length (by omega), List.drop_eq_nil_of_le (by omega)]; rfl
                have hd2 : List.drop a.length (y1 ++ y2 ++ y3) = y2 ++ y3 := by rw [List.append_assoc, List.drop_append_of_le_length (by omega), List.drop_eq_nil_of_le (by omega)]; rfl
                have hd3 : List.drop a.length ks = b ++ r := by rw [hr, List.append_assoc, List.drop_append_of_le_length (by omega), List.drop_eq_nil_of_le (by omega)]; rfl
                have hd4 : List.drop (a ++ b).length ks = r := by rw [hr]; simp
                have hd5 : List.drop (a ++ b).length (x1 ++ x2 ++ x3) = x3 := by rw [show (a ++ b).length = (x1 ++ x2).length by simp [hx1, hx2]]; simp
                have hd6 : List.drop (a ++ b).length (y1 ++ y2 ++ y3) = y3 := by rw [show (a ++ b).length = (y1 ++ y2).length by simp [hy1, hy2]]; simp
                rw [hd4, hd5, hd6] at h1
                rw [hd1, hd2, hd3, eqV_append hx2 hy2]
                cases hq : eqV b x2 y2 with
                | false => simp
                | true => simpa using h1
              · rw [plainStep_none] at h; cases h
        have := (key fs.toList [] h).1
        simpa using this
    · cases h
end

theorem kinds_fst : ∀ {ks : List K} {cs : List SV} {l : List (K × E)}, kinds ks cs = some l → l.map Prod.fst = ks := by
  intro ks
  induction ks with
  | nil =>
    intro cs l h
    cases cs with
    | nil => simp only [kinds, Option.some.injEq] at h; subst h; rfl
    | cons c r => simp [kinds] at h
  | cons k ks ih =>
    intro cs l h
    cases cs with
    | nil => cases k <;> simp [kinds] at h
    | cons c r =>
      cases k with
      | bool =>
        cases c <;> simp only [kinds] at h <;> first | (cases h; done) | skip
        simp only [Option.map_eq_some_iff] at h
        obtain ⟨l', h1, rfl⟩ := h
        simp [ih h1]
      | int k =>
        cases c <;> simp only [kinds] at h <;> first | (cases h; done) | skip
        split at h
        · rename_i e; subst e
          simp only [Option.map_eq_some_iff] at h
          obtain ⟨l', h1, rfl⟩ := h
          simp [ih h1]
        · cases h

theorem eqL_den (Φ : Spec) (ρ : Nat → Int) : ∀ (a b : List (K × E)), a.map Prod.fst = b.map Prod.fst → ((eqL a b).den Φ ρ != 0) = eqV (a.map Prod.fst) (E.denL Φ ρ a) (E.denL Φ ρ b)
  | [], [], _ => rfl
  | [], _ :: _, h => by simp at h
  | _ :: _, [], h => by simp at h
  | (k, x) :: a, (k', y) :: b, h => by
    simp only [List.map_cons, List.cons.injEq] at h
    obtain ⟨hk, h⟩ := h
    subst hk
    simp only [eqL, List.map_cons, E.denL, eqV]
    rw [mkAnd_den, mkCmp_bool, eqL_den Φ ρ a b h]
    congr 1
    cases k with
    | int k => rfl
    | bool =>
      simp only [leafEq, bcmp, K.norm]
      split <;> split <;> rfl

theorem eqL_under {m : Nat} : ∀ (a b : List (K × E)), E.underL m a = true → E.underL m b = true → (eqL a b).under m = true
  | [], [], _, _ => rfl
  | [], _ :: _, _, _ => rfl
  | _ :: _, [], _, _ => rfl
  | (k, x) :: a, (k', y) :: b, ha, hb => by
    simp only [E.underL, Bool.and_eq_true] at ha hb
    exact mkAnd_under (mkCmp_under ha.1 hb.1) (eqL_under a b ha.2 hb.2)

theorem eq_norm (x y : Int) : ((x != 0) == (y != 0)) = bcmp .eql (K.bool.norm x) (K.bool.norm y) := by
  by_cases hx : x = 0 <;> by_cases hy : y = 0
  · simp [bcmp, K.norm, hx, hy]
  · simp [bcmp, K.norm, hx, hy]
  · simp [bcmp, K.norm, hx, hy]
  · have h1 : (x != 0) = true := by simpa using hx
    have h2 : (y != 0) = true := by simpa using hy
    rw [h1, h2]; simp [bcmp, K.norm, hx, hy]

theorem eqGuard_agg {P : Program} (w : World) {t : TypeId} (hg : P.eqGuardType P.depth t = false) (op : BinOp) (ox oy : Operand) (X Y : Array Value) : (eqGuard op t ox oy (.agg X) (.agg Y)).run P w = .ok () w := by
  cases op <;> simp [eqGuard, hg]

theorem run_equal_bool {P : Program} (w : World) {t : TypeId} (hu : P.underlying t = some .bool) (x y : Bool) : (Op.equal t (.bool x) (.bool y)).run P w = .ok (x == y) w := by
  have h : ∀ d, (Op.equalIn (d + 1) t (.bool x) (.bool y)).run P w = .ok (x == y) w := fun d => by
    simp only [Op.equalIn, Sem.run_bind, run_underlying hu, Result.andThen_ok, Sem.run_pure]
  exact h 9999

theorem binOp_eql_bool {P : Program} (w : World) {t : TypeId} (hu : P.underlying t = some .bool) (x y : Bool) :
    (binOp .eql t (.bool x) (.bool y)).run P w = .ok (.bool (x == y)) w ∧ (binOp .neq t (.bool x) (.bool y)).run P w = .ok (.bool (!(x == y))) w := by
  constructor
  · refine (Sem.run_bind' P _ _ w).trans ?_
    rw [run_equal_bool w hu]; rfl
  · refine (Sem.run_bind' P _ _ w).trans ?_
    rw [run_equal_bool w hu]; rfl

/-- '==' as the model tells it. -/
theorem run_eql {P : Program} (w : World) {n : En} {N m : Nat} {t : TypeId} {x y : SV} {e : E} (h : eqE P t x y = some e) (hx : x.Ok N m) (hy : y.Ok N m) :
    e.under m = true ∧ ∀ (ox oy : Operand), (eqGuard .eql t ox oy (x.re n) (y.re n)).run P w = .ok () w ∧ (eqGuard .neq t ox oy (x.re n) (y.re n)).run P w = .ok () w ∧
      (binOp .eql t (x.re n) (y.re n)).run P w = .ok (.bool (e.den n.Φ n.ρ != 0)) w ∧ (binOp .neq t (x.re n) (y.re n)).run P w = .ok (.bool (!(e.den n.Φ n.ρ != 0))) w := by
  unfold eqE at h
  split at h
  · rename_i k a k' b
    split at h
    · rename_i hk; subst hk; cases h
      refine ⟨mkCmp_under hx hy, fun ox oy => ⟨?_, ?_, ?_, ?_⟩⟩
      · exact eqGuard_int w
      · exact eqGuard_int w
      · simp only [SV.re]; rw [int_cmp_ops w (.inl rfl), mkCmp_bool]; rfl
      · simp only [SV.re]; rw [int_cmp_ops w (.inr (.inl rfl)), mkCmp_bool]; simp [bcmp, K.norm]; rfl
    · cases h
  · rename_i a b
    split at h
    · rename_i hu
      cases h
      have hu' : P.underlying t = some .bool := by
        revert hu; cases P.underlying t with
        | none => simp
        | some d => cases d <;> simp
      refine ⟨mkCmp_under hx hy, fun ox oy => ⟨?_, ?_, ?_, ?_⟩⟩
      · simp [eqGuard, SV.re]
      · simp [eqGuard, SV.re]
      · simp only [SV.re]; rw [(binOp_eql_bool w hu' _ _).1, mkCmp_bool, ← eq_norm]
      · simp only [SV.re]; rw [(binOp_eql_bool w hu' _ _).2, mkCmp_bool, ← eq_norm]
    · cases h
  · rename_i xs ys
    split at h
    · cases h
    · rename_i hg
      split at h
      · rename_i ks hks
        split at h
        · rename_i a b ha hb; cases h
          obtain ⟨hxa, hxl⟩ := kinds_re (n := n) ha
          obtain ⟨hya, hyl⟩ := kinds_re (n := n) hb
          have hst : isAgg? P t = some true := Classical.byContradiction fun e => hg (.inr e)
          have hgd : ∀ op ox oy, (eqGuard op t ox oy (SV.re n (.agg xs)) (SV.re n (.agg ys))).run P w = .ok () w := by
            intro op ox oy
            have hg' : P.eqGuardType P.depth t = false := by simpa using fun e => hg (.inl e)
            exact eqGuard_agg w hg' op ox oy _ _
          have hden := eqL_den n.Φ n.ρ a b ((kinds_fst ha).trans (kinds_fst hb).symm)
          rw [kinds_fst ha] at hden
          have heq : (Op.equal t (SV.re n (.agg xs)) (SV.re n (.agg ys))).run P w = .ok ((eqL a b).den n.Φ n.ρ != 0) w := by
            have := run_equalIn_plain w 20 t ks hks Op.maxDepth (by decide) _ _ hxl hyl true hst
            rw [hden]
            unfold Op.equal
            refine Eq.trans ?_ this
            simp only [SV.re, hxa, hya, wholeV, if_true]
            rfl
          have hbin : ∀ (neg : Bool), (binOp (if neg then .neq else .eql) t (SV.re n (.agg xs)) (SV.re n (.agg ys))).run P w = ((Op.equal t (SV.re n (.agg xs)) (SV.re n (.agg ys))).run P w).andThen fun r w' => .ok (.bool (if neg then !r else r)) w' := by
            intro neg
            cases neg
            · simp only [Bool.false_eq_true, if_false, SV.re]
              exact Sem.run_bind' P _ _ w
            · simp only [if_true, SV.re]
              exact Sem.run_bind' P _ _ w
          refine ⟨eqL_under a b (kinds_ok ha hx) (kinds_ok hb hy), fun ox oy => ⟨hgd _ _ _, hgd _ _ _, ?_, ?_⟩⟩
          · have := hbin false
            rw [heq] at this
            simpa using this
          · have := hbin true
            rw [heq] at this
            simpa using this
        · cases h
      · cases h
  · cases h

end Go.Sx

/- Keys of many whole numbers. -/
namespace Go.Sx
open Go.RowKit

theorem litKey_re {n : En} {ks : List K} {k : SV} {l : List Int} (h : litKey ks k = some l) : k.re n = .agg (cellsV ks l).toArray ∧ l.length = ks.length := by
  unfold litKey at h
  split at h
  · rename_i cs
    simp only [Option.bind_eq_some_iff] at h
    obtain ⟨l0, h1, h2⟩ := h
    obtain ⟨h3, h4⟩ := kinds_re (n := n) h1
    rw [litVals_ok n.Φ n.ρ h2] at h3 h4
    exact ⟨by rw [SV.re, h3]; rfl, h4⟩
  · cases h

theorem flatKey_facts {P : Program} {t : TypeId} {ks : List K} (h : flatKey? P t = some ks) : (∃ fs, P.underlying t = some (.struct fs) ∧ fs.toList.all (fun f => match P.underlying f.type with | some (.int _) => true | _ => false) = true) ∧ plainTy P 20 t = some ks ∧ isAgg? P t = some true ∧
    ks.all (fun k => match k with | .int _ => true | .bool => false) = true := by
  unfold flatKey? at h
  split at h
  · rename_i fs ks' hu hp
    split at h
    · rename_i hc; cases h
      exact ⟨⟨fs, hu, hc.1⟩, hp, by simp [isAgg?, hu], hc.2⟩
    · cases h
  · cases h

theorem eqV_int : ∀ {ks : List K} {x y : List Int}, ks.all (fun k => match k with | .int _ => true | .bool => false) = true → x.length = ks.length → y.length = ks.length → (eqV ks x y = true ↔ x = y)
  | [], x, y, _, hx, hy => by
    cases x <;> cases y <;> simp_all [eqV]
  | k :: ks, [], y, _, hx, _ => by simp at hx
  | k :: ks, x :: xs, [], _, _, hy => by simp at hy
  | k :: ks, x :: xs, y :: ys, h, hx, hy => by
    simp only [List.all_cons, Bool.and_eq_true] at h
    have := eqV_int (x := xs) (y := ys) h.2 (by simpa using hx) (by simpa using hy)
    cases k with
    | bool => simp at h
    | int k => simp [eqV, leafEq, this]

theorem plainTy_struct {P : Program} {n : Nat} {t : TypeId} {ks : List K} {fs : Array Field} (hu : P.underlying t = some (.struct fs)) (h : plainTy P (n + 1) t = some ks) : fs.toList.foldl (plainStep P n) (some []) = some ks := by
  simp only [plainTy, hu] at h
  split at h
  · cases h
  · exact h

section
variable {P : Program} (w : World)

theorem run_equal_key {t : TypeId} {ks : List K} (hk : flatKey? P t = some ks) {x y : List Int} (hx : x.length = ks.length) (hy : y.length = ks.length) :
    (Op.equal t (.agg (cellsV ks x).toArray) (.agg (cellsV ks y).toArray)).run P w = .ok (eqV ks x y) w := by
  obtain ⟨_, hp, hag, _⟩ := flatKey_facts hk
  exact run_equalIn_plain w 20 t ks hp Op.maxDepth (by decide) x y hx hy true hag

theorem run_checkKey_flat {t : TypeId} {ks : List K} (hk : flatKey? P t = some ks) (b : Bool) {x : List Int} (hx : x.length = ks.length) :
    (Instr.checkKey b 10000 t (.agg (cellsV ks x).toArray)).run P w = .ok () w := by
  obtain ⟨⟨fs, hu, hint⟩, hp, hag, _⟩ := flatKey_facts hk
  have hstep : ∀ d, (Instr.checkKey b (d + 1 + 1) t (.agg (cellsV ks x).toArray)).run P w = .ok () w := by
    intro d
    unfold Instr.checkKey
    simp only [Sem.run_bind, run_underlying hu, Result.andThen_ok]
    have hfold : fs.toList.foldl (plainStep P 19) (some []) = some ks := plainTy_struct hu hp
    have key : ∀ (l : List Field) (a : List K), l.all (fun f => match P.underlying f.type with | some (.int _) => true | _ => false) = true → l.foldl (plainStep P 19) (some a) = some ks → (∃ r, ks = a ++ r) ∧
        (forIn l PUnit.unit (fun f (_ : PUnit) => (do
          if f.name ≠ "_" then Instr.checkKey b (d + 1) f.type (← part f.type (cellsV ks x).toArray f.offset)
          pure (ForInStep.yield PUnit.unit) : Sem (ForInStep PUnit)))).run P w = .ok PUnit.unit w := by
      intro l
      induction l with
      | nil =>
        intro a _ h
        simp only [List.foldl_nil, Option.some.injEq] at h
        exact ⟨⟨[], by simp [h]⟩, by simp⟩
      | cons f l ih =>
        intro a hall h
        simp only [List.all_cons, Bool.and_eq_true] at hall
        simp only [List.foldl_cons] at h
        cases hpf : plainTy P 19 f.type with
        | none => simp only [plainStep, hpf] at h; rw [plainStep_none] at h; cases h
        | some bk =>
          simp only [plainStep, hpf] at h
          split at h
          · rename_i hc
            obtain ⟨hname, hoff, hsz⟩ := hc
            obtain ⟨⟨r, hr⟩, hrun⟩ := ih (a ++ bk) hall.2 h
            refine ⟨⟨bk ++ r, by rw [hr, List.append_assoc]⟩, ?_⟩
            obtain ⟨ik, hik⟩ : ∃ ik, P.underlying f.type = some (.int ik) := by
              have := hall.1
              split at this
              · rename_i ik hik; exact ⟨ik, hik⟩
              · cases this
            have hbk : bk = [.int ik] := by
              simp only [plainTy, hik, Option.some.injEq] at hpf; exact hpf.symm
            have hagf : isAgg? P f.type = some false := by simp [isAgg?, hik]
            have hl : ks.length = a.length + bk.length + r.length := by rw [hr]; simp [Nat.add_assoc]
            obtain ⟨x1, x2, x3, hxe, hx1, hx2⟩ : ∃ v1 v2 v3, x = v1 ++ v2 ++ v3 ∧ v1.length = a.length ∧ v2.length = bk.length := by
              refine ⟨x.take a.length, (x.drop a.length).take bk.length, (x.drop a.length).drop bk.length, ?_, by simp; omega, by simp; omega⟩
              rw [List.append_assoc, List.take_append_drop bk.length (x.drop a.length), List.take_append_drop a.length x]
            have hcx : cellsV ks x = cellsV a x1 ++ cellsV bk x2 ++ cellsV r x3 := by
              rw [hxe, hr, cellsV_append (by simp [hx1, hx2]), cellsV_append hx1]
            have hb1 : (cellsV bk x2).length = bk.length := cellsV_length hx2
            have e1 := run_part w (t := f.type) (pre := cellsV a x1) (b := cellsV bk x2) (post := cellsV r x3) hagf (by rw [hb1]; exact hsz) (fun _ => by rw [hb1, hbk]; rfl)
            rw [cellsV_length hx1, ← hoff, ← hcx] at e1
            have hck : (Instr.checkKey b (d + 1) f.type (wholeV false (cellsV bk x2))).run P w = .ok () w := by
              have hx2' : ∃ z, x2 = [z] := by
                rw [hbk] at hx2; exact List.length_eq_one_iff.1 hx2
              obtain ⟨z, rfl⟩ := hx2'
              rw [hbk]
              simp only [wholeV, cellsV, leafV, List.zip_cons_cons, List.zip_nil_right, List.map_cons, List.map_nil, List.headD_cons, Bool.false_eq_true, if_false]
              unfold Instr.checkKey
              simp only [Sem.run_bind, run_underlying hik, Result.andThen_ok, Sem.run_pure]
            rw [List.forIn_cons]
            simp only [hname, ne_eq, not_false_eq_true, if_true, Sem.run_bind, e1, Result.andThen_ok, hck, Sem.run_pure]
            exact hrun
          · rw [plainStep_none] at h; cases h
    have h2 := (key fs.toList [] hint hfold).2
    rw [Array.forIn_toList] at h2
    exact (congrArg (fun r => Result.andThen r (fun (_ : PUnit) w' => Result.ok () w')) h2).trans rfl
  exact hstep 9998

/-- Entries by their keys' numbers. -/
theorem run_findKey_flat {t : TypeId} {ks : List K} (hk : flatKey? P t = some ks) {x : List Int} (hx : x.length = ks.length) : ∀ (ents : List MapEntry) (ls : List (List Int)), ents.map (·.key) = ls.map (fun l => Value.agg (cellsV ks l).toArray) → (∀ l ∈ ls, l.length = ks.length) →
    (x ∉ ls ∧ (Instr.findKey t (.agg (cellsV ks x).toArray) ents).run P w = .ok none w) ∨
    (∃ (j : Nat) (e : MapEntry), e ∈ ents ∧ e.key = .agg (cellsV ks x).toArray ∧ (Instr.findKey t (.agg (cellsV ks x).toArray) ents).run P w = .ok (some (j, e.val)) w) := by
  obtain ⟨⟨fs, hu, _⟩, _, _, hall⟩ := flatKey_facts hk
  have ask : ∀ (ents : List MapEntry) (ls : List (List Int)) (i : Nat), ents.map (·.key) = ls.map (fun l => Value.agg (cellsV ks l).toArray) → (∀ l ∈ ls, l.length = ks.length) →
      (x ∉ ls ∧ (Instr.findAsking t (.agg (cellsV ks x).toArray) ents i).run P w = .ok none w) ∨
      (∃ (j : Nat) (e : MapEntry), e ∈ ents ∧ e.key = .agg (cellsV ks x).toArray ∧ (Instr.findAsking t (.agg (cellsV ks x).toArray) ents i).run P w = .ok (some (j, e.val)) w) := by
    intro ents
    induction ents with
    | nil =>
      intro ls i he _
      cases ls with
      | nil => exact .inl ⟨by simp, by simp [Instr.findAsking]⟩
      | cons l ls => simp at he
    | cons e ents ih =>
      intro ls i he hlen
      cases ls with
      | nil => simp at he
      | cons l ls =>
        simp only [List.map_cons, List.cons.injEq] at he
        have hl := hlen l List.mem_cons_self
        have heq := run_equal_key (P := P) w hk hx hl
        rw [← he.1] at heq
        by_cases hxl : x = l
        · subst hxl
          have : eqV ks x x = true := (eqV_int hall hx hx).2 rfl
          rw [this] at heq
          refine .inr ⟨i, e, List.mem_cons_self, he.1, ?_⟩
          simp only [Instr.findAsking, Sem.run_bind, heq, Result.andThen_ok, if_true, Sem.run_pure]
        · have : eqV ks x l = false := by
            cases hq : eqV ks x l with
            | false => rfl
            | true => exact absurd ((eqV_int hall hx hl).1 hq) hxl
          rw [this] at heq
          have hstep : (Instr.findAsking t (.agg (cellsV ks x).toArray) (e :: ents) i).run P w = (Instr.findAsking t (.agg (cellsV ks x).toArray) ents (i + 1)).run P w := by
            simp only [Instr.findAsking, Sem.run_bind, heq, Result.andThen_ok, Bool.false_eq_true, if_false]
          rcases ih ls (i + 1) he.2 (fun l' hl' => hlen l' (List.mem_cons_of_mem _ hl')) with ⟨h1, h2⟩ | ⟨j, e', h1, h2, h3⟩
          · exact .inl ⟨by simp [hxl, h1], by rw [hstep]; exact h2⟩
          · exact .inr ⟨j, e', List.mem_cons_of_mem _ h1, h2, by rw [hstep]; exact h3⟩
  intro ents ls he hlen
  have hfind : (Instr.findKey t (.agg (cellsV ks x).toArray) ents).run P w = (Instr.findAsking t (.agg (cellsV ks x).toArray) ents 0).run P w := by
    cases ents with
    | nil => simp [Instr.findKey, Sem.run_bind, run_underlying hu, Instr.findNow, Instr.findAsking]
    | cons e ents =>
      cases ls with
      | nil => simp at he
      | cons l ls =>
        simp only [List.map_cons, List.cons.injEq] at he
        simp only [Instr.findKey, Sem.run_bind, run_underlying hu, Result.andThen_ok, Instr.findNow, he.1, Instr.sameNow]
  rw [hfind]
  exact ask ents ls 0 he hlen
end

theorem cellsV_inj : ∀ {ks : List K} {x y : List Int}, ks.all (fun k => match k with | .int _ => true | .bool => false) = true → x.length = ks.length → y.length = ks.length → cellsV ks x = cellsV ks y → x = y
  | [], x, y, _, hx, hy, _ => by cases x <;> cases y <;> simp_all
  | k :: ks, [], y, _, hx, _, _ => by simp at hx
  | k :: ks, x :: xs, [], _, _, hy, _ => by simp at hy
  | k :: ks, x :: xs, y :: ys, h, hx, hy, he => by
    simp only [List.all_cons, Bool.and_eq_true] at h
    cases k with
    | bool => simp at h
    | int k =>
      simp only [cellsV, List.zip_cons_cons, List.map_cons, leafV, List.cons.injEq, Value.int.injEq, true_and] at he
      rw [he.1, cellsV_inj (x := xs) (y := ys) h.2 (by simpa using hx) (by simpa using hy) he.2]

theorem litKeys_facts {n : En} {ks : List K} : ∀ {es : List (SV × SV)} {keys : List (List Int)}, litKeys ks es = some keys → es.map (fun p => p.1.re n) = keys.map (fun l => Value.agg (cellsV ks l).toArray) ∧ (∀ l ∈ keys, l.length = ks.length) ∧ es.map (fun p => litKey ks p.1) = keys.map some
  | [], keys, h => by simp only [litKeys, Option.some.injEq] at h; subst h; simp
  | p :: es, keys, h => by
    simp only [litKeys] at h
    split at h
    · rename_i a b ha hb; cases h
      obtain ⟨h1, h2, h3⟩ := litKeys_facts (n := n) hb
      obtain ⟨h4, h5⟩ := litKey_re (n := n) ha
      refine ⟨by simp [h1, h4], ?_, by simp [ha, h3]⟩
      intro l hl
      rcases List.mem_cons.1 hl with rfl | hl
      · exact h5
      · exact h2 l hl
    · cases h

theorem perm_map {α β : Type} {f : β → α} {l1 l2 : List α} (h : l1.Perm l2) : ∀ b : List β, l2 = b.map f → ∃ c : List β, l1 = c.map f ∧ c.Perm b := by
  induction h with
  | nil => intro b hb; exact ⟨b, hb, List.Perm.refl _⟩
  | cons x _ ih =>
    intro b hb
    cases b with
    | nil => simp at hb
    | cons y b =>
      simp only [List.map_cons, List.cons.injEq] at hb
      obtain ⟨c, h1, h2⟩ := ih b hb.2
      exact ⟨y :: c, by simp [h1, hb.1], h2.cons y⟩
  | swap x y l =>
    intro b hb
    cases b with
    | nil => simp at hb
    | cons p b =>
      cases b with
      | nil => simp at hb
      | cons q b =>
        simp only [List.map_cons, List.cons.injEq] at hb
        exact ⟨q :: p :: b, by simp [hb.1, hb.2.1, hb.2.2], List.Perm.swap _ _ _⟩
  | trans _ _ ih1 ih2 =>
    intro b hb
    obtain ⟨c, h1, h2⟩ := ih2 b hb
    obtain ⟨c', h3, h4⟩ := ih1 c h1
    exact ⟨c', h3, h4.trans h2⟩

theorem lookS_mem {ks : List K} {k : List Int} {v : SV} : ∀ {es : List (SV × SV)}, lookS ks k es = some v → ∃ p ∈ es, litKey ks p.1 = some k ∧ p.2 = v
  | [], h => by simp [lookS] at h
  | p :: es, h => by
    simp only [lookS] at h
    split at h
    · rename_i hp; cases h; exact ⟨p, List.mem_cons_self, hp, rfl⟩
    · obtain ⟨q, h1, h2⟩ := lookS_mem h; exact ⟨q, List.mem_cons_of_mem _ h1, h2⟩

/-- Keys that are apart: one entry each. -/
theorem keys_apart {ks : List K} {k : List Int} : ∀ {es : List (SV × SV)} {keys : List (List Int)}, es.map (fun p => litKey ks p.1) = keys.map some → keys.Nodup → ∀ p ∈ es, ∀ q ∈ es, litKey ks p.1 = some k → litKey ks q.1 = some k → p = q
  | [], _, _, _, p, hp, _, _, _, _ => by simp at hp
  | e :: es, [], h, _, _, _, _, _, _, _ => by simp at h
  | e :: es, l :: keys, h, hn, p, hp, q, hq, hpk, hqk => by
    simp only [List.map_cons, List.cons.injEq] at h
    have hnn := List.nodup_cons.1 hn
    have hmem : ∀ r ∈ es, litKey ks r.1 = some k → k ∈ keys := by
      intro r hr hrk
      have : some k ∈ es.map (fun p => litKey ks p.1) := List.mem_map.2 ⟨r, hr, hrk⟩
      rw [h.2] at this
      obtain ⟨k', hk', e⟩ := List.mem_map.1 this
      cases e; exact hk'
    rcases List.mem_cons.1 hp with e1 | hp' <;> rcases List.mem_cons.1 hq with e2 | hq'
    · rw [e1, e2]
    · rw [e1, h.1] at hpk; cases hpk; exact absurd (hmem q hq' hqk) hnn.1
    · rw [e2, h.1] at hqk; cases hqk; exact absurd (hmem p hp' hpk) hnn.1
    · exact keys_apart h.2 hnn.2 p hp' q hq' hpk hqk

end Go.Sx

namespace Go.Sx
open Go.RowKit

section
variable {C : Ctx} {O : Owe} {st : St} {a : Act} {w0 w : World} {kp : Nat → Prop} {hid : List Nat} {ro : Nat} {n : En} {m : Nat}

/-- What is to be shown of an operation. -/
def Fine (C : Ctx) (O : Owe) (w0 : World) (kp : Nat → Prop) (hid : List Nat) (ro : Nat) (n : En) (m : Nat) (st : St) (a : Act) (w : World) (o : Oper) : Prop :=
  ∀ {Q : (Nat → Int) → R → Prop}, (sop C ro st o).Ev n.Φ O n.ρ Q → ∃ r, Q n.ρ r ∧ Good C.P w0 kp hid ro n m st.heap (execOp a.eval o) w r

theorem fine_move {o : Oper} {x : Operand} (hT : TR n st.heap.length m st.tmps a.tmps) (ho : o.op = .move x ∨ o.op = .assign x) : Fine C O w0 kp hid ro n m st a w o := by
  intro Q hE
  have hE' : ((lift (st.eval x) "operand").bind fun v => T.leaf (R.val v)).Ev n.Φ O n.ρ Q := by
    rcases ho with ho | ho <;> (unfold sop at hE; rw [ho] at hE; exact hE)
  obtain ⟨v, hv, hq⟩ := Ev_lift hE'
  obtain ⟨h1, h2⟩ := eval_ok hT hv
  refine ⟨R.val v, hq, good_val ?_ h1⟩
  rcases ho with ho | ho <;> simp [execOp, ho, h2]

theorem fine_alloc {o : Oper} {t : TypeId} (ho : o.op = .alloc t) : Fine C O w0 kp hid ro n m st a w o := by
  intro Q hE
  unfold sop at hE; rw [ho] at hE
  obtain ⟨v, hv, hq⟩ := Ev_lift hE
  have hz := fun (n' : En) => run_zero' w n' (st.heap.length + 1) m hv
  refine ⟨_, hq, good_new (n := n) (obj := .cells (SV.reL (n.bind st.heap.length w.heap.size 0) v.cells).toArray t) 0 ?_ (y := .pointer (some ⟨w.heap.size, 0, none⟩)) (by simp [SV.re]) (by simp [SV.Ok]) ⟨ok_cells (hz n).2, rfl⟩⟩
  simp only [execOp, ho, Instr.alloc, Sem.run_bind, (hz (n.bind st.heap.length w.heap.size 0)).1, Result.andThen_ok, newVar, newRow, run_newObj, Sem.run_pure, re_cells]
  rfl

theorem fine_box {o : Oper} {t : TypeId} {x : Operand} (hT : TR n st.heap.length m st.tmps a.tmps) (ho : o.op = .box t x) : Fine C O w0 kp hid ro n m st a w o := by
  intro Q hE
  unfold sop at hE; rw [ho] at hE
  obtain ⟨v, hv, hq⟩ := Ev_lift hE
  obtain ⟨h1, h2⟩ := eval_ok hT hv
  have h3 : v.re n = v.re (n.bind st.heap.length w.heap.size 0) := SV.re_agree (En.bind_agree _ _ _ _ _) v h1
  refine ⟨_, hq, good_new (n := n) (obj := .cells (SV.reL (n.bind st.heap.length w.heap.size 0) v.cells).toArray t) 0 ?_ (y := .pointer (some ⟨w.heap.size, 0, none⟩)) (by simp [SV.re]) (by simp [SV.Ok])
    ⟨ok_cells (SV.Ok_mono (Nat.le_succ _) (Nat.le_refl _) v h1), rfl⟩⟩
  simp only [execOp, ho, Instr.box, Sem.run_bind, Result.andThen_ok, newVar, newRow, run_newObj, Sem.run_pure, h2, h3, re_cells]
  rfl

/-- An index that is in range. -/
theorem Ev_range {α : Type} {Φ : Spec} {O : Owe} {ρ : Nat → Int} {ie : E} {len : Nat} {t : T α} {u v : String} {Q : (Nat → Int) → α → Prop} (hl : len ≤ few)
    (h : (branch (mkCmp .leq (.int .i64) (.lit (.int .i64) 0) ie) (branch (mkCmp .lss (.int .i64) ie (.lit (.int .i64) len)) t (.fail u)) (.fail v)).Ev Φ O ρ Q) :
    ∃ r : Nat, IntKind.i64.wrap (ie.den Φ ρ) = r ∧ r < len ∧ t.Ev Φ O ρ Q := by
  obtain ⟨h1, h2⟩ := Ev_branch h
  have h3 := mkCmp_bool Φ ρ .leq (.int .i64) (.lit (.int .i64) 0) ie
  by_cases hc : (mkCmp .leq (.int .i64) (.lit (.int .i64) 0) ie).den Φ ρ = 0
  · exact (h2 hc).elim
  obtain ⟨h4, h5⟩ := Ev_branch (h1 hc)
  have h6 := mkCmp_bool Φ ρ .lss (.int .i64) ie (.lit (.int .i64) len)
  by_cases hd : (mkCmp .lss (.int .i64) ie (.lit (.int .i64) len)).den Φ ρ = 0
  · exact (h5 hd).elim
  have hw0 : IntKind.i64.wrap 0 = 0 := by decide
  have hwl : IntKind.i64.wrap (len : Int) = len := wrap_id (by simp only [few] at hl; simp only [lo, hi]; omega)
  have e1 : ((mkCmp .leq (.int .i64) (.lit (.int .i64) 0) ie).den Φ ρ != 0) = true := by simp [hc]
  have e2 : ((mkCmp .lss (.int .i64) ie (.lit (.int .i64) len)).den Φ ρ != 0) = true := by simp [hd]
  rw [h3] at e1; rw [h6] at e2
  simp only [bcmp, E.den, norm_int, wrap_wrap, hw0, hwl, decide_eq_true_eq] at e1 e2
  exact ⟨(IntKind.i64.wrap (ie.den Φ ρ)).toNat, by omega, by omega, h4 hd⟩

theorem zip_leafs : ∀ (ks : List K) (a : List Int) (pre : List Int), a.length = ks.length → (∀ (i : Nat) (k : K) (x : Int), ks[i]? = some k → a[i]? = some x → k.norm x = x) →
    (ks.zip a).map (fun p => leafV p.1 p.2) = (ks.zipIdx pre.length).map fun (k, j) => leafV k (k.norm ((pre ++ a).getD j 0))
  | [], _, _, _, _ => rfl
  | k :: ks, [], _, h, _ => by simp at h
  | k :: ks, x :: a, pre, h, hn => by
    have h0 := hn 0 k x rfl rfl
    simp only [List.zip_cons_cons, List.map_cons, List.zipIdx_cons]
    have h1 : (pre ++ x :: a).getD pre.length 0 = x := by rw [List.getD_eq_getElem?_getD, List.getElem?_append_right (Nat.le_refl _)]; simp
    rw [h1, h0]
    congr 1
    have := zip_leafs ks a (pre ++ [x]) (by simpa using h) fun i k' y hk hy => hn (i + 1) k' y (by simpa using hk) (by simpa using hy)
    rw [this]
    simp only [List.length_append, List.length_singleton, List.append_assoc, List.singleton_append]

theorem denL_norm (Φ : Spec) (ρ : Nat → Int) : ∀ (l : List (K × E)) (i : Nat) (k : K) (x : Int), (l.map Prod.fst)[i]? = some k → (E.denL Φ ρ l)[i]? = some x → k.norm x = x
  | [], i, k, x, h, _ => by simp at h
  | (k0, e) :: l, 0, k, x, h, hx => by
    simp at h; subst h
    simp [E.denL] at hx; subst hx
    exact norm_norm _ _
  | (k0, e) :: l, i + 1, k, x, h, hx => denL_norm Φ ρ l i k x (by simpa using h) (by simpa [E.denL] using hx)

theorem fine_load {o : Oper} {t : TypeId} {x : Operand} (hF : ∀ (s : Nat) (vs r : List Int), C.fold s vs = some r → n.Φ s vs = r) (H : HR w0 kp hid ro n m st.heap w) (hT : TR n st.heap.length m st.tmps a.tmps) (ho : o.op = .load t x) : Fine C O w0 kp hid ro n m st a w o := by
  intro Q hE
  unfold sop at hE; rw [ho] at hE
  simp only at hE
  split at hE
  · rename_i b off hx
    obtain ⟨v, hv, hq⟩ := Ev_lift hE
    obtain ⟨h1, h2⟩ := run_load_sv (P := C.P) H hv
    refine ⟨_, hq, good_val ?_ h1⟩
    obtain ⟨_, h4⟩ := eval_ok hT hx
    simp only [execOp, ho, Instr.loadAt, h4, SV.re, Instr.sureAddr, Sem.run_bind, Sem.run_pure, Result.andThen_ok, h2]
  · rename_i b off sz cnt i hx
    unfold loadSel at hE
    split at hE
    · rename_i cs sz' ks hcs hagg hsz hks
      split at hE
      · rename_i hc
        obtain ⟨rfl, hle, hfew⟩ := hc
        split at hE
        · rename_i s hs
          obtain ⟨r, hr, hlt, hq⟩ := Ev_range hfew hE
          have hall := List.find?_some hs
          have hrow := List.all_eq_true.1 hall r (List.mem_range.2 hlt)
          unfold selRow at hrow
          split at hrow
          · rename_i l hl
            split at hrow
            · rename_i aa bb ha hb
              have hab : aa = bb := by simpa using hrow
              subst hab
              have hΦ := hF s _ _ hb
              obtain ⟨h1, rest, e, h2⟩ := H.read hcs
              obtain ⟨hxo, h4⟩ := eval_ok hT hx
              have hval : SV.reL n (resCells (fun k j => .app k s [(.int .i64, i)] j) ks 0) = SV.reL n (seg cs (off + r * sz') sz') := by
                rw [resCells_re (g := fun j => aa.getD j 0) (fun k j => by simp only [E.den, E.denL, norm_int, hr, hΦ, norm_norm])]
                obtain ⟨h5, h6⟩ := kinds_re (n := n) hl
                rw [h5, litVals_ok n.Φ n.ρ ha]
                rw [litVals_ok n.Φ n.ρ ha] at h6
                have := zip_leafs ks aa [] h6 fun j k x hk hx => denL_norm n.Φ n.ρ l j k x (by rw [kinds_fst hl]; exact hk) (by rw [litVals_ok n.Φ n.ρ ha]; exact hx)
                rw [this]; rfl
              refine ⟨_, hq, good_val ?_ ?_⟩
              · simp only [execOp, ho, Instr.loadAt, h4, SV.re, Instr.sureAddr, Sem.run_bind, Sem.run_pure, Result.andThen_ok, loadVar, run_isAgg' w hagg, if_true, run_sizeOf' w hsz, hr, Int.toNat_natCast]
                have hmul : (r + 1) * sz' ≤ cnt * sz' := Nat.mul_le_mul_right _ hlt
                have hb : off + r * sz' + sz' ≤ cs.length := by rw [Nat.add_mul, Nat.one_mul] at hmul; omega
                rw [run_loadCells_seg h2 (by simp [reL_length]; omega)]
                simp only [Result.andThen_ok, Sem.run_pure, hval]
                congr 4
                rw [reL_seg]
                simp only [seg_eq]
                rw [List.drop_append_of_le_length (by rw [reL_length]; omega), List.take_append_of_le_length (by simp [reL_length]; omega)]
              · have : ∀ (ks : List K) (j : Nat), SV.OkL st.heap.length m (resCells (fun k j => .app k s [(.int .i64, i)] j) ks j) := by
                  intro ks
                  induction ks with
                  | nil => intro j; trivial
                  | cons k ks ih => intro j; refine ⟨?_, ih _⟩; cases k <;> simp only [leafOf, SV.Ok, E.under, E.underL, hxo.2, Bool.and_self, Bool.true_and]
                exact this ks 0
            · cases hrow
          · cases hrow
        · exact hE.elim
      · exact hE.elim
    · exact hE.elim
  · exact hE.elim

theorem fine_store {o : Oper} {t : TypeId} {x y : Operand} (H : HR w0 kp hid ro n m st.heap w) (hT : TR n st.heap.length m st.tmps a.tmps) (ho : o.op = .store t x y) : Fine C O w0 kp hid ro n m st a w o := by
  intro Q hE
  unfold sop at hE; rw [ho] at hE
  simp only at hE
  split at hE
  · rename_i b off v hp hv
    cases hs : store? C.P ro st.heap t b off v with
    | none => rw [hs] at hE; exact hE.elim
    | some r =>
      rw [hs] at hE
      obtain ⟨h1, h2⟩ := eval_ok hT hv
      obtain ⟨hro, ob, o', obj, w', rfl, hb, hal, hrun, htu, hor⟩ := run_store_sv (P := C.P) H h1 hs
      refine ⟨_, hE, good_upd ?_ hb hal hro htu hor⟩
      cases hx : st.eval x with
      | none => simp [hx] at hp
      | some p =>
        simp only [hx, Option.bind_some] at hp
        cases p <;> simp [ptr?] at hp
        obtain ⟨rfl, rfl⟩ := hp
        obtain ⟨_, h4⟩ := eval_ok hT hx
        simp only [execOp, ho, Instr.storeAt, h4, h2, SV.re, Instr.sureAddr, Sem.run_bind, Sem.run_pure, Result.andThen_ok]
        rw [hrun]; rfl
  · exact hE.elim

theorem fine_nilCheck {o : Oper} {x : Operand} (hT : TR n st.heap.length m st.tmps a.tmps) (ho : o.op = .nilCheck x) : Fine C O w0 kp hid ro n m st a w o := by
  intro Q hE
  unfold sop at hE; rw [ho] at hE
  simp only at hE
  split at hE
  · rename_i b off hx
    obtain ⟨h1, h2⟩ := eval_ok hT hx
    refine ⟨_, hE, good_val ?_ h1⟩
    simp only [execOp, ho, h2, SV.re, Sem.run_pure]
  · rename_i f c d hx
    obtain ⟨h1, h2⟩ := eval_ok hT hx
    refine ⟨_, hE, good_val ?_ h1⟩
    simp only [execOp, ho, h2, SV.re, Sem.run_pure]
  · exact hE.elim

theorem den_cases {Φ : Spec} {ρ : Nat → Int} (c : E) : (c.den Φ ρ = 0 ∧ (c.den Φ ρ != 0) = false) ∨ (c.den Φ ρ ≠ 0 ∧ (c.den Φ ρ != 0) = true) := by
  by_cases h : c.den Φ ρ = 0
  · exact .inl ⟨h, by simp [h]⟩
  · exact .inr ⟨h, by simp [h]⟩

theorem fine_pick {o : Oper} {c x y : Operand} (hT : TR n st.heap.length m st.tmps a.tmps) (ho : o.op = .pick c x y) : Fine C O w0 kp hid ro n m st a w o := by
  intro Q hE
  unfold sop at hE; rw [ho] at hE
  simp only at hE
  have hrun : ∀ {e : E}, a.eval c = .bool (e.den n.Φ n.ρ != 0) → (execOp a.eval o).run C.P w = .ok (.value (if e.den n.Φ n.ρ = 0 then a.eval y else a.eval x)) w := by
    intro e he
    simp only [execOp, ho, he, asBool, Sem.run_bind, Sem.run_pure, Result.andThen_ok]
    rcases den_cases (Φ := n.Φ) (ρ := n.ρ) e with ⟨h1, h2⟩ | ⟨h1, h2⟩
    · rw [h2]; simp [h1]
    · rw [h2]; simp [h1]
  split at hE
  · rename_i e e1 e2 hc hx hy
    obtain ⟨h1, h2⟩ := eval_ok hT hc
    obtain ⟨h3, h4⟩ := eval_ok hT hx
    obtain ⟨h5, h6⟩ := eval_ok hT hy
    refine ⟨_, hE, good_val ?_ (mkIte_under h1 h3 h5)⟩
    rw [hrun (e := e) h2, h4, h6]
    simp only [SV.re]
    rw [mkIte_bool]
    split <;> rfl
  · rename_i e k e1 k' e2 hc hx hy
    split at hE
    · rename_i hk; subst hk
      obtain ⟨h1, h2⟩ := eval_ok hT hc
      obtain ⟨h3, h4⟩ := eval_ok hT hx
      obtain ⟨h5, h6⟩ := eval_ok hT hy
      refine ⟨_, hE, good_val ?_ (mkIte_under h1 h3 h5)⟩
      rw [hrun (e := e) h2, h4, h6]
      simp only [SV.re]
      have := mkIte_den n.Φ n.ρ (.int k) e e1 e2
      simp only [norm_int] at this
      rw [this]
      split <;> rfl
    · exact hE.elim
  · rename_i e hc _ _
    obtain ⟨h1, h2⟩ := eval_ok hT hc
    obtain ⟨hy, hn⟩ := Ev_branch hE
    rcases den_cases (Φ := n.Φ) (ρ := n.ρ) e with ⟨h3, h4⟩ | ⟨h3, h4⟩
    · obtain ⟨v, hv, hq⟩ := Ev_lift (hn h3)
      obtain ⟨h5, h6⟩ := eval_ok hT hv
      refine ⟨_, hq, good_val ?_ h5⟩
      rw [hrun (e := e) h2, if_pos h3, h6]
    · obtain ⟨v, hv, hq⟩ := Ev_lift (hy h3)
      obtain ⟨h5, h6⟩ := eval_ok hT hv
      refine ⟨_, hq, good_val ?_ h5⟩
      rw [hrun (e := e) h2, if_neg h3, h6]
  · exact hE.elim

theorem fine_extract {o : Oper} {x : Operand} {i : Nat} (hT : TR n st.heap.length m st.tmps a.tmps) (ho : o.op = .extract x i) : Fine C O w0 kp hid ro n m st a w o := by
  intro Q hE
  unfold sop at hE; rw [ho] at hE
  simp only at hE
  split at hE
  · rename_i vs hx
    obtain ⟨v, hv, hq⟩ := Ev_lift hE
    obtain ⟨h1, h2⟩ := eval_ok hT hx
    refine ⟨_, hq, good_val ?_ (okL_get h1 hv)⟩
    have : (SV.reL n vs).toArray[i]? = some (v.re n) := by simp [reL_get, hv]
    simp [execOp, ho, Instr.extract, h2, SV.re, this]
  · exact hE.elim

theorem fine_makeFunc {o : Oper} {f : Nat} {x y : Array Operand} (hT : TR n st.heap.length m st.tmps a.tmps) (ho : o.op = .makeFunc (.func f) x y) : Fine C O w0 kp hid ro n m st a w o := by
  intro Q hE
  unfold sop at hE; rw [ho] at hE
  simp only at hE
  split at hE
  · rename_i u v hu hv
    obtain ⟨h1, h2⟩ := evalL_ok hT hu
    obtain ⟨h3, h4⟩ := evalL_ok hT hv
    refine ⟨_, hE, good_val ?_ ⟨h1, h3⟩⟩
    have e1 : x.map a.eval = (SV.reL n u).toArray := Array.ext' (by rw [Array.toList_map]; exact h2)
    have e2 : y.map a.eval = (SV.reL n v).toArray := Array.ext' (by rw [Array.toList_map]; exact h4)
    simp [execOp, ho, Instr.makeFunc, SV.re, e1, e2]
  · exact hE.elim

theorem fine_makeMap {o : Oper} {t : TypeId} (ho : o.op = .makeMap t none) : Fine C O w0 kp hid ro n m st a w o := by
  intro Q hE
  unfold sop at hE; rw [ho] at hE
  refine ⟨_, hE, good_new (n := n) (obj := .map #[] 0) 0 ?_ (y := .map (some w.heap.size)) (by simp [SV.re]) (by simp [SV.Ok]) ?_⟩
  · simp [execOp, ho, Instr.makeMap, newObj, Sem.run]
  · split
    · exact ⟨_, _, rfl⟩
    · exact ⟨by simp, #[], 0, rfl, rfl⟩

theorem field?_some {P : Program} {t : TypeId} {i : Nat} {f : Field} (h : field? P t i = some f) : ∃ fs : Array Field, P.underlying t = some (.struct fs) ∧ fs[i]? = some f := by
  unfold field? at h
  split at h
  · rename_i fs hu; exact ⟨fs, hu, h⟩
  · cases h

theorem fine_fieldAddr {o : Oper} {t : TypeId} {x : Operand} {i : Nat} (hT : TR n st.heap.length m st.tmps a.tmps) (ho : o.op = .fieldAddr t x i) : Fine C O w0 kp hid ro n m st a w o := by
  intro Q hE
  unfold sop at hE; rw [ho] at hE
  simp only at hE
  split at hE
  · rename_i f b off hf hp
    split at hE
    · rename_i k hk
      cases hx : st.eval x with
      | none => simp [hx] at hp
      | some p =>
        simp only [hx, Option.bind_some] at hp
        cases p <;> simp [ptr?] at hp
        obtain ⟨rfl, rfl⟩ := hp
        obtain ⟨h3, h4⟩ := eval_ok hT hx
        obtain ⟨fs, hu, hi⟩ := field?_some hf
        refine ⟨_, hE, good_val ?_ h3⟩
        simp only [execOp, ho, Instr.fieldAt, Sem.run_bind, run_underlying hu, Result.andThen_ok, hi, h4, SV.re, Instr.sureAddr, Sem.run_pure, fieldPlace, run_sizeOf' w hk, Nat.add_one_ne_zero, if_false, addr_add]
    · exact hE.elim
  · exact hE.elim

theorem part_ok {P : Program} {t : TypeId} {cs : List SV} {off : Nat} {v : SV} (hp : part? P t cs off = some v) (hok : SV.OkL st.heap.length m cs) :
    v.Ok st.heap.length m ∧ (part t (SV.reL n cs).toArray off).run P w = .ok (v.re n) w := by
  unfold part? at hp
  split at hp
  · rename_i k hag hsz
    cases hp
    refine ⟨okL_seg hok _ _, ?_⟩
    simp only [part, Sem.run_bind, run_isAgg' w hag, Result.andThen_ok, if_true, run_sizeOf' w hsz, Sem.run_pure, SV.re, reL_seg]
    congr 2
    simp [seg_eq, List.extract_eq_take_drop]
  · rename_i hag
    refine ⟨okL_get hok hp, ?_⟩
    have : (SV.reL n cs).toArray[off]? = some (v.re n) := by simp [reL_get, hp]
    simp [part, Sem.run_bind, run_isAgg' w hag, this]
  · cases hp

theorem fine_field {o : Oper} {t : TypeId} {x : Operand} {i : Nat} (hT : TR n st.heap.length m st.tmps a.tmps) (ho : o.op = .field t x i) : Fine C O w0 kp hid ro n m st a w o := by
  intro Q hE
  unfold sop at hE; rw [ho] at hE
  simp only at hE
  split at hE
  · rename_i f cs hf hp
    obtain ⟨v, hv, hq⟩ := Ev_lift hE
    cases hx : st.eval x with
    | none => simp [hx] at hp
    | some p =>
      simp only [hx, Option.bind_some] at hp
      cases p <;> simp [cells?] at hp
      subst hp
      obtain ⟨h3, h4⟩ := eval_ok hT hx
      obtain ⟨fs, hu, hi⟩ := field?_some hf
      obtain ⟨h5, h6⟩ := part_ok (w := w) (n := n) hv h3
      refine ⟨_, hq, good_val ?_ h5⟩
      simp only [execOp, ho, Instr.field, Sem.run_bind, run_underlying hu, Result.andThen_ok, hi, h4, SV.re, asAgg, Sem.run_pure]
      rw [h6]; rfl
  · exact hE.elim

/-- A whole number that is told. -/
theorem nat?_re {v : SV} {j : Nat} (h : nat? v = some j) : ∃ k, v.re n = .int k j := by
  unfold nat? at h
  split at h
  · rename_i x hx
    split at h
    · rename_i h0
      cases h
      cases v <;> simp [num?] at hx
      rename_i k e
      unfold E.num at hx
      split at hx
      · rename_i kn y
        cases hx
        refine ⟨k, ?_⟩
        simp only [SV.re, E.den]
        rw [Int.toNat_of_nonneg h0]
      · cases hx
    · cases h
  · cases h

theorem fine_index {o : Oper} {t : TypeId} {x y : Operand} (hT : TR n st.heap.length m st.tmps a.tmps) (ho : o.op = .index t x y) : Fine C O w0 kp hid ro n m st a w o := by
  intro Q hE
  unfold sop at hE; rw [ho] at hE
  have hcase : (∃ b, x = .const (.string b)) ∨ ∀ b, x ≠ .const (.string b) := by
    by_cases h : ∃ b, x = .const (.string b)
    · exact .inl h
    · exact .inr fun b e => h ⟨b, e⟩
  rcases hcase with ⟨b, rfl⟩ | hns
  · simp only at hE
    split at hE
    · rename_i j hu hj
      split at hE
      · rename_i ch hch
        refine ⟨_, hE, good_val ?_ rfl⟩
        cases hy : st.eval y with
        | none => simp [hy] at hj
        | some q =>
          simp only [hy, Option.bind_some] at hj
          obtain ⟨k, hk⟩ := nat?_re (n := n) hj
          obtain ⟨_, h8⟩ := eval_ok hT hy
          have h0 : (0 : Int) ≤ j := by omega
          have hw : IntKind.u8.wrap (ch.toNat : Int) = ch.toNat := wrap_id (by have := ch.toNat_lt; simp only [lo, hi]; omega)
          have h9 : a.eval (.const (.string b)) = .string b := rfl
          simp only [execOp, ho, Instr.index, h8, hk, h9, asIntOf, Sem.run_bind, run_underlying hu, Result.andThen_ok, SV.re, Sem.run_pure, h0, if_true, Int.toNat_natCast, hch, E.den, norm_int, hw, wrap_wrap]
      · exact hE.elim
    · exact hE.elim
  have hE' : (match C.P.underlying t, (st.eval x).bind cells?, (st.eval y).bind nat? with
    | some (.array n e), some cs, some j => (match sizeOf? C.P e with
      | some sz => if j < n then (lift (part? C.P e cs (j * sz)) "index").bind fun v => T.leaf (R.val v) else .fail "index"
      | none => .fail "index")
    | _, _, _ => .fail "index").Ev n.Φ O n.ρ Q := by
    cases x with
    | const v => cases v <;> first | exact hE | exact absurd rfl (hns _)
    | _ => exact hE
  clear hE
  rename _ => hE
  split at hE
  · rename_i len e cs j hu hp hj
    split at hE
    · rename_i sz hsz
      split at hE
      · rename_i hlt
        obtain ⟨v, hv, hq⟩ := Ev_lift hE
        cases hx : st.eval x with
        | none => simp [hx] at hp
        | some p =>
          simp only [hx, Option.bind_some] at hp
          cases p <;> simp [cells?] at hp
          subst hp
          cases hy : st.eval y with
          | none => simp [hy] at hj
          | some q =>
            simp only [hy, Option.bind_some] at hj
            obtain ⟨k, hk⟩ := nat?_re (n := n) hj
            obtain ⟨h3, h4⟩ := eval_ok hT hx
            obtain ⟨_, h8⟩ := eval_ok hT hy
            obtain ⟨h5, h6⟩ := part_ok (w := w) (n := n) hv h3
            refine ⟨_, hq, good_val ?_ h5⟩
            have hb : (0 : Int) ≤ j ∧ (j : Int) < len := by omega
            simp only [execOp, ho, Instr.index, h8, hk, asIntOf, Sem.run_bind, run_underlying hu, Result.andThen_ok, h4, SV.re, Sem.run_pure, hb, and_self, if_true, run_sizeOf' w hsz, Int.toNat_natCast]
            rw [h6]; rfl
      · exact hE.elim
    · exact hE.elim
  · exact hE.elim

theorem fine_indexAddr {o : Oper} {t : TypeId} {x y : Operand} (hT : TR n st.heap.length m st.tmps a.tmps) (ho : o.op = .indexAddr t x y) : Fine C O w0 kp hid ro n m st a w o := by
  intro Q hE
  unfold sop at hE; rw [ho] at hE
  simp only at hE
  split at hE
  · rename_i p q hx hy
    obtain ⟨h3, h4⟩ := eval_ok hT hx
    obtain ⟨_, h8⟩ := eval_ok hT hy
    unfold indexAddrS at hE
    split at hE
    · rename_i len e b off j hu hj
      split at hE
      · rename_i sz hsz
        split at hE
        · rename_i hlt
          obtain ⟨k, hk⟩ := nat?_re (n := n) hj
          refine ⟨_, hE, good_val ?_ h3⟩
          have hb : (0 : Int) ≤ j ∧ (j : Int) < len := by omega
          simp only [execOp, ho, Instr.indexAt, h8, hk, asIntOf, Sem.run_bind, run_underlying hu, Result.andThen_ok, h4, SV.re, Sem.run_pure, Instr.sureAddr, hb, and_self, if_true, run_sizeOf' w hsz, Int.toNat_natCast, addr_add]
        · exact hE.elim
      · exact hE.elim
    · rename_i e b off len cap j hu hj
      split at hE
      · rename_i sz hsz
        split at hE
        · rename_i hlt
          obtain ⟨k, hk⟩ := nat?_re (n := n) hj
          refine ⟨_, hE, good_val ?_ h3⟩
          have hb : (0 : Int) ≤ j ∧ (j : Int) < len := by omega
          simp only [execOp, ho, Instr.indexAt, h8, hk, asIntOf, Sem.run_bind, run_underlying hu, Result.andThen_ok, h4, SV.re, Sem.run_pure, hb, and_self, if_true, run_sizeOf' w hsz, Int.toNat_natCast, addr_add]
        · exact hE.elim
      · exact hE.elim
    · rename_i e b off len cap hu hj
      cases hsz : sizeOf? C.P e with
      | none => rw [hsz] at hE; exact hE.elim
      | some sz =>
        rw [hsz] at hE
        cases q with
        | int k ie =>
          cases k with
          | i64 =>
            simp only at hE
            have hE2 : len ≤ few ∧ (branch (mkCmp .leq (.int .i64) (.lit (.int .i64) 0) ie) (branch (mkCmp .lss (.int .i64) ie (.lit (.int .i64) len)) (T.leaf (R.val (.sel b off sz len ie))) (.fail "index")) (.fail "index")).Ev n.Φ O n.ρ Q := by
              by_cases hf : len ≤ few
              · rw [if_pos hf] at hE; exact ⟨hf, hE⟩
              · rw [if_neg hf] at hE
                obtain ⟨h1, h2⟩ := Ev_branch hE
                by_cases hc : (mkCmp .leq (.int .i64) (.lit (.int .i64) 0) ie).den n.Φ n.ρ = 0
                · exact (h2 hc).elim
                · exact (h1 hc).elim
            obtain ⟨r, hr, hlt, hq⟩ := Ev_range hE2.1 hE2.2
            refine ⟨_, hq, good_val ?_ ⟨h3, (eval_ok hT hy).1⟩⟩
            have hb : (0 : Int) ≤ r ∧ (r : Int) < len := by omega
            simp only [execOp, ho, Instr.indexAt, h8, asIntOf, Sem.run_bind, run_underlying hu, Result.andThen_ok, h4, SV.re, Sem.run_pure, hr, hb, and_self, if_true, run_sizeOf' w hsz, Int.toNat_natCast, addr_add]
          | _ => exact hE.elim
        | _ => exact hE.elim
    · exact hE.elim
  · exact hE.elim

theorem fine_unOp {o : Oper} {op : UnOp} {t : TypeId} {x : Operand} (hT : TR n st.heap.length m st.tmps a.tmps) (ho : o.op = .unOp op t x) : Fine C O w0 kp hid ro n m st a w o := by
  intro Q hE
  unfold sop at hE; rw [ho] at hE
  obtain ⟨v, hv, hq⟩ := Ev_lift hE
  obtain ⟨h1, h2⟩ := eval_ok hT hv
  unfold unS at hq
  split at hq
  · rename_i k e
    refine ⟨_, hq, good_val ?_ (mkBin_under rfl h1)⟩
    have h0 : k.wrap 0 = 0 := wrap_id (by cases k <;> decide)
    simp only [execOp, ho, h2, Op.unary, SV.re, Op.intArith, Sem.run_bind, Sem.run_pure, Result.andThen_ok]
    rw [mkBin_den, den_bin]
    simp only [bop, E.den, K.norm, h0]
  · rename_i k e
    refine ⟨_, hq, good_val ?_ (mkBin_under rfl h1)⟩
    have h0 : k.wrap (if k.signed then -1 else k.max) = (if k.signed then -1 else k.max) := wrap_id (by cases k <;> decide)
    simp only [execOp, ho, h2, Op.unary, SV.re, Op.intBits, Sem.run_bind, Sem.run_pure, Result.andThen_ok]
    rw [mkBin_den, den_bin]
    simp only [bop, E.den, K.norm, h0]
  · rename_i e
    refine ⟨_, hq, good_val ?_ (mkNot_under h1)⟩
    simp only [execOp, ho, h2, Op.unary, SV.re, Sem.run_bind, Sem.run_pure, Result.andThen_ok]
    rw [mkNot_den]
  · exact hq.elim

theorem fine_convert {o : Oper} {s d : TypeId} {x : Operand} (hT : TR n st.heap.length m st.tmps a.tmps) (ho : o.op = .convert s d x) : Fine C O w0 kp hid ro n m st a w o := by
  intro Q hE
  unfold sop at hE; rw [ho] at hE
  obtain ⟨v, hv, hq⟩ := Ev_lift hE
  obtain ⟨h1, h2⟩ := eval_ok hT hv
  unfold convS at hq
  split at hq
  · rename_i ds k k1 e hs hd
    refine ⟨_, hq, good_val ?_ (mkConv_under h1)⟩
    simp only [execOp, ho, h2, convert, SV.re, Sem.run_bind, run_underlying hs, run_underlying hd, Sem.run_pure, Result.andThen_ok, Conv.intToInt]
    rw [mkConv_den]
  · exact hq.elim
end

end Go.Sx

namespace Go.Sx
open Go.RowKit

section
variable {C : Ctx} {O : Owe} {st : St} {a : Act} {w0 w : World} {kp : Nat → Prop} {hid : List Nat} {ro : Nat} {n : En} {m : Nat}

/-! ### Aggregates that are built -/
theorem foldl_set (off : Nat) : ∀ (new : List Value) (j : Nat) (pre cs : List Value), pre.length = off + j → new.length ≤ cs.length →
    ((new.zipIdx j).foldl (fun (cs : Array Value) (c, j) => cs.setIfInBounds (off + j) c) (pre ++ cs).toArray) = (pre ++ new ++ cs.drop new.length).toArray
  | [], j, pre, cs, _, _ => by simp
  | c :: new, j, pre, [], _, h => by simp at h
  | c :: new, j, pre, d :: cs, hp, h => by
    simp only [List.zipIdx_cons, List.foldl_cons]
    have : (pre ++ d :: cs).toArray.setIfInBounds (off + j) c = ((pre ++ [c]) ++ cs).toArray := by
      rw [List.setIfInBounds_toArray, ← hp]; simp
    rw [this, foldl_set off new (j + 1) (pre ++ [c]) cs (by simp; omega) (by simpa using h)]
    simp

theorem fill_ok {place : Nat → Option (Nat × Nat)} {place' : Nat → Option (Nat × Nat)} (hpl : ∀ i x, place i = some x → place' i = some x) : ∀ {ps : List (Nat × SV)} {cells cs : List SV}, fill? place cells ps = some cs →
    SV.OkL st.heap.length m cells → (∀ p ∈ ps, p.2.Ok st.heap.length m) →
    SV.OkL st.heap.length m cs ∧ Instr.fill place' (SV.reL n cells).toArray (ps.map fun p => (p.1, p.2.re n)) = some (SV.reL n cs).toArray
  | [], cells, cs, h, hok, _ => by
    simp only [fill?, Option.some.injEq] at h; subst h
    exact ⟨hok, rfl⟩
  | (i, v) :: ps, cells, cs, h, hok, hps => by
    simp only [fill?] at h
    split at h
    · cases h
    · rename_i off size hp
      split at h
      · rename_i hc
        obtain ⟨hc1, hc2⟩ := hc
        have hv : v.Ok st.heap.length m := hps (i, v) (List.mem_cons_self ..)
        obtain ⟨h1, h2⟩ := fill_ok hpl h (okL_overlay hok (ok_cells hv) off) (fun p hp' => hps p (List.mem_cons_of_mem _ hp'))
        refine ⟨h1, ?_⟩
        simp only [List.map_cons, Instr.fill, hpl i _ hp, re_cells]
        have e1 : ¬ ((SV.reL n v.cells).toArray.size ≠ size) := by simp [reL_length, hc1]
        have e2 : ¬ (off + (SV.reL n v.cells).toArray.size > (SV.reL n cells).toArray.size) := by simp [reL_length]; omega
        simp only [e1, decide_false, e2, Bool.or_false, Bool.false_eq_true, if_false]
        rw [← h2]
        congr 1
        have := foldl_set off (SV.reL n v.cells) 0 ((SV.reL n cells).take off) ((SV.reL n cells).drop off) (by simp [reL_length]; omega) (by simp [reL_length]; omega)
        rw [List.take_append_drop] at this
        rw [← Array.foldl_toList, Array.toList_zipIdx]
        refine Eq.trans (b := (List.take off (SV.reL n cells) ++ SV.reL n v.cells ++ List.drop (SV.reL n v.cells).length (List.drop off (SV.reL n cells))).toArray) this ?_
        rw [reL_overlay]
        simp [reL_length]
      · cases h

theorem run_listMapM {P : Program} {α β : Type} {f : α → Sem β} {g : α → β} : ∀ (l : List α), (∀ x ∈ l, (f x).run P w = .ok (g x) w) → (l.mapM f).run P w = .ok (l.map g) w
  | [], _ => by simp
  | x :: l, h => by
    simp only [List.mapM_cons, Sem.run_bind, h x (List.mem_cons_self ..), Result.andThen_ok]
    rw [run_listMapM l (fun y hy => h y (List.mem_cons_of_mem _ hy))]
    simp

theorem run_arrayMapM {P : Program} {α β : Type} {f : α → Sem β} {g : α → β} (l : Array α) (h : ∀ x ∈ l.toList, (f x).run P w = .ok (g x) w) : (l.mapM f).run P w = .ok (l.map g) w := by
  rw [Array.mapM_eq_mapM_toList]
  simp only [Sem.run_map, run_listMapM l.toList h, Result.andThen_ok]
  congr 1
  exact Array.ext' (by simp)

theorem fine_build {o : Oper} {t : TypeId} {parts : Array (Nat × Operand)} (hT : TR n st.heap.length m st.tmps a.tmps) (ho : o.op = .build t parts) : Fine C O w0 kp hid ro n m st a w o := by
  intro Q hE
  unfold sop at hE; rw [ho] at hE
  simp only at hE
  split at hE
  · rename_i z ps fs hz hps hu
    split at hE
    · exact hE.elim
    · rename_i hall
      obtain ⟨cs, hcs, hq⟩ := Ev_lift hE
      obtain ⟨hz1, hz2⟩ := run_zero' w n st.heap.length m hz
      obtain ⟨hp1, hp2⟩ := evalParts_ok hT hps
      have hall' : ∀ f ∈ fs.toList, ∃ k, sizeOf? C.P f.type = some k := by
        intro f hf
        have hall2 : fs.toList.all (fun f => (sizeOf? C.P f.type).isSome) = true := by
          revert hall; cases fs.toList.all (fun f => (sizeOf? C.P f.type).isSome) <;> simp
        exact Option.isSome_iff_exists.1 (List.all_eq_true.1 hall2 f hf)
      have hrun := run_arrayMapM (w := w) (P := C.P) (f := fun (f : Field) => do pure (f.offset, ← sizeOf f.type)) (g := fun f => (f.offset, (sizeOf? C.P f.type).getD 0)) fs (fun f hf => by
        obtain ⟨k, hk⟩ := hall' f hf
        simp [run_sizeOf' w hk, hk])
      obtain ⟨h1, h2⟩ := fill_ok (st := st) (n := n) (m := m) (place' := fun i => (fs.map fun f => (f.offset, (sizeOf? C.P f.type).getD 0))[i]?) (by
        intro i x hx
        split at hx
        · rename_i f hf
          obtain ⟨fs', hu', hi⟩ := field?_some hf
          rw [hu] at hu'; cases hu'
          cases hk : sizeOf? C.P f.type with
          | none => simp [hk] at hx
          | some k => simp only [hk, Option.map_some, Option.some.injEq] at hx; subst hx; simp [hi, hk]
        · cases hx) hcs (ok_cells hz2) hp1
      refine ⟨_, hq, good_val ?_ h1⟩
      have e1 : (parts.map fun p => (p.1, a.eval p.2)).toList = ps.map fun p => (p.1, p.2.re n) := by rw [Array.toList_map]; exact hp2
      simp only [execOp, ho, Instr.build, Sem.run_bind, hz1, Result.andThen_ok, run_underlying hu, hrun, re_cells]
      rw [e1, h2]
      rfl
  · rename_i z ps len e hz hps hu
    split at hE
    · rename_i k hk
      obtain ⟨cs, hcs, hq⟩ := Ev_lift hE
      obtain ⟨hz1, hz2⟩ := run_zero' w n st.heap.length m hz
      obtain ⟨hp1, hp2⟩ := evalParts_ok hT hps
      obtain ⟨h1, h2⟩ := fill_ok (st := st) (n := n) (m := m) (place' := fun i => some (i * k, k)) (fun i x hx => hx) hcs (ok_cells hz2) hp1
      refine ⟨_, hq, good_val ?_ h1⟩
      have e1 : (parts.map fun p => (p.1, a.eval p.2)).toList = ps.map fun p => (p.1, p.2.re n) := by rw [Array.toList_map]; exact hp2
      simp only [execOp, ho, Instr.build, Sem.run_bind, hz1, Result.andThen_ok, run_underlying hu, run_sizeOf' w hk, re_cells]
      rw [e1, h2]
      rfl
    · exact hE.elim
  · exact hE.elim

theorem zeros_eq (z : List Value) (hz : 0 < z.length) : ∀ len : Nat, ((Array.range (len * z.toArray.size)).map (fun i => z.toArray[i % z.toArray.size]!)) = (List.replicate len z).flatten.toArray := by
  intro len
  apply Array.ext'
  simp only [Array.toList_map, Array.toList_range, List.size_toArray]
  induction len with
  | zero => simp
  | succ len ih =>
    rw [Nat.succ_mul, List.range_add, List.map_append, ih, List.replicate_succ', List.flatten_append]
    congr 1
    simp only [List.map_map, List.flatten_cons, List.flatten_nil, List.append_nil]
    apply List.ext_getElem
    · simp
    · intro i h1 h2
      simp at h1
      simp [Nat.add_mul_mod_self_right, Nat.mod_eq_of_lt h1, Nat.mul_add_mod_of_lt h1, h1]

theorem fine_buildSlice {o : Oper} {t : TypeId} {len : Nat} {parts : Array (Nat × Operand)} (hT : TR n st.heap.length m st.tmps a.tmps) (ho : o.op = .buildSlice t len parts) : Fine C O w0 kp hid ro n m st a w o := by
  intro Q hE
  unfold sop at hE; rw [ho] at hE
  simp only at hE
  split at hE
  · rename_i e ps hu hps
    split at hE
    · rename_i k z hk hz
      split at hE
      · rename_i hc
        obtain ⟨hc1, hc2, hc3⟩ := hc
        obtain ⟨cs, hcs, hq⟩ := Ev_lift hE
        obtain ⟨hz1, hz2⟩ := run_zero' w n st.heap.length m hz
        obtain ⟨hp1, hp2⟩ := evalParts_ok hT hps
        have hokz : SV.OkL st.heap.length m (List.replicate len z.cells).flatten := by
          rw [SV.OkL_iff]; intro v hv
          obtain ⟨l, hl, hv⟩ := List.mem_flatten.1 hv
          rw [List.eq_of_mem_replicate hl] at hv
          exact SV.OkL_iff.1 (ok_cells hz2) v hv
        obtain ⟨h1, h2⟩ := fill_ok (st := st) (n := n) (m := m) (place' := fun i => some (i * k, k)) (fun i x hx => hx) hcs hokz hp1
        have hag := En.bind_agree n st.heap.length w.heap.size 0 m
        refine ⟨_, hq, good_new (n := n) (obj := .cells (SV.reL (n.bind st.heap.length w.heap.size 0) cs).toArray e) 0 ?_ (y := .slice (some ⟨w.heap.size, 0, none⟩) len len) (by simp [SV.re]) (by simp [SV.Ok]) ⟨SV.OkL_mono (Nat.le_succ _) (Nat.le_refl _) _ h1, rfl⟩⟩
        rw [← SV.reL_agree hag cs h1]
        have e1 : (parts.map fun p => (p.1, a.eval p.2)).toList = ps.map fun p => (p.1, p.2.re n) := by rw [Array.toList_map]; exact hp2
        have e2 : ¬ (len * k > 2 ^ 24) := by omega
        have e3 : (SV.reL n z.cells).length = k := by rw [reL_length, hc2]
        have e4 := zeros_eq (SV.reL n z.cells) (by omega) len
        simp only [List.size_toArray, e3] at e4
        have e5 : SV.reL n (List.replicate len z.cells).flatten = (List.replicate len (SV.reL n z.cells)).flatten := by simp [SV.reL_eq, List.map_flatten, List.map_replicate]
        simp only [execOp, ho, Instr.buildSlice, Sem.run_bind, run_underlying hu, run_sizeOf' w hk, Result.andThen_ok, e2, if_false, Sem.run_pure]
        by_cases hl0 : len * k = 0
        · have hlen : len = 0 := by rcases Nat.mul_eq_zero.1 hl0 with h | h <;> omega
          subst hlen
          simp only [Nat.zero_mul, if_true, Sem.run_pure, Result.andThen_ok, e1, pure_bind, show (Array.range 0 : Array Nat) = #[] from Array.ext' (by simp), Array.map_empty]
          simp only [List.replicate_zero, List.flatten_nil] at e5 h2
          simp only [SV.reL] at h2
          rw [h2]
          simp [newRow]
          try rfl
        · simp only [hl0, if_false, Sem.run_bind, hz1, Result.andThen_ok, Sem.run_pure, re_cells, List.size_toArray, e3, e1]
          rw [e5] at h2
          rw [e4, h2]
          simp [newRow]
          try rfl
      · exact hE.elim
    · exact hE.elim
  · exact hE.elim

/-! ### Binary operations -/
theorem lit_zero (k : IntKind) : (K.int k).norm ((E.lit (.int k) 0).den n.Φ n.ρ) = 0 := by
  simp only [E.den, K.norm, wrap_wrap]; exact wrap_id (by cases k <;> decide)

theorem not_neg_of {k : IntKind} {e : E} (hc : (mkCmp .lss (.int k) e (.lit (.int k) 0)).den n.Φ n.ρ = 0) : ¬ (k.wrap (e.den n.Φ n.ρ) < 0) := by
  have h := of_decide_eq_false (den_eq_zero_of_cmp hc)
  rw [lit_zero] at h; exact h

theorem not_zero_of {k : IntKind} {e : E} (hc : (mkCmp .eql (.int k) e (.lit (.int k) 0)).den n.Φ n.ρ = 0) : ¬ (k.wrap (e.den n.Φ n.ρ) = 0) := by
  have h := den_eq_zero_of_cmp hc
  simp only [bcmp] at h
  rw [lit_zero] at h; simpa [K.norm] using h

theorem run_equal_func {P : Program} {t : TypeId} {ps rs : Array TypeId} {v : Bool} (hu : P.underlying t = some (.func ps rs v)) (f : Fn) (x y : Array Value) :
    (Op.equal t (.func f x y) .nilFunc).run P w = .ok false w ∧ (Op.equal t .nilFunc (.func f x y)).run P w = .ok false w ∧ (Op.equal t .nilFunc .nilFunc).run P w = .ok true w := by
  have h : ∀ d, (Op.equalIn (d + 1) t (.func f x y) .nilFunc).run P w = .ok false w ∧ (Op.equalIn (d + 1) t .nilFunc (.func f x y)).run P w = .ok false w ∧ (Op.equalIn (d + 1) t .nilFunc .nilFunc).run P w = .ok true w := fun d => by
    simp only [Op.equalIn, Sem.run_bind, run_underlying hu, Result.andThen_ok, Sem.run_pure, and_self]
  exact h 9999

theorem func_of {P : Program} {t : TypeId} (h : (match P.underlying t with | some (.func ..) => true | _ => false) = true) : ∃ ps rs v, P.underlying t = some (.func ps rs v) := by
  split at h
  · rename_i ps rs v hu; exact ⟨ps, rs, v, hu⟩
  · cases h
theorem fine_binOp {o : Oper} {op : BinOp} {t t2 : TypeId} {x y : Operand} (hT : TR n st.heap.length m st.tmps a.tmps) (ho : o.op = .binOp op t x y t2) : Fine C O w0 kp hid ro n m st a w o := by
  intro Q hE
  unfold sop at hE; rw [ho] at hE
  simp only at hE
  split at hE
  · rename_i u v hx hy
    obtain ⟨hu, hxe⟩ := eval_ok hT hx
    obtain ⟨hv, hye⟩ := eval_ok hT hy
    have hrun : ∀ {r : Value}, (eqGuard op t x y (u.re n) (v.re n)).run C.P w = .ok () w → (binOp op t (u.re n) (v.re n)).run C.P w = .ok r w → (execOp a.eval o).run C.P w = .ok (.value r) w := by
      intro r h1 h2
      simp only [execOp, ho, hxe, hye, Sem.run_bind, h1, Result.andThen_ok, h2, Sem.run_pure]
    unfold binS at hE
    split at hE
    · rename_i k e1 k2 e2
      obtain ⟨h1, h2⟩ := Ev_branch hE
      by_cases hc : (mkCmp .lss (.int k2) e2 (.lit (.int k2) 0)).den n.Φ n.ρ = 0
      · refine ⟨_, h2 hc, good_val (hrun (eqGuard_int w) ?_) (mkBin_under hu hv)⟩
        have h3 := not_neg_of hc
        simp only [SV.re, binOp, Op.shift]
        rw [if_neg h3, mkBin_den, den_bin]
        rfl
      · exact (h1 hc).elim
    · rename_i k e1 k2 e2
      obtain ⟨h1, h2⟩ := Ev_branch hE
      by_cases hc : (mkCmp .lss (.int k2) e2 (.lit (.int k2) 0)).den n.Φ n.ρ = 0
      · refine ⟨_, h2 hc, good_val (hrun (eqGuard_int w) ?_) (mkBin_under hu hv)⟩
        have h3 := not_neg_of hc
        simp only [SV.re, binOp, Op.shift]
        rw [if_neg h3, mkBin_den, den_bin]
        rfl
      · exact (h1 hc).elim
    · rename_i k e1 k2 e2
      split at hE
      · rename_i hk; subst hk
        obtain ⟨h1, h2⟩ := Ev_branch hE
        by_cases hc : (mkCmp .eql (.int k) e2 (.lit (.int k) 0)).den n.Φ n.ρ = 0
        · refine ⟨_, h2 hc, good_val (hrun (eqGuard_int w) ?_) (mkBin_under hu hv)⟩
          have h3 := not_zero_of hc
          simp only [SV.re, binOp, ne_eq, not_true_eq_false, if_false, Op.intDiv]
          rw [if_neg h3, mkBin_den, den_bin]
          rfl
        · exact (h1 hc).elim
      · exact hE.elim
    · rename_i k e1 k2 e2
      split at hE
      · rename_i hk; subst hk
        obtain ⟨h1, h2⟩ := Ev_branch hE
        by_cases hc : (mkCmp .eql (.int k) e2 (.lit (.int k) 0)).den n.Φ n.ρ = 0
        · refine ⟨_, h2 hc, good_val (hrun (eqGuard_int w) ?_) (mkBin_under hu hv)⟩
          have h3 := not_zero_of hc
          simp only [SV.re, binOp, ne_eq, not_true_eq_false, if_false, Op.intDiv]
          rw [if_neg h3, mkBin_den, den_bin]
          rfl
        · exact (h1 hc).elim
      · exact hE.elim
    iterate 7
      · rename_i k e1 k2 e2
        split at hE
        · rename_i hk; subst hk
          refine ⟨_, hE, good_val (hrun (eqGuard_int w) ?_) (mkBin_under hu hv)⟩
          simp only [SV.re]
          rw [int_add_ops w (by simp), mkBin_den, den_bin]
        · exact hE.elim
    iterate 6
      · rename_i k e1 k2 e2
        split at hE
        · rename_i hk; subst hk
          refine ⟨_, hE, good_val (hrun (eqGuard_int w) ?_) (mkCmp_under hu hv)⟩
          simp only [SV.re]
          rw [int_cmp_ops w (by simp), mkCmp_bool]; rfl
        · exact hE.elim
    iterate 6
      · split at hE
        · rename_i hu'
          refine ⟨_, hE, good_val (hrun ?_ ?_) rfl⟩
          · simp [eqGuard, SV.re]
          · refine (Sem.run_bind' C.P _ _ w).trans ?_
            have h1 := fun f x y => run_equal_func (w := w) hu' f x y
            simp only [SV.re]
            first | rw [(h1 _ _ _).1] | rw [(h1 _ _ _).2.1] | rw [(h1 (.func 0) #[] #[]).2.2]
            rfl
        · exact hE.elim
    · split at hE
      · rename_i e he
        obtain ⟨h1, h2⟩ := run_eql (n := n) w he hu hv
        exact ⟨_, hE, good_val (hrun (h2 x y).1 (h2 x y).2.2.1) h1⟩
      · exact hE.elim
    · split at hE
      · rename_i e he
        obtain ⟨h1, h2⟩ := run_eql (n := n) w he hu hv
        refine ⟨_, hE, good_val (hrun (h2 x y).2.1 ?_) (mkNot_under h1)⟩
        rw [(h2 x y).2.2.2]; simp only [SV.re, mkNot_den]
      · exact hE.elim
    · exact hE.elim
  · exact hE.elim
end

end Go.Sx

namespace Go.Sx
open Go.RowKit

section
variable {C : Ctx} {O : Owe} {st : St} {a : Act} {w0 w : World} {kp : Nat → Prop} {hid : List Nat} {ro : Nat} {n : En} {m : Nat}

/-! ### Slices of slices -/
theorem bound_ok {P : Program} {v : Value} {k : IntKind} {j y : Nat} {c : BoundsCode} (hv : v = .int k j) (hj : j ≤ y) : (Instr.sliceBound v y c).run P w = .ok j w := by
  subst hv
  have : (0 : Int) ≤ j ∧ (j : Int) ≤ y := by omega
  simp [Instr.sliceBound, asIntOf, this]

theorem run_slice {P : Program} {t e : TypeId} {b off len cap l h sz : Nat} {lo hi : Option Value} (hu : P.underlying t = some (.slice e)) (hsz : sizeOf? P e = some sz)
    (hlo : match lo with | none => l = 0 | some v => ∃ k, v = .int k l) (hhi : match hi with | none => h = len | some v => ∃ k, v = .int k h) (h1 : l ≤ h) (h2 : hi.isSome = true → h ≤ cap) :
    (Instr.sliceAt t (.slice (some ⟨b, off, none⟩) len cap) lo hi none).run P w = .ok (.slice (some (if cap = l then ⟨b, off, none⟩ else ⟨b, off + l * sz, none⟩)) (h - l) (cap - l)) w := by
  have hfin : ∀ x : Addr, x = ⟨b, off, none⟩ → (if cap = l then some x else (some x).map (·.add (l * sz))) = some (if cap = l then ⟨b, off, none⟩ else ⟨b, off + l * sz, none⟩) := by
    rintro x rfl; split <;> simp [addr_add]
  cases hi with
  | none =>
    subst hhi
    cases lo with
    | none =>
      subst hlo
      simp only [Instr.sliceAt, Sem.run_bind, run_underlying hu, Result.andThen_ok, Instr.slice, Instr.sliceBounds, Sem.run_pure, run_sizeOf' w hsz]
      rw [← hfin _ rfl]
    | some v =>
      obtain ⟨k, hk⟩ := hlo
      simp only [Instr.sliceAt, Sem.run_bind, run_underlying hu, Result.andThen_ok, Instr.slice, Instr.sliceBounds, Sem.run_pure, run_sizeOf' w hsz, bound_ok hk h1]
      rw [← hfin _ rfl]
  | some u =>
    obtain ⟨k', hk'⟩ := hhi
    cases lo with
    | none =>
      subst hlo
      simp only [Instr.sliceAt, Sem.run_bind, run_underlying hu, Result.andThen_ok, Instr.slice, Instr.sliceBounds, Sem.run_pure, run_sizeOf' w hsz, bound_ok hk' (h2 rfl)]
      rw [← hfin _ rfl]
    | some v =>
      obtain ⟨k, hk⟩ := hlo
      simp only [Instr.sliceAt, Sem.run_bind, run_underlying hu, Result.andThen_ok, Instr.slice, Instr.sliceBounds, Sem.run_pure, run_sizeOf' w hsz, bound_ok hk' (h2 rfl), bound_ok hk h1]
      rw [← hfin _ rfl]

theorem fine_slice {o : Oper} {t : TypeId} {x : Operand} {lo hi : Option Operand} (H : HR w0 kp hid ro n m st.heap w) (hT : TR n st.heap.length m st.tmps a.tmps) (ho : o.op = .slice t x lo hi none) : Fine C O w0 kp hid ro n m st a w o := by
  intro Q hE
  unfold sop at hE; rw [ho] at hE
  simp only at hE
  split at hE
  · rename_i v lov hiv hx hlo hhi
    obtain ⟨hv, hxe⟩ := eval_ok hT hx
    -- the bounds, as the model has them
    have hbd : ∀ {q : Option Operand} {qv : Option SV} {j d : Nat}, (match q with | none => some none | some l => (st.eval l).map some) = some qv → (match qv with | none => some d | some v => nat? v) = some j →
        (match q.map a.eval with | none => j = d | some v => ∃ k, v = .int k j) := by
      intro q qv j d hq hj
      cases q with
      | none => simp only [Option.some.injEq] at hq; subst hq; simp only [Option.some.injEq] at hj; exact hj.symm
      | some q =>
        simp only [Option.map_eq_some_iff] at hq
        obtain ⟨u, hu, rfl⟩ := hq
        simp only at hj
        obtain ⟨k, hk⟩ := nat?_re (n := n) hj
        exact ⟨k, by rw [(eval_ok hT hu).2, hk]⟩
    have hexec : ∀ {r : Value}, (Instr.sliceAt t (v.re n) (lo.map a.eval) (hi.map a.eval) none).run C.P w = .ok r w → (execOp a.eval o).run C.P w = .ok (.value r) w := by
      intro r hr
      simp only [execOp, ho, hxe, Sem.run_bind, Option.map_none, hr, Result.andThen_ok, Sem.run_pure]
    unfold sliceS at hE
    split at hE
    · rename_i e b off len cap hu
      split at hE
      · rename_i sz l mm hsz hl hm
        have hl' := hbd hlo hl
        have hm' := hbd hhi hm
        split at hE
        · rename_i c
          split at hE
          · rename_i hc
            obtain ⟨hc1, hc2, hc3⟩ := hc
            refine ⟨_, hE, good_val (hexec ?_) hv⟩
            simp only [SV.re]
            rw [run_slice hu hsz (l := l) (h := mm) hl' hm' hc1 (fun _ => hc2), if_neg (by omega)]
          · exact hE.elim
        · rename_i j
          split at hE
          · rename_i cs e' sz' hb
            have hor := H.blk b _ hb
            obtain ⟨_, rest, _, hlen⟩ := hor
            split at hE
            · rename_i hc
              obtain ⟨hs1, hs2, hs3, hc4, hc5, hc6⟩ := hc
              subst hs1; subst hs2
              have hs4 : mm = l := hs3
              subst hs4
              have hle : j + mm ≤ n.κ b := by
                have : (j + mm) * sz ≤ n.κ b * sz := by omega
                exact Nat.le_of_mul_le_mul_right this hc6
              refine ⟨_, hE, good_val (hexec ?_) hv⟩
              simp only [SV.re]
              rw [run_slice hu hsz (l := mm) (h := mm) hl' hm' (Nat.le_refl _) (fun _ => by omega)]
              congr 2
              · split <;> split <;> first | rfl | omega
              · omega
              · omega
            · split at hE
              · rename_i hc
                obtain ⟨rfl, hc2, hc3, hc4, hc5, hc6⟩ := hc
                have hle : j + mm ≤ n.κ b := by
                  have : (j + mm) * sz ≤ n.κ b * sz := by omega
                  exact Nat.le_of_mul_le_mul_right this hc6
                have hle' : j + len ≤ n.κ b := by
                  have : (j + len) * sz ≤ n.κ b * sz := by omega
                  exact Nat.le_of_mul_le_mul_right this hc6
                refine ⟨_, hE, good_val (hexec ?_) hv⟩
                simp only [SV.re]
                rw [run_slice hu hsz (l := l) (h := mm) hl' hm' hc2 (fun _ => by omega), if_neg (by omega)]
                congr 2
                omega
              · exact hE.elim
          · exact hE.elim
      · exact hE.elim
    · exact hE.elim
  · exact hE.elim

/-! ### Maps -/
/-- Entries that stand for entries. -/
def EntR (n : En) (ents : List MapEntry) (es : List (SV × SV)) : Prop := ents.map (fun e => (e.key, e.val)) = es.map fun p => (p.1.re n, p.2.re n)

theorem place_ok {q : IntKind} {ke : E} {Q : (Nat → Int) → Option Nat → Prop} : ∀ {es : List (SV × SV)} {ents : List MapEntry} {i : Nat}, EntR n ents es → (place q ke es i).Ev n.Φ O n.ρ Q →
    ∃ r, Q n.ρ r ∧ (match r with
      | none => Instr.findNow (.int q) ((SV.int q ke).re n) ents i = some none
      | some j => ∃ v, i ≤ j ∧ Instr.findNow (.int q) ((SV.int q ke).re n) ents i = some (some (j, v)) ∧ ∃ p, es[j - i]? = some p ∧ p.1.re n = (SV.int q ke).re n)
  | [], [], i, _, h => ⟨none, h, rfl⟩
  | [], _ :: _, i, he, _ => by simp [EntR] at he
  | _ :: _, [], i, he, _ => by simp [EntR] at he
  | (k', v) :: es, en :: ents, i, he, h => by
    simp only [EntR, List.map_cons, List.cons.injEq, Prod.mk.injEq] at he
    obtain ⟨⟨hk, hv⟩, he⟩ := he
    cases k' <;> simp only [place] at h <;> first | (exact h.elim) | skip
    · rename_i qk' eb
      split at h
      · rename_i hq; subst hq
        obtain ⟨h1, h2⟩ := Ev_branch h
        have hkey : en.key = .int q (q.wrap (eb.den n.Φ n.ρ)) := by rw [hk]; rfl
        by_cases hc : (mkCmp .eql (.int q) ke eb).den n.Φ n.ρ = 0
        · have hne : (q.wrap (ke.den n.Φ n.ρ) == q.wrap (eb.den n.Φ n.ρ)) = false := den_eq_zero_of_cmp hc
          obtain ⟨r, hr1, hr2⟩ := place_ok he (h2 hc)
          refine ⟨r, hr1, ?_⟩
          cases r with
          | none =>
            simp only [Instr.findNow, hkey, SV.re, Instr.sameNow, if_true, hne]
            simpa only [SV.re] using hr2
          | some j =>
            obtain ⟨v', hj, hf, p, hp, hpe⟩ := hr2
            refine ⟨v', by omega, ?_, p, ?_, hpe⟩
            · simp only [Instr.findNow, hkey, SV.re, Instr.sameNow, if_true, hne]
              simpa only [SV.re] using hf
            · rw [show j - i = (j - (i + 1)) + 1 by omega]; simpa using hp
        · have heq : (q.wrap (ke.den n.Φ n.ρ) == q.wrap (eb.den n.Φ n.ρ)) = true := by
            have := mkCmp_bool n.Φ n.ρ .eql (.int q) ke eb
            rw [show ((mkCmp .eql (.int q) ke eb).den n.Φ n.ρ != 0) = true by simpa using hc] at this
            exact this.symm
          refine ⟨some i, h1 hc, en.val, Nat.le_refl _, ?_, (.int q eb, v), by simp, ?_⟩
          · simp only [Instr.findNow, hkey, SV.re, Instr.sameNow, if_true, heq]
          · simp only [SV.re]; rw [eq_of_beq heq]
      · exact h.elim

theorem look_ok {q : IntKind} {ke : E} {Q : (Nat → Int) → Option SV → Prop} {N : Nat} : ∀ {es : List (SV × SV)} {ents : List MapEntry} {i : Nat}, EntR n ents es → (∀ p ∈ es, p.2.Ok N m) → (look q ke es).Ev n.Φ O n.ρ Q →
    ∃ r, Q n.ρ r ∧ (match r with
      | none => Instr.findNow (.int q) ((SV.int q ke).re n) ents i = some none
      | some v => v.Ok N m ∧ ∃ j, Instr.findNow (.int q) ((SV.int q ke).re n) ents i = some (some (j, v.re n)))
  | [], [], i, _, _, h => ⟨none, h, rfl⟩
  | [], _ :: _, i, he, _, _ => by simp [EntR] at he
  | _ :: _, [], i, he, _, _ => by simp [EntR] at he
  | (k', v) :: es, en :: ents, i, he, hok, h => by
    simp only [EntR, List.map_cons, List.cons.injEq, Prod.mk.injEq] at he
    obtain ⟨⟨hk, hv⟩, he⟩ := he
    cases k' <;> simp only [look] at h <;> first | (exact h.elim) | skip
    · rename_i qk' eb
      split at h
      · rename_i hq; subst hq
        obtain ⟨h1, h2⟩ := Ev_branch h
        have hkey : en.key = .int q (q.wrap (eb.den n.Φ n.ρ)) := by rw [hk]; rfl
        by_cases hc : (mkCmp .eql (.int q) ke eb).den n.Φ n.ρ = 0
        · have hne : (q.wrap (ke.den n.Φ n.ρ) == q.wrap (eb.den n.Φ n.ρ)) = false := den_eq_zero_of_cmp hc
          obtain ⟨r, hr1, hr2⟩ := look_ok (i := i + 1) he (fun p hp => hok p (List.mem_cons_of_mem _ hp)) (h2 hc)
          refine ⟨r, hr1, ?_⟩
          cases r with
          | none =>
            simp only [Instr.findNow, hkey, SV.re, Instr.sameNow, if_true, hne]
            simpa only [SV.re] using hr2
          | some j =>
            obtain ⟨hok', j', hf⟩ := hr2
            refine ⟨hok', j', ?_⟩
            simp only [Instr.findNow, hkey, SV.re, Instr.sameNow, if_true, hne]
            simpa only [SV.re] using hf
        · have heq : (q.wrap (ke.den n.Φ n.ρ) == q.wrap (eb.den n.Φ n.ρ)) = true := by
            have := mkCmp_bool n.Φ n.ρ .eql (.int q) ke eb
            rw [show ((mkCmp .eql (.int q) ke eb).den n.Φ n.ρ != 0) = true by simpa using hc] at this
            exact this.symm
          refine ⟨some v, h1 hc, hok _ (List.mem_cons_self ..), i, ?_⟩
          simp only [Instr.findNow, hkey, SV.re, Instr.sameNow, if_true, heq, hv]
      · exact h.elim

theorem run_checkKey {P : Program} {t : TypeId} {k : IntKind} (hu : P.underlying t = some (.int k)) (b : Bool) (q : IntKind) (x : Int) : (Instr.checkKey b 10000 t (.int q x)).run P w = .ok () w := by
  have h : ∀ d, (Instr.checkKey b (d + 1) t (.int q x)).run P w = .ok () w := fun d => by
    simp only [Instr.checkKey, Sem.run_bind, run_underlying hu, Result.andThen_ok, Sem.run_pure]
  exact h 9999

/-- 'findNow' looks at an integer's value and kind alone, whatever the key's kind is told to be. -/
theorem findNow_kind (q k : IntKind) (v : Value) : ∀ (l : List MapEntry) (i : Nat), Instr.findNow (.int k) v l i = Instr.findNow (.int q) v l i
  | [], _ => rfl
  | e :: l, i => by
    have hs : Instr.sameNow (.int k) v e.key = Instr.sameNow (.int q) v e.key := by cases v <;> cases e.key <;> rfl
    simp only [Instr.findNow, hs, findNow_kind q k v l (i + 1)]

theorem run_getMap {P : Program} {r : Nat} {ents : Array MapEntry} {cl : Nat} (h : w.heap[r]? = some (.map ents cl)) : (getObj r).run P w = .ok (.map ents cl) w := by simp [getObj, Sem.run, h]

theorem int_of {P : Program} {t : TypeId} (h : isIntTy P t = true) : ∃ k, P.underlying t = some (.int k) := by
  unfold isIntTy at h
  split at h
  · rename_i k hu; exact ⟨k, hu⟩
  · cases h

theorem fine_lookup {o : Oper} {t : TypeId} {x y : Operand} {ok : Bool} (H : HR w0 kp hid ro n m st.heap w) (hT : TR n st.heap.length m st.tmps a.tmps) (ho : o.op = .lookup t x y ok) : Fine C O w0 kp hid ro n m st a w o := by
  intro Q hE
  unfold sop at hE; rw [ho] at hE
  simp only at hE
  split at hE
  · rename_i kt et r kk ke hu hx hy
    split at hE
    case isFalse => exact hE.elim
    case isTrue hint =>
      obtain ⟨ik, hik⟩ := int_of hint
      split at hE
      · rename_i es cl z hr hz
        obtain ⟨hok, ents, cl', hw, hents⟩ := H.blk r _ hr
        obtain ⟨hxv, hxe⟩ := eval_ok hT hx
        obtain ⟨hyv, hye⟩ := eval_ok hT hy
        obtain ⟨hz1, hz2⟩ := run_zero' w n st.heap.length m hz
        rw [T.Ev_bind] at hE
        obtain ⟨res, hq, hfind⟩ := look_ok (i := 0) (N := st.heap.length) (m := m) hents (fun p hp => (hok p hp).2) hE
        have hexec : ∀ {v : Value} {b : Bool}, (Instr.findNow (.int kk) ((SV.int kk ke).re n) ents.toList 0 = some (if b then some (0, v) else none) ∨ ∃ j, b = true ∧ Instr.findNow (.int kk) ((SV.int kk ke).re n) ents.toList 0 = some (some (j, v))) → (b = false → v = z.re n) →
            (execOp a.eval o).run C.P w = .ok (.value (if ok then .tuple #[v, .bool b] else v)) w := by
          intro v b hf hv
          simp only [execOp, ho, hxe, hye, SV.re, Instr.lookup, Sem.run_bind, run_underlying hu, Result.andThen_ok, run_getMap hw, Sem.run_pure, run_checkKey hik, Instr.findKey, run_underlying hik]
          rw [findNow_kind kk ik]
          rcases hf with hf | ⟨j, hb, hf⟩
          · simp only [SV.re] at hf; rw [hf]
            cases b with
            | true => simp
            | false => simp [hz1, hv rfl]
          · simp only [SV.re] at hf; rw [hf]; subst hb; simp
        cases res with
        | none =>
          refine ⟨_, hq, good_val ?_ ?_⟩
          · rw [hexec (v := z.re n) (b := false) (.inl (by simpa using hfind)) (fun _ => rfl)]
            cases ok <;> simp [SV.re, SV.reL, E.den, K.norm]
          · cases ok
            · exact hz2
            · exact ⟨hz2, rfl, trivial⟩
        | some v =>
          obtain ⟨hv, j, hf⟩ := hfind
          refine ⟨_, hq, good_val ?_ ?_⟩
          · rw [hexec (v := v.re n) (b := true) (.inr ⟨j, rfl, hf⟩) (fun h => by cases h)]
            cases ok <;> simp [SV.re, SV.reL, E.den, K.norm]
          · cases ok
            · exact hv
            · exact ⟨hv, rfl, trivial⟩
      · exact hE.elim
  · rename_i kt et r kc hu hx hy
    split at hE
    rotate_left
    · exact hE.elim
    rename_i ks es hr
    split at hE
    rotate_left
    · exact hE.elim
    rename_i ks' k keys hk hlk hlks
    split at hE
    rotate_left
    · exact hE.elim
    rename_i hc
    obtain ⟨rfl, hnd⟩ := hc
    split at hE
    rotate_left
    · exact hE.elim
    rename_i v hv
    obtain ⟨hok, ents, cl', hw, hents⟩ := H.blk r _ hr
    obtain ⟨hxv, hxe⟩ := eval_ok hT hx
    obtain ⟨hyv, hye⟩ := eval_ok hT hy
    obtain ⟨hkre, hklen⟩ := litKey_re (n := n) hlk
    obtain ⟨hk1, hk2, hk3⟩ := litKeys_facts (n := n) hlks
    obtain ⟨_, _, _, hall⟩ := flatKey_facts hk
    obtain ⟨p, hp, hpk, hpv⟩ := lookS_mem hv
    -- the keys that lie there
    have hkeys : (ents.toList.map (·.key)).Perm (keys.map fun l => Value.agg (cellsV ks' l).toArray) := by
      have h1 := hents.map Prod.fst
      simp only [List.map_map] at h1
      rw [← hk1]
      simpa [Function.comp_def] using h1
    obtain ⟨ls, hls, hperm⟩ : ∃ ls : List (List Int), ents.toList.map (·.key) = ls.map (fun l => Value.agg (cellsV ks' l).toArray) ∧ ls.Perm keys := by
      exact perm_map hkeys keys rfl
    have hlens : ∀ l ∈ ls, l.length = ks'.length := fun l hl => hk2 l (hperm.mem_iff.1 hl)
    rcases run_findKey_flat (P := C.P) w hk hklen ents.toList ls hls hlens with ⟨h1, _⟩ | ⟨j, e, h1, h2, h3⟩
    · exfalso
      apply h1
      refine hperm.mem_iff.2 ?_
      have : some k ∈ es.map (fun p => litKey ks' p.1) := List.mem_map.2 ⟨p, hp, hpk⟩
      rw [hk3] at this
      obtain ⟨k', hk', e⟩ := List.mem_map.1 this
      cases e; exact hk'
    · -- the entry is p
      have hmem : (e.key, e.val) ∈ ents.toList.map (fun e => (e.key, e.val)) := List.mem_map.2 ⟨e, h1, rfl⟩
      rw [hents.mem_iff] at hmem
      obtain ⟨q, hq, hqe⟩ := List.mem_map.1 hmem
      simp only [Prod.mk.injEq] at hqe
      have hqk : litKey ks' q.1 = some k := by
        have h4 : litKey ks' q.1 ∈ es.map (fun p => litKey ks' p.1) := List.mem_map.2 ⟨q, hq, rfl⟩
        rw [hk3] at h4
        obtain ⟨k', hk', e4⟩ := List.mem_map.1 h4
        obtain ⟨h5, h6⟩ := litKey_re (n := n) e4.symm
        rw [h5, h2] at hqe
        have h7 : cellsV ks' k' = cellsV ks' k := by
          have := hqe.1
          simp only [Value.agg.injEq] at this
          exact congrArg Array.toList this
        rw [← e4, cellsV_inj hall h6 hklen h7]
      have hqp := keys_apart hk3 hnd q hq p hp hqk hpk
      subst hqp
      have hvv : e.val = v.re n := by rw [← hqe.2, hpv]
      have hexec : (execOp a.eval o).run C.P w = .ok (.value (if ok then .tuple #[v.re n, .bool true] else v.re n)) w := by
        simp only [execOp, ho, hxe, hye, SV.re, Instr.lookup, Sem.run_bind, run_underlying hu, Result.andThen_ok, run_getMap hw, Sem.run_pure]
        have hkre' : (Value.agg (SV.reL n kc).toArray) = .agg (cellsV ks' k).toArray := hkre
        rw [hkre']
        simp only [run_checkKey_flat w hk _ hklen, h3, Result.andThen_ok, Sem.run_bind, Sem.run_pure, hvv]
      refine ⟨_, hE, good_val ?_ ?_⟩
      · rw [hexec]
        cases ok <;> simp [SV.re, SV.reL, E.den, K.norm]
      · have hvok := (hok q hq).2
        rw [hpv] at hvok
        cases ok
        · exact hvok
        · exact ⟨hvok, rfl, trivial⟩
  · exact hE.elim

theorem run_setMap {P : Program} {r : Nat} {ents ents' : Array MapEntry} {cl cl' : Nat} (h : w.heap[r]? = some (.map ents cl)) : (setObj r (.map ents' cl')).run P w = .ok () (w.putObj r (.map ents' cl')) := by simp [setObj, Sem.run, h, World.putObj]

theorem putObj_turned {r : Nat} {o x : Obj} (h : w.heap[r]? = some o) : Turned w (w.putObj r x) r x :=
  ⟨rfl, rfl, rfl, by simp, World.putObj_heap_same (Array.getElem?_eq_some_iff.1 h).1, fun _ hk => World.putObj_heap_other hk⟩

theorem fine_insert {o : Oper} {t : TypeId} {x y z : Operand} (H : HR w0 kp hid ro n m st.heap w) (hT : TR n st.heap.length m st.tmps a.tmps) (ho : o.op = .insert t x y z ∨ o.op = .mapUpdate t x y z) : Fine C O w0 kp hid ro n m st a w o := by
  intro Q hE
  have hE' : (match C.P.underlying t, st.eval x, st.eval y, st.eval z with
    | some (.map kt _), some (.map r), some (.int kk ke), some v =>
      if ro ≤ r ∧ isIntTy C.P kt = true then
        match st.heap[r]? with
        | some (.map es cl) => (place kk ke es 0).bind (inserted r es cl kk ke v)
        | _ => T.fail "map"
      else .fail "map"
    | _, _, _, _ => .fail "insert").Ev n.Φ O n.ρ Q := by
    rcases ho with ho | ho <;> (unfold sop at hE; rw [ho] at hE; exact hE)
  clear hE
  split at hE'
  · rename_i kt et r kk ke v hu hx hy hz
    split at hE'
    case isFalse => exact hE'.elim
    case isTrue hro =>
      obtain ⟨hro1, hint⟩ := hro
      obtain ⟨ik, hik⟩ := int_of hint
      split at hE'
      · rename_i es cl hr
        obtain ⟨hok, ents, cl', hw, hents⟩ := H.blk r _ hr
        obtain ⟨hxv, hxe⟩ := eval_ok hT hx
        obtain ⟨hyv, hye⟩ := eval_ok hT hy
        obtain ⟨hzv, hze⟩ := eval_ok hT hz
        rw [T.Ev_bind] at hE'
        obtain ⟨res, hq, hfind⟩ := place_ok hents hE'
        have hexec : ∀ {w' : World}, (Instr.mapUpdate t (.map (some (n.ε r))) ((SV.int kk ke).re n) (v.re n)).run C.P w = .ok () w' → (execOp a.eval o).run C.P w = .ok .skip w' := by
          intro w' h
          rcases ho with ho | ho <;> simp only [execOp, ho, hxe, hye, hze, SV.re] <;> simp only [SV.re] at h <;> simp only [Sem.run_bind, h, Result.andThen_ok, Sem.run_pure]
        cases res with
        | none =>
          refine ⟨_, hq, good_upd (hexec (w' := w.putObj (n.ε r) (.map (ents.push { key := (SV.int kk ke).re n, val := v.re n, born := cl' }) (cl' + 1))) ?_) hr rfl hro1 (putObj_turned hw) ⟨?_, _, _, rfl, ?_⟩⟩
          · simp only at hfind
            simp only [Instr.mapUpdate, Sem.run_bind, run_underlying hu, Result.andThen_ok, run_getMap hw]
            simp only [SV.re] at hfind ⊢
            simp only [run_checkKey hik, Instr.findKey, Sem.run_bind, run_underlying hik, Result.andThen_ok]
            rw [findNow_kind kk ik, hfind]
            simp only [Sem.run_pure, Result.andThen_ok]
            exact run_setMap hw
          · intro p hp
            rcases List.mem_append.1 hp with hp | hp
            · exact hok p hp
            · simp only [List.mem_singleton] at hp; subst hp; exact ⟨hyv, hzv⟩
          · simp [hents]
        | some i =>
          obtain ⟨vv, _, hf, p, hp, hpe⟩ := hfind
          simp only [Nat.sub_zero] at hp
          have hi : i < ents.size := by
            have h1 := (List.getElem?_eq_some_iff.1 hp).1
            have h2 := congrArg List.length hents
            simp at h2; omega
          have hkey : (ents[i]).key = (SV.int kk ke).re n := by
            have h2 := congrArg (·[i]?) hents
            simp only [List.getElem?_map, hp, Option.map_some] at h2
            rw [show ents.toList[i]? = some ents[i] by simp [hi]] at h2
            simp only [Option.map_some, Option.some.injEq, Prod.mk.injEq] at h2
            rw [h2.1, hpe]
          refine ⟨_, hq, good_upd (hexec (w' := w.putObj (n.ε r) (.map (ents.modify i fun e => { e with key := (SV.int kk ke).re n, val := v.re n }) cl')) ?_) hr rfl hro1 (putObj_turned hw) ⟨?_, _, _, rfl, ?_⟩⟩
          · simp only [Instr.mapUpdate, Sem.run_bind, run_underlying hu, Result.andThen_ok, run_getMap hw]
            simp only [SV.re] at hf hkey ⊢
            simp only [run_checkKey hik, Instr.findKey, Sem.run_bind, run_underlying hik, Result.andThen_ok]
            rw [findNow_kind kk ik, hf]
            simp only [Sem.run_pure, Result.andThen_ok, Array.getElem?_eq_getElem hi, Option.map_some, Option.getD_some, hkey, Instr.keyThatStays, Instr.sameBits, beq_self_eq_true, Bool.and_self, if_true, Sem.run_bind]
            exact run_setMap hw
          · intro p' hp'
            rw [List.mem_iff_getElem?] at hp'
            obtain ⟨j, hj⟩ := hp'
            rw [List.getElem?_modify] at hj
            cases hes : es[j]? with
            | none => simp [hes] at hj
            | some q =>
              simp only [hes, Option.map_eq_map, Option.map_some, Option.some.injEq] at hj
              have hq' := hok q (List.mem_of_getElem? hes)
              subst hj
              split
              · exact ⟨hq'.1, hzv⟩
              · exact hq'
          · apply List.ext_getElem?
            intro j
            have h2 := congrArg (·[j]?) hents
            simp only [List.getElem?_map] at h2
            simp only [Array.toList_modify, List.getElem?_map, List.getElem?_modify]
            by_cases hij : i = j
            · subst hij
              rw [hp]
              rw [show ents.toList[i]? = some ents[i] by simp [hi]]
              simp [hpe]
            · simp only [hij, if_false, Option.map_id', id_eq]
              simpa using h2
      · exact hE'.elim
  · exact hE'.elim
end

end Go.Sx

namespace Go.Sx
open Go.RowKit

section
variable {C : Ctx} {O : Owe} {st : St} {a : Act} {w0 w : World} {kp : Nat → Prop} {hid : List Nat} {ro : Nat} {n : En} {m : Nat} {h : List SO}

/-! ### The least, the greatest -/
theorem minmax_ok {mx : Bool} {N : Nat} {P : Program} {Q : (Nat → Int) → SV → Prop} : ∀ {l : List SV} {v : SV}, v.Ok N m → SV.OkL N m l → (minmax mx v l).Ev n.Φ O n.ρ Q →
    ∃ r, Q n.ρ r ∧ r.Ok N m ∧ ((SV.reL n l).foldlM (if mx then Builtin.max2 else Builtin.min2) (v.re n)).run P w = .ok (r.re n) w
  | [], v, hv, _, h => by
    have h' : Q n.ρ v := by cases v <;> exact h
    exact ⟨v, h', hv, rfl⟩
  | x :: l, v, hv, hl, h => by
    cases v <;> first | (simp only [minmax] at h; exact False.elim h) | skip
    rename_i k e
    cases x <;> first | (simp only [minmax] at h; exact False.elim h) | skip
    rename_i k' e'
    simp only [minmax] at h
    split at h
    · rename_i hk; subst hk
      obtain ⟨r, h1, h2, h3⟩ := minmax_ok (P := P) (v := .int k (mkIte (.int k) (mkCmp (if mx then .gtr else .lss) (.int k) e' e) e' e)) (mkIte_under (mkCmp_under hl.1 hv) hl.1 hv) hl.2 h
      refine ⟨r, h1, h2, ?_⟩
      simp only [SV.reL, List.foldlM_cons, Sem.run_bind]
      have hstep : ((if mx then Builtin.max2 else Builtin.min2) (SV.re n (.int k e)) (SV.re n (.int k e'))).run P w = .ok (SV.re n (.int k (mkIte (.int k) (mkCmp (if mx then .gtr else .lss) (.int k) e' e) e' e))) w := by
        have hi := mkIte_den n.Φ n.ρ (.int k) (mkCmp (if mx then .gtr else .lss) (.int k) e' e) e' e
        simp only [norm_int] at hi
        have hb := mkCmp_bool n.Φ n.ρ (if mx then .gtr else .lss) (.int k) e' e
        simp only [norm_int] at hb
        cases mx
        · simp only [Bool.false_eq_true, if_false, SV.re, Builtin.min2, Sem.run_pure] at *
          rw [hi]
          congr 2
          by_cases hc : (mkCmp .lss (.int k) e' e).den n.Φ n.ρ = 0
          · have hd : ¬ (k.wrap (e'.den n.Φ n.ρ) < k.wrap (e.den n.Φ n.ρ)) := of_decide_eq_false (hb.symm.trans (by simp [hc]))
            rw [if_pos hc, if_neg hd]
          · have hd : k.wrap (e'.den n.Φ n.ρ) < k.wrap (e.den n.Φ n.ρ) := of_decide_eq_true (hb.symm.trans (by simp [hc]))
            rw [if_neg hc, if_pos hd]
        · simp only [if_true, SV.re, Builtin.max2, Sem.run_pure] at *
          rw [hi]
          congr 2
          by_cases hc : (mkCmp .gtr (.int k) e' e).den n.Φ n.ρ = 0
          · have hd : ¬ (k.wrap (e'.den n.Φ n.ρ) > k.wrap (e.den n.Φ n.ρ)) := of_decide_eq_false (hb.symm.trans (by simp [hc]))
            rw [if_pos hc, if_neg hd]
          · have hd : k.wrap (e'.den n.Φ n.ρ) > k.wrap (e.den n.Φ n.ρ) := of_decide_eq_true (hb.symm.trans (by simp [hc]))
            rw [if_neg hc, if_pos hd]
      rw [hstep]
      exact h3
    · exact h.elim

/-! ### append -/
theorem growBy_le : ∀ (r newLen c : Nat), Builtin.growBy newLen r c ≤ 2 ^ r * (c + 192)
  | 0, newLen, c => by simp [Builtin.growBy]
  | r + 1, newLen, c => by
    simp only [Builtin.growBy]
    have hp : 1 ≤ 2 ^ r := Nat.one_le_two_pow
    split
    · have : c ≤ 2 ^ (r + 1) * (c + 192) := by
        rw [Nat.pow_succ]
        calc c ≤ 1 * (c + 192) := by omega
          _ ≤ 2 ^ r * 2 * (c + 192) := Nat.mul_le_mul_right _ (by omega)
      exact this
    · refine Nat.le_trans (growBy_le r newLen _) ?_
      rw [Nat.pow_succ, Nat.mul_assoc]
      exact Nat.mul_le_mul_left _ (by omega)

theorem nextcap_le (need cap : Nat) (h : cap < need) : Builtin.nextslicecap need cap ≤ 16 * (need + 192) := by
  unfold Builtin.nextslicecap
  split
  · omega
  · split
    · omega
    · have := growBy_le 4 need cap
      omega

theorem elems_ok {P : Program} (H : HR w0 kp hid ro n m h w) {sz : Nat} {x : SV} {xs : List SV} (he : elems? h sz x = some xs) :
    SV.OkL h.length m xs ∧ ∃ (base : Option Addr) (len cap : Nat), x.re n = .slice base len cap ∧ xs.length = len * sz ∧ (Builtin.firstCells sz len (x.re n)).run P w = .ok (SV.reL n xs).toArray w := by
  unfold elems? at he
  split at he
  · cases he
    exact ⟨trivial, none, 0, 0, rfl, by simp, rfl⟩
  · rename_i b off len cap
    split at he
    · rename_i cs hcs
      split at he
      · rename_i hle; cases he
        obtain ⟨h1, rest, e, h2⟩ := H.read hcs
        refine ⟨okL_seg h1 _ _, _, len, _, rfl, by simp [seg_eq]; omega, ?_⟩
        simp only [SV.re, Builtin.firstCells]
        rw [run_loadCells_seg h2 (by simp [reL_length]; omega), reL_seg]
        congr 2
        simp only [seg_eq]
        rw [List.drop_append_of_le_length (by rw [reL_length]; omega), List.take_append_of_le_length (by simp [reL_length]; omega)]
      · cases he
    · cases he
  · cases he

/-- The same objects, another number of draws. -/
theorem HR.drawn (H : HR w0 kp hid ro n m h w) (d : Nat) : HR w0 kp hid ro n m h { w with drawn := d } :=
  ⟨H.os, H.tape, H.output, H.size, H.kept, H.hids, H.nodup, H.blk, H.inj, H.own, H.nohid⟩

/-- An object under a new number; under the old one it is forgotten. -/
theorem HR.move (H : HR w0 kp hid ro n m h w) {b : Nat} {o : SO} (hb : h[b]? = some o) (ha : o.alive = true) (hro : ro ≤ b) :
    HR w0 kp hid ro (n.bind h.length (n.ε b) (n.κ b)) m (h.set b .dead ++ [o]) w := by
  have hlt := (List.getElem?_eq_some_iff.1 hb).1
  have hlen : (h.set b .dead ++ [o]).length = h.length + 1 := by simp
  have hag := En.bind_agree n h.length (n.ε b) (n.κ b) m
  have hcase : ∀ {i : Nat} {q : SO}, (h.set b .dead ++ [o])[i]? = some q → q.alive = true → (i < h.length ∧ i ≠ b ∧ h[i]? = some q) ∨ (i = h.length ∧ q = o) := by
    intro i q hi hq
    rcases Nat.lt_trichotomy i h.length with hl | heq | hgt
    · rw [List.getElem?_append_left (by simpa using hl), List.getElem?_set] at hi
      split at hi
      · simp only [hlt, if_true, Option.some.injEq] at hi; subst hi; simp [SO.alive] at hq
      · rename_i e; exact .inl ⟨hl, fun e' => e e'.symm, hi⟩
    · right; subst heq
      rw [List.getElem?_append_right (by simp)] at hi
      simp at hi; exact ⟨rfl, hi.symm⟩
    · rw [List.getElem?_eq_none (by simp; omega)] at hi; cases hi
  refine ⟨H.os, H.tape, H.output, H.size, H.kept, H.hids, H.nodup, ?_, ?_, ?_, ?_⟩
  · intro i q hi
    rw [hlen]
    by_cases hq : q.alive = true
    · rcases hcase hi hq with ⟨hl, _, hi'⟩ | ⟨rfl, rfl⟩
      · rw [← hag.ε i hl, ← hag.κ i hl]; exact (H.blk i q hi').mono (by omega) (Nat.le_refl _) hag
      · rw [En.bind_ε_same, En.bind_κ_same]; exact (H.blk b _ hb).mono (by omega) (Nat.le_refl _) hag
    · cases q <;> simp [SO.alive] at hq
      trivial
  · intro i j oi oj hi hj hai haj he
    rcases hcase hi hai with ⟨hl, hne, hi'⟩ | ⟨rfl, rfl⟩ <;> rcases hcase hj haj with ⟨hl', hne', hj'⟩ | ⟨rfl, rfl⟩
    · rw [← hag.ε i hl, ← hag.ε j hl'] at he; exact H.inj i j oi oj hi' hj' hai haj he
    · rw [← hag.ε i hl, En.bind_ε_same] at he; exact absurd (H.inj i b oi _ hi' hb hai ha he) hne
    · rw [← hag.ε j hl', En.bind_ε_same] at he; exact absurd (H.inj j b oj _ hj' hb haj ha he.symm) hne'
    · rfl
  · intro i q hi hq hr
    rcases hcase hi hq with ⟨hl, _, hi'⟩ | ⟨rfl, rfl⟩
    · rw [← hag.ε i hl]; exact H.own i q hi' hq hr
    · rw [En.bind_ε_same]; exact H.own b _ hb ha hro
  · intro i q hi hq
    rcases hcase hi hq with ⟨hl, _, hi'⟩ | ⟨rfl, rfl⟩
    · rw [← hag.ε i hl]; exact H.nohid i q hi' hq
    · rw [En.bind_ε_same]; exact H.nohid b _ hb ha

theorem isSliceTy_of {P : Program} {t : TypeId} (h : isSliceTy P t = true) : ∃ e, P.underlying t = some (.slice e) := by
  unfold isSliceTy at h; split at h
  · exact ⟨_, ‹_›⟩
  · cases h

theorem zeroCells_length (z : Array Value) (k : Nat) : (Builtin.zeroCells z k).size = k * z.size := by simp [Builtin.zeroCells]

/-- Grown into a new array. -/
theorem run_append_new {P : Program} {t t2 e e2 : TypeId} {sz by_ : Nat} {z : SV} {base base' : Option Addr} {len cap leny capy : Nat} {vx vy : Value} {xs ys : List Value}
    (hu : P.underlying t = some (.slice e)) (hu2 : P.underlying t2 = some (.slice e2)) (hsz : sizeOf? P e = some sz) (hby : (P.info? e).map (·.bytes) = some by_) (hz : (zeroValue e).run P w = .ok (z.re n) w)
    (hz' : ∀ w' : World, (zeroValue e).run P w' = .ok (z.re n) w')
    (hx : vx = .slice base len cap) (hy : vy = .slice base' leny capy) (hfx : ∀ d, (Builtin.firstCells sz len vx).run P { w with drawn := d } = .ok xs.toArray { w with drawn := d })
    (hfy : ∀ d, (Builtin.firstCells sz leny vy).run P { w with drawn := d } = .ok ys.toArray { w with drawn := d }) (hb1 : by_ ≤ few) (hb2 : 0 < by_) (hfull : cap < len + leny) (hfew : len + leny ≤ few) :
    ∃ newCap, len + leny ≤ newCap ∧ (Builtin.append_ #[t, t2] t #[vx, vy]).run P w =
      .ok (.slice (some ⟨w.heap.size, 0, none⟩) (len + leny) newCap) (World.alloc { w with drawn := w.drawn + 1 } (.cells (xs.toArray ++ ys.toArray ++ Builtin.zeroCells (z.re n).cells (newCap - (len + leny))) e)) := by
  obtain ⟨info, hinfo, hbytes⟩ : ∃ i, P.info? e = some i ∧ i.bytes = by_ := by
    cases hi : P.info? e with
    | none => simp [hi] at hby
    | some i => exact ⟨i, rfl, by simpa [hi] using hby⟩
  have hti : ∀ w' : World, (typeInfo e).run P w' = .ok info w' := fun w' => by simp [typeInfo, hinfo]
  refine ⟨(Question.appendCap (len + leny) cap e).cut (w.tape w.drawn (.appendCap (len + leny) cap e)), by simp [Question.cut], ?_⟩
  subst hx hy
  have h1 : ¬ (len + leny ≤ cap) := by omega
  have h2 : ¬ (((len + leny : Nat) : Int) > IntKind.i64.max ∧ (false = true ∨ info.bytes = 0)) := by
    rintro ⟨_, h | h⟩
    · cases h
    · omega
  have h3 : ¬ (Builtin.nextslicecap (len + leny) cap * info.bytes > 2 ^ 48) := by
    have := nextcap_le (len + leny) cap (by omega)
    have h4 : Builtin.nextslicecap (len + leny) cap * info.bytes ≤ (16 * (few + 192)) * few := Nat.mul_le_mul (by omega) (by omega)
    have h5 : (16 * (few + 192)) * few ≤ 2 ^ 48 := by decide
    omega
  have hfx' := hfx (w.drawn + 1)
  have hfy' := hfy (w.drawn + 1)
  simp only [Builtin.append_, List.getElem?_toArray, List.getElem?_cons_zero, List.getElem?_cons_succ, Sem.run_bind, run_underlying hu, Result.andThen_ok, run_sizeOf' w hsz, run_underlying hu2, Sem.run_pure, Bool.false_eq_true, if_false, Builtin.lenOf, h1, hti, h2, Bool.not_false, if_true, h3,
    run_choose, Question.forced, run_askRoom, hfx', hfy', hz', newRow, run_newObj]
  rw [if_neg (by rintro ⟨_, h | h⟩ <;> omega)]
  simp only [Sem.run_bind, hti, Result.andThen_ok]
  rw [if_neg h3]
  simp only [Sem.run_bind, run_choose, Question.forced, Bool.false_eq_true, if_false, Result.andThen_ok, hti, run_askRoom, hfx', hfy', hz', Sem.run_pure, run_newObj]
  rfl

/-- What is written behind the last, within the array. -/
theorem run_append_room {P : Program} {t t2 e e2 : TypeId} {sz : Nat} {b : Nat} {base' : Option Addr} {len cap leny capy : Nat} {vy : Value} {xs ys rest : List Value}
    (hu : P.underlying t = some (.slice e)) (hu2 : P.underlying t2 = some (.slice e2)) (hsz : sizeOf? P e = some sz)
    (hy : vy = .slice base' leny capy) (hfy : (Builtin.firstCells sz leny vy).run P w = .ok ys.toArray w) (hroom : len + leny ≤ cap) (hone : ∀ v ∈ ys, v.oneCell' = true)
    (hb : w.heap[b]? = some (.cells (xs ++ rest).toArray e (0, 0))) (hlx : xs.length = len * sz) (hly : ys.length ≤ rest.length) :
    (Builtin.append_ #[t, t2] t #[.slice (some ⟨b, 0, none⟩) len cap, vy]).run P w = .ok (.slice (some ⟨b, 0, none⟩) (len + leny) cap) (w.setRow b (xs ++ ys ++ rest.drop ys.length).toArray) := by
  subst hy
  have hst := run_storeCells_at (P := P) b 0 e ys (len * sz) (xs ++ rest).toArray w hb (by simp [← hlx]; omega) hone
  have hst2 : (storeCells ((⟨b, 0, none⟩ : Addr).add (len * sz)) ys).run P w = .ok () (w.setRow b (xs ++ ys ++ rest.drop ys.length).toArray) := by
    have h1 := run_storeCells_at (P := P) b (len * sz) e ys 0 (xs ++ rest).toArray w hb (by simp [← hlx]; omega) hone
    rw [addr_add, Nat.zero_add, h1]
    congr 2
    rw [Nat.add_zero, ← hlx]
    simp
  simp only [Builtin.append_, List.getElem?_toArray, List.getElem?_cons_zero, List.getElem?_cons_succ, Sem.run_bind, run_underlying hu, Result.andThen_ok, run_sizeOf' w hsz, run_underlying hu2, Sem.run_pure, Bool.false_eq_true, if_false, Builtin.lenOf, hroom, if_true, Bool.not_false, hfy, hst2]

theorem room_parts {P : Program} {e : TypeId} {sz by_ : Nat} {xs ys : List SV} (h : roomFor P e sz by_ xs ys = true) :
    by_ ≤ few ∧ xs.length + ys.length ≤ few ∧ 0 < sz ∧ 0 < by_ ∧ ys ≠ [] ∧ (∀ v ∈ ys, v.oneCell = true) ∧ ∃ z, zero? P e = some z ∧ z.cells.length = sz := by
  unfold roomFor at h
  simp only [Bool.and_eq_true, decide_eq_true_eq] at h
  obtain ⟨⟨⟨⟨⟨⟨h1, h2⟩, h3⟩, h4⟩, h5⟩, h6⟩, h7⟩ := h
  refine ⟨h1, h2, h3, h4, by simpa using h5, fun v hv => List.all_eq_true.1 h6 v hv, ?_⟩
  split at h7
  · rename_i z hz; exact ⟨z, hz, by simpa using h7⟩
  · cases h7

theorem appendS_ok {t t2 : TypeId} {x y : SV} {Q : (Nat → Int) → R → Prop} (H : HR w0 kp hid ro n m h w) (hxv : x.Ok h.length m) (hyv : y.Ok h.length m) (hE : (appendS C.P ro h t t2 x y).Ev n.Φ O n.ρ Q)
    {s : Sem Next} (hs : ∀ {v w'}, (Builtin.append_ #[t, t2] t #[x.re n, y.re n]).run C.P w = .ok v w' → s.run C.P w = .ok (.value v) w') : ∃ r, Q n.ρ r ∧ Good C.P w0 kp hid ro n m h s w r := by
  unfold appendS at hE
  split at hE
  case h_2 => exact hE.elim
  rename_i e hu hu2'
  obtain ⟨e2, hu2⟩ := isSliceTy_of hu2'
  split at hE
  case h_2 => exact hE.elim
  rename_i sz by_ hsz hby
  split at hE
  case h_2 => exact hE.elim
  rename_i xs ys hxs hys
  split at hE
  case isFalse => exact hE.elim
  rename_i hroom
  obtain ⟨r1, r2, r3, r4, r5, r6, z, hz, hzl⟩ := room_parts hroom
  obtain ⟨hx1, bx, lx, cx, hx2, hx3, hx4⟩ := elems_ok (P := C.P) H hxs
  obtain ⟨hy1, by', ly, cy, hy2, hy3, hy4⟩ := elems_ok (P := C.P) H hys
  have hyl : 0 < ys.length := List.length_pos_iff.2 r5
  have hly : ys.length / sz = ly := by rw [hy3]; exact Nat.mul_div_cancel _ r3
  have hly0 : 0 < ly := by
    rcases Nat.eq_zero_or_pos ly with h0 | h0
    · rw [h0] at hy3; omega
    · exact h0
  have hlx : lx ≤ xs.length := by rw [hx3]; exact Nat.le_mul_of_pos_right _ r3
  have hly' : ly ≤ ys.length := by rw [hy3]; exact Nat.le_mul_of_pos_right _ r3
  have hfx : ∀ d, (Builtin.firstCells sz lx (x.re n)).run C.P { w with drawn := d } = .ok (SV.reL n xs).toArray { w with drawn := d } := by
    intro d
    obtain ⟨_, _, lx', _, hx2', hx3', hx4'⟩ := elems_ok (P := C.P) (H.drawn d) hxs
    rw [hx2] at hx2'; cases hx2'; exact hx4'
  have hfy : ∀ d, (Builtin.firstCells sz ly (y.re n)).run C.P { w with drawn := d } = .ok (SV.reL n ys).toArray { w with drawn := d } := by
    intro d
    obtain ⟨_, _, lx', _, hx2', hx3', hx4'⟩ := elems_ok (P := C.P) (H.drawn d) hys
    rw [hy2] at hx2'; cases hx2'; exact hx4'
  -- grown into a new array
  have new : cx < lx + ly → ∀ (upds : List (Nat × SO)) (l : Nat), l = lx + ly → (∀ M, Sub h M → ∀ {w' : World} {n' : En}, HR w0 kp hid ro n' m (M ++ [SO.grow (xs ++ ys) e sz]) w' → HR w0 kp hid ro n' m (setAll M upds ++ [SO.grow (xs ++ ys) e sz]) w') →
      (∀ M, (setAll M upds).length = M.length) →
      Good C.P w0 kp hid ro n m h s w ⟨some (.slice h.length 0 l (.un 0)), upds, [.grow (xs ++ ys) e sz]⟩ := by
    intro hfull upds l hl hup hlen
    obtain ⟨nc, hnc, hrun⟩ := run_append_new (P := C.P) (w := w) (n := n) (z := z) hu hu2 hsz hby (run_zero' w n 0 m hz).1 (fun w' => (run_zero' w' n 0 m hz).1) hx2 hy2 hfx hfy r1 r4 hfull (by omega)
    refine ⟨_, _, hs hrun, fun M hM HM => ⟨n.bind M.length w.heap.size nc, En.bind_agree _ _ _ _ _, rfl, ?_, ?_, ?_⟩⟩
    · simp only [R.heap]
      refine hup M hM ?_
      refine (HM.drawn (w.drawn + 1)).alloc (.grow (xs ++ ys) e sz) _ nc ?_
      rw [hM.1]
      have hag := En.bind_agree n h.length w.heap.size nc m
      refine ⟨okL_append.2 ⟨SV.OkL_mono (Nat.le_succ _) (Nat.le_refl _) _ hx1, SV.OkL_mono (Nat.le_succ _) (Nat.le_refl _) _ hy1⟩, (Builtin.zeroCells (z.re n).cells (nc - (lx + ly))).toList, ?_, ?_⟩
      · rw [reL_append]
        rw [← SV.reL_agree hag xs hx1, ← SV.reL_agree hag ys hy1]
        simp
      · simp only [List.length_append, Array.length_toList, zeroCells_length, re_cells, List.size_toArray, reL_length, hzl, hx3, hy3]
        rw [← Nat.add_mul, ← Nat.add_mul]
        congr 1; omega
    · simp only [NextIs, SV.re, hM.1, hl, En.bind_ε_same, En.bind_κ_same, Nat.sub_zero]
    · intro u hu'; simp only [Option.some.injEq] at hu'; subst hu'
      simp only [SV.Ok, R.heap, List.length_append, List.length_singleton, hlen, hM.1]; omega
  split at hE
  · -- nil
    have h0 : lx = 0 ∧ cx = 0 := by simp only [SV.re, Value.slice.injEq] at hx2; exact ⟨hx2.2.1.symm, hx2.2.2.symm⟩
    refine ⟨_, hE, new (by omega) [] _ (by rw [hly]; omega) (fun M hM {w' n'} HM => HM) (fun M => rfl)⟩
  · rename_i b off len
    split at hE
    · rename_i cs e' sz' hb
      split at hE
      case isFalse => exact hE.elim
      rename_i hc
      obtain ⟨hro, rfl, rfl, rfl, hcl⟩ := hc
      have hre : lx = len ∧ cx = n.κ b - 0 := by simp only [SV.re, Value.slice.injEq] at hx2; exact ⟨hx2.2.1.symm, hx2.2.2.symm⟩
      obtain ⟨rfl, hcx⟩ := hre
      obtain ⟨hcok, rest, hw, hrl⟩ := H.blk b _ hb
      have hxc : xs = cs := by
        unfold elems? at hxs
        simp only [readAt, hb, Option.bind_some, SO.read, atR_eq] at hxs
        split at hxs
        · simp only [Option.some.injEq] at hxs; subst hxs; simp [seg_eq, ← hcl]
        · cases hxs
      by_cases hfull : cx < lx + ly
      · refine ⟨_, hE, new hfull [(b, .dead)] _ (by rw [hly]) (fun M hM {w' n'} HM => ?_) (fun M => by simp [setAll, setR_eq])⟩
        have hbM : b < M.length := by rw [hM.1]; exact (List.getElem?_eq_some_iff.1 hb).1
        have := HM.kill b
        simp only [setAll, setR_eq]
        rwa [List.set_append_left _ _ hbM] at this
      · -- in place
        have hroom' : (lx + ly) * sz' ≤ n.κ b * sz' := Nat.mul_le_mul_right _ (by omega)
        rw [Nat.add_mul] at hroom'
        have hrun := run_append_room (P := C.P) (w := w) (b := n.ε b) (xs := SV.reL n cs) (ys := SV.reL n ys) (rest := rest) (len := lx) (cap := n.κ b - 0) hu hu2 hsz hy2 (by have := hfy w.drawn; exact this) (by omega) (by
          intro v hv
          rw [SV.reL_eq] at hv
          obtain ⟨u, hu', rfl⟩ := List.mem_map.1 hv
          exact oneCell_re n (r6 u hu')) hw (by rw [reL_length, hcl]) (by rw [reL_length]; omega)
        refine ⟨_, hE, _, _, hs (by simpa only [SV.re] using hrun), fun M hM HM => ?_⟩
        have hbM := hM.2 b _ hb rfl
        have hset := HM.set hbM rfl hro (setRow_turned (l' := (SV.reL n cs ++ SV.reL n ys ++ rest.drop (SV.reL n ys).length).toArray) hw) (.grow (xs ++ ys) e' sz') (by
          rw [hM.1]
          refine ⟨okL_append.2 ⟨hx1, hy1⟩, rest.drop (SV.reL n ys).length, by rw [reL_append, hxc], ?_⟩
          rw [List.length_append, List.length_drop, reL_length, hxc]; omega)
        have hmv := hset.move (b := b) (o := .grow (xs ++ ys) e' sz') (by rw [List.getElem?_set_self (List.getElem?_eq_some_iff.1 hbM).1]) rfl hro
        rw [List.length_set, List.set_set] at hmv
        refine ⟨n.bind M.length (n.ε b) (n.κ b), En.bind_agree _ _ _ _ _, rfl, by simpa [R.heap, setAll, setR_eq] using hmv, ?_, ?_⟩
        · simp only [NextIs, SV.re, hM.1, En.bind_ε_same, En.bind_κ_same, Nat.sub_zero, hly]
        · intro u hu'; simp only [Option.some.injEq] at hu'; subst hu'
          simp only [SV.Ok, R.heap, setAll, List.length_append, List.length_singleton, List.length_set, hM.1, setR_eq]; omega
    · exact hE.elim
  · rename_i b off len c
    have hre : lx = len ∧ cx = c := by simp only [SV.re, Value.slice.injEq] at hx2; exact ⟨hx2.2.1.symm, hx2.2.2.symm⟩
    obtain ⟨rfl, rfl⟩ := hre
    split at hE
    · exact hE.elim
    · rename_i hc
      rw [hly] at hc
      refine ⟨_, hE, new (by omega) [] _ (by rw [hly]) (fun M hM {w' n'} HM => HM) (fun M => rfl)⟩
  · exact hE.elim

theorem fine_builtin {o : Oper} {b : Builtin} {args : Array Operand} {ts : Array TypeId} (H : HR w0 kp hid ro n m st.heap w) (hT : TR n st.heap.length m st.tmps a.tmps)
    (ho : o.op = .call { callee := .builtin b, args, argTypes := ts }) (hty : b = .append → True) : Fine C O w0 kp hid ro n m st a w o := by
  intro Q hE
  unfold sop at hE; rw [ho] at hE
  simp only at hE
  split at hE
  case h_2 => exact hE.elim
  rename_i vs hvs
  obtain ⟨hok, hre⟩ := evalL_ok hT hvs
  have hargs : args.map a.eval = (SV.reL n vs).toArray := Array.ext' (by rw [Array.toList_map]; exact hre)
  have hexec : ∀ {v : Value} {w' : World}, (builtin b ts o.type (args.map fun | .const _ => true | _ => false) (SV.reL n vs).toArray).run C.P w = .ok (.value v) w' → (execOp a.eval o).run C.P w = .ok (.value v) w' := by
    intro v w' hr
    simp only [execOp, ho, resolve, hargs, Sem.run_bind, Sem.run_pure, Result.andThen_ok, invoke]
    exact hr
  have hts : ∀ {i : Nat} {t : TypeId}, ts.toList[i]? = some t → ts[i]? = some t := fun h => by simpa using h
  have ext1 : ∀ {t : TypeId}, ts.toList = [t] → ts = #[t] := fun h => Array.ext' h
  have ext2 : ∀ {t t2 : TypeId}, ts.toList = [t, t2] → ts = #[t, t2] := fun h => Array.ext' h
  unfold builtinS at hE
  split at hE
  · -- len
    rename_i x
    split at hE
    · rename_i t ht
      obtain ⟨k, hk, hq⟩ := Ev_lift hE
      unfold lenR at hq
      split at hq
      case isFalse => exact hq.elim
      rename_i hf
      have hw : IntKind.i64.wrap (k : Int) = k := wrap_id (by simp only [lo, hi]; unfold few at hf; omega)
      have hl : (Builtin.len_ #[t] o.type #[x.re n]).run C.P w = .ok (.int .i64 k) w := by
        unfold len? at hk
        split at hk
        · rename_i e b' off k' cap hu; cases hk
          simp [Builtin.len_, SV.re, run_underlying hu, goInt]
        · rename_i e hu; cases hk
          simp [Builtin.len_, SV.re, run_underlying hu, goInt]
        · rename_i e b' off d j hu; cases hk
          simp [Builtin.len_, SV.re, run_underlying hu, goInt]
        · rename_i k' e hu; cases hk
          simp [Builtin.len_, run_underlying hu, goInt]
        · cases hk
      refine ⟨_, hq, good_val (hexec ?_) rfl⟩
      simp only [builtin, ext1 ht, SV.reL, Sem.run_bind, hl, Result.andThen_ok, Sem.run_pure, SV.re, E.den, K.norm, hw]
    · exact hE.elim
  · -- append
    rename_i x y
    split at hE
    · rename_i t t2 ht
      refine appendS_ok H hok.1 hok.2.1 hE fun {v w'} hr => hexec ?_
      simp only [builtin, ext2 ht, SV.reL, Sem.run_bind]
      have hty : (Builtin.append_ #[t, t2] o.type #[x.re n, y.re n]).run C.P w = .ok v w' := hr
      rw [hty]; rfl
    · exact hE.elim
  · -- min
    rename_i v r
    rw [T.Ev_bind] at hE
    obtain ⟨u, h1, h2, h3⟩ := minmax_ok (P := C.P) (w := w) hok.1 hok.2 hE
    refine ⟨_, h1, good_val (hexec ?_) h2⟩
    simp only [builtin, SV.reL, Sem.run_bind, Builtin.min_]
    simp only [Bool.false_eq_true, if_false] at h3
    rw [h3]; rfl
  · -- max
    rename_i v r
    rw [T.Ev_bind] at hE
    obtain ⟨u, h1, h2, h3⟩ := minmax_ok (P := C.P) (w := w) hok.1 hok.2 hE
    refine ⟨_, h1, good_val (hexec ?_) h2⟩
    simp only [builtin, SV.reL, Sem.run_bind, Builtin.max_]
    simp only [if_true] at h3
    rw [h3]; rfl
  · exact hE.elim

/-- **What the symbolic run tells of an operation is what the model does.** -/
theorem sop_sound (o : Oper) (hF : ∀ (s : Nat) (vs r : List Int), C.fold s vs = some r → n.Φ s vs = r) (H : HR w0 kp hid ro n m st.heap w) (hT : TR n st.heap.length m st.tmps a.tmps) : Fine C O w0 kp hid ro n m st a w o := by
  obtain ⟨dst, op, type, pos, after, guard⟩ := o
  cases op with
  | move x => exact fine_move hT (.inl rfl)
  | assign x => exact fine_move hT (.inr rfl)
  | pick c x y => exact fine_pick hT rfl
  | alloc t => exact fine_alloc rfl
  | box t x => exact fine_box hT rfl
  | build t ps => exact fine_build hT rfl
  | buildSlice t k ps => exact fine_buildSlice hT rfl
  | insert t x y z => exact fine_insert H hT (.inl rfl)
  | mapUpdate t x y z => exact fine_insert H hT (.inr rfl)
  | load t x => exact fine_load hF H hT rfl
  | store t x y => exact fine_store H hT rfl
  | nilCheck x => exact fine_nilCheck hT rfl
  | binOp op t x y t2 => exact fine_binOp hT rfl
  | unOp op t x => exact fine_unOp hT rfl
  | convert s d x => exact fine_convert hT rfl
  | makeFunc fn x y =>
    cases fn with
    | func f => exact fine_makeFunc hT rfl
    | _ => intro Q hE; exact hE.elim
  | makeMap t r =>
    cases r with
    | none => exact fine_makeMap rfl
    | some r => intro Q hE; exact hE.elim
  | slice t x lo hi mx =>
    cases mx with
    | none => exact fine_slice H hT rfl
    | some _ => intro Q hE; exact hE.elim
  | fieldAddr t x i => exact fine_fieldAddr hT rfl
  | field t x i => exact fine_field hT rfl
  | indexAddr t x i => exact fine_indexAddr hT rfl
  | index t x i => exact fine_index hT rfl
  | lookup t x i ok => exact fine_lookup H hT rfl
  | extract x i => exact fine_extract hT rfl
  | call c =>
    obtain ⟨cal, args, ts⟩ := c
    cases cal with
    | builtin b => exact fine_builtin H hT rfl (fun _ => trivial)
    | _ => intro Q hE; exact hE.elim
  | _ => intro Q hE; exact hE.elim
end

end Go.Sx
