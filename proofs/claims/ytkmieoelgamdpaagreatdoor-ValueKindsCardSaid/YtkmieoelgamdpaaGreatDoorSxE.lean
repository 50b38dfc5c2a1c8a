/-
  The symbolic run of regions that draw their order is sound; no condition.
-/
import Derived.Test.YtkmieoelgamdpaaGreatDoorSxD
import Derived.Test.YtkmieoelgamdpaaGreatDoorSxB
set_option linter.deprecated false
set_option linter.unusedVariables false
set_option linter.unusedSimpArgs false

/- A region that draws its order: what is told of it, before anything runs. -/
namespace Go.Sx
open Go.RowKit

/-! ### What is checked -/
mutual
theorem SV.okb_ok {n m : Nat} : ∀ v : SV, v.okb n m = true → v.Ok n m
  | .int k e, h => h
  | .bool e, h => h
  | .ptr b o, h => by simpa [SV.okb, SV.Ok] using h
  | .nilptr, _ => trivial
  | .slice b o l c, h => by simpa [SV.okb, SV.Ok] using h
  | .nilslice, _ => trivial
  | .etail b o d j, h => by simpa [SV.okb, SV.Ok] using h
  | .sel b o z c i, h => by simpa [SV.okb, SV.Ok] using h
  | .map r, h => by simpa [SV.okb, SV.Ok] using h
  | .nilmap, _ => trivial
  | .fn f a c, h => by
    simp only [SV.okb, Bool.and_eq_true] at h
    exact ⟨SV.okbL_ok a h.1, SV.okbL_ok c h.2⟩
  | .yield l, h => by simpa [SV.okb, SV.Ok] using h
  | .nilfn, _ => trivial
  | .agg cs, h => SV.okbL_ok cs h
  | .tuple cs, h => SV.okbL_ok cs h
theorem SV.okbL_ok {n m : Nat} : ∀ l : List SV, SV.okbL n m l = true → SV.OkL n m l
  | [], _ => trivial
  | v :: r, h => by
    simp only [SV.okbL, Bool.and_eq_true] at h
    exact ⟨SV.okb_ok v h.1, SV.okbL_ok r h.2⟩
end

theorem SO.okb_ok {n m : Nat} {o : SO} (h : o.okb n m = true) : o.Ok n m := by
  cases o with
  | cells cs e => exact SV.okbL_ok cs h
  | grow cs e k => exact SV.okbL_ok cs h
  | map es c =>
    simp only [SO.okb, List.all_eq_true, Bool.and_eq_true] at h
    exact fun p hp => ⟨SV.okb_ok _ (h p hp).1, SV.okb_ok _ (h p hp).2⟩
  | loop s p f t ps a b =>
    simp only [SO.okb, List.all_eq_true] at h
    exact fun i v hv => SV.okb_ok v (h _ (List.mem_of_getElem? hv))
  | bag => trivial
  | look ks es =>
    simp only [SO.okb, List.all_eq_true, Bool.and_eq_true] at h
    exact fun p hp => ⟨SV.okb_ok _ (h p hp).1, SV.okb_ok _ (h p hp).2⟩
  | dead => trivial

theorem SO.Ok_mono {n m n' m' : Nat} (hn : n ≤ n') (hm : m ≤ m') {o : SO} (h : o.Ok n m) : o.Ok n' m' := by
  cases o with
  | cells cs e => exact SV.OkL_mono hn hm cs h
  | grow cs e k => exact SV.OkL_mono hn hm cs h
  | map es c => exact fun p hp => ⟨SV.Ok_mono hn hm _ (h p hp).1, SV.Ok_mono hn hm _ (h p hp).2⟩
  | loop s p f t ps a b => exact fun i v hv => SV.Ok_mono hn hm v (h i v hv)
  | bag => trivial
  | look ks es => exact fun p hp => ⟨SV.Ok_mono hn hm _ (h p hp).1, SV.Ok_mono hn hm _ (h p hp).2⟩
  | dead => trivial

mutual
theorem SV.av_ok {N m a b : Nat} (hN : N ≤ a) : ∀ v : SV, v.Ok N m → v.av a b = true
  | .int k e, _ => rfl
  | .bool e, _ => rfl
  | .ptr i o, h => by simp only [SV.Ok] at h; simp only [SV.av, av_iff]; omega
  | .nilptr, _ => rfl
  | .slice i o l c, h => by simp only [SV.Ok] at h; simp only [SV.av, av_iff]; omega
  | .nilslice, _ => rfl
  | .etail i o d j, h => by simp only [SV.Ok] at h; simp only [SV.av, av_iff]; omega
  | .sel i o z c x, h => by simp only [SV.Ok] at h; simp only [SV.av, av_iff]; omega
  | .map i, h => by simp only [SV.Ok] at h; simp only [SV.av, av_iff]; omega
  | .nilmap, _ => rfl
  | .fn f x y, h => by simp only [SV.av, Bool.and_eq_true]; exact ⟨SV.avL_ok hN x h.1, SV.avL_ok hN y h.2⟩
  | .yield i, h => by simp only [SV.Ok] at h; simp only [SV.av, av_iff]; omega
  | .nilfn, _ => rfl
  | .agg cs, h => SV.avL_ok hN cs h
  | .tuple cs, h => SV.avL_ok hN cs h
theorem SV.avL_ok {N m a b : Nat} (hN : N ≤ a) : ∀ l : List SV, SV.OkL N m l → SV.avL a b l = true
  | [], _ => rfl
  | v :: r, h => by simp only [SV.avL, Bool.and_eq_true]; exact ⟨SV.av_ok hN v h.1, SV.avL_ok hN r h.2⟩
end

theorem SO.av_ok {N m a b : Nat} (hN : N ≤ a) {o : SO} (h : o.Ok N m) : o.av a b = true := by
  cases o with
  | cells cs e => exact SV.avL_ok hN cs h
  | grow cs e k => exact SV.avL_ok hN cs h
  | map es c =>
    simp only [SO.av, List.all_eq_true, Bool.and_eq_true]
    exact fun p hp => ⟨SV.av_ok hN _ (h p hp).1, SV.av_ok hN _ (h p hp).2⟩
  | loop s p f t ps x y =>
    simp only [SO.av, List.all_eq_true]
    intro v hv
    obtain ⟨i, hi⟩ := List.getElem?_of_mem hv
    cases v with
    | none => rfl
    | some v => exact SV.av_ok hN v (h i v hi)
  | bag => rfl
  | look ks es =>
    simp only [SO.av, List.all_eq_true, Bool.and_eq_true]
    exact fun p hp => ⟨SV.av_ok hN _ (h p hp).1, SV.av_ok hN _ (h p hp).2⟩
  | dead => rfl

mutual
theorem SV.av_nil {a : Nat} : ∀ v : SV, v.av a a = true
  | .int k e => rfl
  | .bool e => rfl
  | .ptr i o => by simp only [SV.av, av_iff]; omega
  | .nilptr => rfl
  | .slice i o l c => by simp only [SV.av, av_iff]; omega
  | .nilslice => rfl
  | .etail i o d j => by simp only [SV.av, av_iff]; omega
  | .sel i o z c x => by simp only [SV.av, av_iff]; omega
  | .map i => by simp only [SV.av, av_iff]; omega
  | .nilmap => rfl
  | .fn f x y => by simp only [SV.av, Bool.and_eq_true]; exact ⟨SV.avL_nil x, SV.avL_nil y⟩
  | .yield i => by simp only [SV.av, av_iff]; omega
  | .nilfn => rfl
  | .agg cs => SV.avL_nil cs
  | .tuple cs => SV.avL_nil cs
theorem SV.avL_nil {a : Nat} : ∀ l : List SV, SV.avL a a l = true
  | [] => rfl
  | v :: r => by simp only [SV.avL, Bool.and_eq_true]; exact ⟨SV.av_nil v, SV.avL_nil r⟩
end

theorem SO.av_nil {a : Nat} (o : SO) : o.av a a = true := by
  cases o with
  | cells cs e => exact SV.avL_nil cs
  | grow cs e k => exact SV.avL_nil cs
  | map es c => simp only [SO.av, List.all_eq_true, Bool.and_eq_true]; exact fun p hp => ⟨SV.av_nil _, SV.av_nil _⟩
  | loop s p f t ps x y =>
    simp only [SO.av, List.all_eq_true]
    intro v hv
    cases v with
    | none => rfl
    | some v => exact SV.av_nil v
  | bag => rfl
  | look ks es => simp only [SO.av, List.all_eq_true, Bool.and_eq_true]; exact fun p hp => ⟨SV.av_nil _, SV.av_nil _⟩
  | dead => rfl

/-! ### Where an operation's objects stand -/
def baseAt (N : Nat) (ds : List Did) (i : Nat) : Nat := N + ((ds.take i).map fun d => d.r.new.length).sum

theorem baseAt_zero (N : Nat) (ds : List Did) : baseAt N ds 0 = N := by simp [baseAt]
theorem baseAt_succ {N : Nat} {ds : List Did} {i : Nat} {d : Did} (h : ds[i]? = some d) : baseAt N ds (i + 1) = baseAt N ds i + d.r.new.length := by
  have hi := (List.getElem?_eq_some_iff.1 h).1
  have : ds.take (i + 1) = ds.take i ++ [d] := by rw [List.take_succ, h]; rfl
  simp only [baseAt, this]; simp; omega
theorem baseAt_le {N : Nat} {ds : List Did} {i : Nat} : ∀ {j : Nat}, i ≤ j → baseAt N ds i ≤ baseAt N ds j
  | 0, h => by have : i = 0 := by omega
               subst this; exact Nat.le_refl _
  | j + 1, h => by
    by_cases e : i = j + 1
    · subst e; exact Nat.le_refl _
    · refine Nat.le_trans (baseAt_le (j := j) (by omega)) ?_
      cases hd : ds[j]? with
      | none =>
        have := List.getElem?_eq_none_iff.1 hd
        simp only [baseAt]
        rw [List.take_of_length_le this, List.take_of_length_le (by omega)]
        exact Nat.le_refl _
      | some d => rw [baseAt_succ hd]; omega

theorem madeT_sum {S : Nat → Bool} : ∀ (ds : List Did) (j : Nat), (madeT S ds j).length = (ds.map fun d => d.r.new.length).sum
  | [], _ => rfl
  | d :: ds, j => by
    simp only [madeT, List.length_append, madeT_sum ds (j + 1), List.map_cons, List.sum_cons]
    split <;> simp

theorem doneH_len {S : Nat → Bool} (h : List SO) (ds : List Did) (i : Nat) : (doneH S h (ds.take i) 0).length = baseAt h.length ds i := by
  rw [doneH_length, madeT_sum]; rfl

/-- Where an object comes from. -/
theorem doneH_from {S : Nat → Bool} : ∀ (h : List SO) (ds : List Did) (j : Nat) {b : Nat} {o : SO}, (doneH S h ds j)[b]? = some o → o.alive = true →
    o ∈ h ∨ ∃ (i : Nat) (d : Did), ds[i]? = some d ∧ S (j + i) = true ∧ (o ∈ d.r.upd.map Prod.snd ∨ o ∈ d.r.new)
  | h, [], j, b, o, hb, _ => .inl (List.mem_of_getElem? hb)
  | h, d :: ds, j, b, o, hb, ha => by
    simp only [doneH] at hb
    rcases doneH_from _ ds (j + 1) hb ha with hm | ⟨i, d', h1, h2, h3⟩
    · split at hm
      · rename_i hS
        rcases List.mem_append.1 hm with hm | hm
        · have : ∀ (l : List (Nat × SO)) (h : List SO), o ∈ setAll h l → o ∈ h ∨ o ∈ l.map Prod.snd := by
            intro l
            induction l with
            | nil => exact fun h hm => .inl hm
            | cons p l ih =>
              intro h hm
              obtain ⟨i, x⟩ := p
              simp only [setAll, setR_eq] at hm
              rcases ih (h.set i x) hm with h1 | h1
              · rcases List.mem_or_eq_of_mem_set h1 with h2 | h2
                · exact .inl h2
                · exact .inr (by simp [h2])
              · exact .inr (List.mem_cons_of_mem _ h1)
          rcases this d.r.upd h hm with h1 | h1
          · exact .inl h1
          · exact .inr ⟨0, d, rfl, hS, .inl h1⟩
        · exact .inr ⟨0, d, rfl, hS, .inr hm⟩
      · rcases List.mem_append.1 hm with hm | hm
        · exact .inl hm
        · obtain ⟨x, _, hx⟩ := List.mem_map.1 hm
          subst hx; cases ha
    · exact .inr ⟨i + 1, d', by simpa using h1, by rw [show j + (i + 1) = j + 1 + i by omega]; exact h2, h3⟩

/-! ### Slots -/
def Did.val (d : Did) : SV := if d.ran then d.r.v.getD undefS else undefS

theorem setTmp_length (l : List (Option SV)) (d : Option Tmp) (v : SV) : (setTmp l d v).length = l.length := by cases d <;> simp [setTmp, setR_eq]
theorem undefs_length (l : List (Option SV)) (d : Option Tmp) : (undefs l d).length = l.length := by cases d <;> simp [undefs, setR_eq]

theorem setTmp_get {l : List (Option SV)} {d : Option Tmp} {v u : SV} {t : Nat} (h : (setTmp l d v)[t]? = some (some u)) : (d = some t ∧ u = v) ∨ (d ≠ some t ∧ l[t]? = some (some u)) := by
  cases d with
  | none => exact .inr ⟨by simp, h⟩
  | some s =>
    simp only [setTmp, List.getElem?_set, setR_eq] at h
    split at h
    · rename_i e; subst e
      split at h
      · simp only [Option.some.injEq] at h; exact .inl ⟨rfl, h.symm⟩
      · cases h
    · rename_i e; exact .inr ⟨by simpa using e, h⟩

theorem undefs_get {l : List (Option SV)} {d : Option Tmp} {u : SV} {t : Nat} (h : (undefs l d)[t]? = some (some u)) : d ≠ some t ∧ l[t]? = some (some u) := by
  cases d with
  | none => exact ⟨by simp, h⟩
  | some s =>
    simp only [undefs, List.getElem?_set, setR_eq] at h
    split at h
    · split at h <;> simp at h
    · rename_i e; exact ⟨by simpa using e, h⟩

theorem viewOf_length {mem : Bool} {m : Nat} : ∀ (os : List Oper) (ds : List Did) (j : Nat) (tm : List (Option SV)) (h : List SO), (viewOf mem m tm h os ds j).1.length = tm.length
  | [], ds, j, tm, h => by simp only [viewOf]
  | o :: os, [], j, tm, h => by simp only [viewOf]
  | o :: os, d :: ds, j, tm, h => by
    simp only [viewOf]
    split
    · rw [viewOf_length os ds, setTmp_length]
    · simp only [undefs_length]; exact viewOf_length os ds _ _ _

theorem viewOf_get {mem : Bool} {m : Nat} {t : Nat} {u : SV} : ∀ (os : List Oper) (ds : List Did) (j : Nat) (tm : List (Option SV)) (h : List SO), os.length = ds.length → (viewOf mem m tm h os ds j).1[t]? = some (some u) →
    (∃ (i : Nat) (o : Oper) (d : Did), os[i]? = some o ∧ ds[i]? = some d ∧ m.testBit (j + i) = true ∧ o.dst = some t ∧ u = d.val) ∨ (tm[t]? = some (some u) ∧ ∀ (i : Nat) (o : Oper), os[i]? = some o → o.dst ≠ some t)
  | [], [], j, tm, h, _, hu => by simp only [viewOf] at hu; exact .inr ⟨hu, by simp⟩
  | [], _ :: _, j, tm, h, hl, _ => by simp at hl
  | o :: os, [], j, tm, h, hl, _ => by simp at hl
  | o :: os, d :: ds, j, tm, h, hl, hu => by
    have up : ∀ {tm' : List (Option SV)}, ((∃ (i : Nat) (o : Oper) (d : Did), os[i]? = some o ∧ ds[i]? = some d ∧ m.testBit (j + 1 + i) = true ∧ o.dst = some t ∧ u = d.val) ∨ (tm'[t]? = some (some u) ∧ ∀ (i : Nat) (o : Oper), os[i]? = some o → o.dst ≠ some t)) →
        (∃ (i : Nat) (o' : Oper) (d' : Did), (o :: os)[i]? = some o' ∧ (d :: ds)[i]? = some d' ∧ m.testBit (j + i) = true ∧ o'.dst = some t ∧ u = d'.val) ∨ (tm'[t]? = some (some u) ∧ ∀ (i : Nat) (o : Oper), os[i]? = some o → o.dst ≠ some t) := by
      rintro tm' (⟨i, o', d', h1, h2, h3, h4, h5⟩ | hh)
      · exact .inl ⟨i + 1, o', d', by simpa using h1, by simpa using h2, by rw [show j + (i + 1) = j + 1 + i by omega]; exact h3, h4, h5⟩
      · exact .inr hh
    simp only [viewOf] at hu
    split at hu
    · rename_i hm
      rcases up (viewOf_get os ds (j + 1) _ _ (by simpa using hl) hu) with hh | ⟨h1, h2⟩
      · exact .inl hh
      · rcases setTmp_get h1 with ⟨h3, h4⟩ | ⟨h3, h4⟩
        · exact .inl ⟨0, o, d, rfl, rfl, hm, h3, h4⟩
        · refine .inr ⟨h4, fun i o' hi => ?_⟩
          cases i with
          | zero => simp at hi; subst hi; exact h3
          | succ i => exact h2 i o' (by simpa using hi)
    · obtain ⟨h1, h2⟩ := undefs_get hu
      rcases up (viewOf_get os ds (j + 1) _ _ (by simpa using hl) h2) with hh | ⟨h3, h4⟩
      · exact .inl hh
      · refine .inr ⟨h3, fun i o' hi => ?_⟩
        cases i with
        | zero => simp at hi; subst hi; exact h1
        | succ i => exact h4 i o' (by simpa using hi)

theorem viewOf_take {mem : Bool} {m : Nat} : ∀ (os : List Oper) (ds : List Did) (j : Nat) (tm : List (Option SV)) (h : List SO), viewOf mem m tm h os ds j = viewOf mem m tm h (os.take ds.length) ds j
  | [], ds, j, tm, h => by simp
  | o :: os, [], j, tm, h => by simp [viewOf]
  | o :: os, d :: ds, j, tm, h => by
    simp only [List.length_cons, List.take_succ_cons, viewOf]
    split
    · exact viewOf_take os ds _ _ _
    · rw [viewOf_take os ds _ _ _]

theorem hideT_length {i : Nat} : ∀ (os : List Oper) (ms : List Nat) (tm : List (Option SV)), (hideT i tm os ms).length = tm.length
  | [], ms, tm => by simp [hideT]
  | o :: os, [], tm => by simp [hideT]
  | o :: os, m :: ms, tm => by
    simp only [hideT]
    rw [hideT_length os ms]
    split
    · rfl
    · exact undefs_length _ _

theorem hideT_get {i t : Nat} {u : SV} : ∀ (os : List Oper) (ms : List Nat) (tm : List (Option SV)), os.length = ms.length → (hideT i tm os ms)[t]? = some (some u) →
    tm[t]? = some (some u) ∧ ∀ (j : Nat) (o : Oper) (m : Nat), os[j]? = some o → ms[j]? = some m → o.dst = some t → m.testBit i = true
  | [], ms, tm, _, h => by simp only [hideT] at h; exact ⟨h, by simp⟩
  | o :: os, [], tm, hl, h => by simp at hl
  | o :: os, m :: ms, tm, hl, h => by
    simp only [hideT] at h
    obtain ⟨h1, h2⟩ := hideT_get os ms _ (by simpa using hl) h
    split at h1
    · rename_i hm
      refine ⟨h1, fun j o' m' ho hm' hd => ?_⟩
      cases j with
      | zero => simp at ho hm'; subst hm'; exact hm
      | succ j => exact h2 j o' m' (by simpa using ho) (by simpa using hm') hd
    · obtain ⟨h3, h4⟩ := undefs_get h1
      refine ⟨h4, fun j o' m' ho hm' hd => ?_⟩
      cases j with
      | zero => simp at ho; subst ho; exact absurd hd h3
      | succ j => exact h2 j o' m' (by simpa using ho) (by simpa using hm') hd

theorem allOf_length : ∀ (os : List Oper) (ds : List Did) (tm : List (Option SV)) (h : List SO), (allOf tm h os ds).1.length = tm.length
  | [], ds, tm, h => by simp [allOf]
  | o :: os, [], tm, h => by simp [allOf]
  | o :: os, d :: ds, tm, h => by simp only [allOf]; rw [allOf_length os ds, setTmp_length]

theorem allOf_heap : ∀ (os : List Oper) (ds : List Did) (tm : List (Option SV)) (h : List SO) (j : Nat), os.length = ds.length → (allOf tm h os ds).2 = doneH (fun _ => true) h ds j
  | [], [], tm, h, j, _ => rfl
  | [], _ :: _, tm, h, j, hl => by simp at hl
  | o :: os, [], tm, h, j, hl => by simp at hl
  | o :: os, d :: ds, tm, h, j, hl => by
    simp only [allOf, doneH, if_true]
    exact allOf_heap os ds _ _ _ (by simpa using hl)

theorem allOf_get {t : Nat} {u : SV} : ∀ (os : List Oper) (ds : List Did) (tm : List (Option SV)) (h : List SO), os.length = ds.length → (allOf tm h os ds).1[t]? = some (some u) →
    (∃ (i : Nat) (o : Oper) (d : Did), os[i]? = some o ∧ ds[i]? = some d ∧ o.dst = some t ∧ u = d.val) ∨ (tm[t]? = some (some u) ∧ ∀ (i : Nat) (o : Oper), os[i]? = some o → o.dst ≠ some t)
  | [], [], tm, h, _, hu => by simp only [allOf] at hu; exact .inr ⟨hu, by simp⟩
  | [], _ :: _, tm, h, hl, _ => by simp at hl
  | o :: os, [], tm, h, hl, _ => by simp at hl
  | o :: os, d :: ds, tm, h, hl, hu => by
    simp only [allOf] at hu
    rcases allOf_get os ds _ _ (by simpa using hl) hu with ⟨i, o', d', h1, h2, h4, h5⟩ | ⟨h1, h2⟩
    · exact .inl ⟨i + 1, o', d', by simpa using h1, by simpa using h2, h4, h5⟩
    · rcases setTmp_get h1 with ⟨h3, h4⟩ | ⟨h3, h4⟩
      · exact .inl ⟨0, o, d, rfl, rfl, h3, h4⟩
      · refine .inr ⟨h4, fun i o' hi => ?_⟩
        cases i with
        | zero => simp at hi; subst hi; exact h3
        | succ i => exact h2 i o' (by simpa using hi)

/-! ### What comes ahead -/
def aheadOf (acc : List Nat) (o : Oper) : Nat := o.after.toList.foldl (fun s e => if Region.binds .any e then s ||| 2 ^ e.on ||| (acc[e.on]?).getD 0 else s) 0

theorem ahead_go : ∀ (ops : List Oper) (acc : List Nat), (ops.foldl (fun acc o => acc ++ [aheadOf acc o]) acc).length = acc.length + ops.length ∧ (ops.foldl (fun acc o => acc ++ [aheadOf acc o]) acc).take acc.length = acc ∧
    ∀ (i : Nat) (o : Oper), ops[i]? = some o → (ops.foldl (fun acc o => acc ++ [aheadOf acc o]) acc)[acc.length + i]? = some (aheadOf ((ops.foldl (fun acc o => acc ++ [aheadOf acc o]) acc).take (acc.length + i)) o)
  | [], acc => by simp
  | o :: os, acc => by
    obtain ⟨h1, h2, h3⟩ := ahead_go os (acc ++ [aheadOf acc o])
    simp only [List.foldl_cons]
    generalize hR : os.foldl (fun acc o => acc ++ [aheadOf acc o]) (acc ++ [aheadOf acc o]) = R at h1 h2 h3
    have h4 : R.take acc.length = acc := by
      have := congrArg (List.take acc.length) h2
      rw [List.take_take] at this
      simpa using this
    refine ⟨by rw [h1]; simp; omega, h4, fun i o' hi => ?_⟩
    cases i with
    | zero =>
      simp at hi; subst hi
      rw [Nat.add_zero, h4]
      have := congrArg (fun l => l[acc.length]?) h2
      simpa [List.getElem?_take] using this
    | succ i =>
      have := h3 i o' (by simpa using hi)
      rw [show (acc ++ [aheadOf acc o]).length + i = acc.length + (i + 1) by simp; omega] at this
      exact this

theorem aheadOf_bit {acc : List Nat} {j : Nat} : ∀ (l : List Edge) (s : Nat), (l.foldl (fun s e => if Region.binds .any e then s ||| 2 ^ e.on ||| (acc[e.on]?).getD 0 else s) s).testBit j = true →
    s.testBit j = true ∨ ∃ e ∈ l, Region.binds .any e = true ∧ (j = e.on ∨ ((acc[e.on]?).getD 0).testBit j = true)
  | [], s, h => .inl h
  | e :: l, s, h => by
    simp only [List.foldl_cons] at h
    rcases aheadOf_bit l _ h with h1 | ⟨e', h1, h2⟩
    · split at h1
      · rename_i hb
        simp only [Nat.testBit_or, Bool.or_eq_true, Nat.testBit_two_pow, decide_eq_true_eq] at h1
        rcases h1 with (h1 | h1) | h1
        · exact .inl h1
        · exact .inr ⟨e, List.mem_cons_self, hb, .inl h1.symm⟩
        · exact .inr ⟨e, List.mem_cons_self, hb, .inr h1⟩
      · exact .inl h1
    · exact .inr ⟨e', List.mem_cons_of_mem _ h1, h2⟩

theorem ahead_length (ops : List Oper) : (ahead ops).length = ops.length := by
  have := (ahead_go ops []).1
  simpa [ahead, aheadOf] using this

theorem ahead_bit {ops : Array Oper} (hp : Plain ops) {i j : Nat} {o : Oper} (ho : ops[i]? = some o) (hj : (((ahead ops.toList)[i]?).getD 0).testBit j = true) :
    ∃ e ∈ o.after.toList, Region.binds .any e = true ∧ (j = e.on ∨ (((ahead ops.toList)[e.on]?).getD 0).testBit j = true) := by
  have h3 := (ahead_go ops.toList []).2.2 i o (by simpa using ho)
  have hA : ops.toList.foldl (fun acc o => acc ++ [aheadOf acc o]) [] = ahead ops.toList := rfl
  rw [hA] at h3
  simp only [List.length_nil, Nat.zero_add] at h3
  rw [h3, Option.getD_some] at hj
  rcases aheadOf_bit _ _ hj with h4 | ⟨e, h4, h5, h6⟩
  · simp at h4
  · refine ⟨e, h4, h5, h6.imp id fun h7 => ?_⟩
    rw [List.getElem?_take, if_pos (hp i o ho e h4 h5)] at h7
    exact h7

/-- What comes ahead has been done. -/
theorem ahead_done {ops : Array Oper} (hp : Plain ops) {L : List Nat} (hL : Lin ops L) : ∀ (i : Nat) (l1 l2 : List Nat), L = l1 ++ i :: l2 → ∀ j, (((ahead ops.toList)[i]?).getD 0).testBit j = true → j ∈ l1 := by
  intro i
  induction i using Nat.strongRecOn with
  | ind i ih =>
    intro l1 l2 hl j hj
    have hi : i < ops.size := (hL.mem i).1 (by rw [hl]; simp)
    have ho : ops[i]? = some ops[i] := Array.getElem?_eq_getElem hi
    obtain ⟨e, h1, h2, h3⟩ := ahead_bit hp ho hj
    have h4 := hL.first l1 i l2 hl _ ho e h1 h2
    rcases h3 with rfl | h3
    · exact h4
    · obtain ⟨p, q, hpq⟩ := List.append_of_mem h4
      have := ih e.on (hp i _ ho e h1 h2) p (q ++ i :: l2) (by rw [hl, hpq]; simp) j h3
      rw [hpq]; simp [this]

end Go.Sx

/- A region that draws its order: what its tree tells of each operation. -/
namespace Go.Sx
open Go.RowKit

/-- What has been yielded, told. -/
structure Settled (Φ : Spec) (ρ : Nat → Int) (r r' : R) : Prop where
  upd : r'.upd = r.upd
  new : r'.new = r.new
  v : r'.v = r.v ∨ ∃ e, r.v = some (.bool e) ∧ ((e.den Φ ρ ≠ 0 ∧ r'.v = some ttS) ∨ (e.den Φ ρ = 0 ∧ r'.v = some ffS))

theorem Ev_settle {α : Type} {Φ : Spec} {O : Owe} {ops : List Oper} {j : Nat} {r : R} {k : R → T α} {ρ : Nat → Int} {Q : (Nat → Int) → α → Prop} (h : (settle ops j r k).Ev Φ O ρ Q) :
    ∃ r', Settled Φ ρ r r' ∧ (k r').Ev Φ O ρ Q := by
  unfold settle at h
  split at h
  · split at h
    · rename_i e he
      obtain ⟨h1, h2⟩ := Ev_branch h
      by_cases hc : e.den Φ ρ = 0
      · exact ⟨{ r with v := some ffS }, ⟨rfl, rfl, .inr ⟨e, he, .inr ⟨hc, rfl⟩⟩⟩, h2 hc⟩
      · exact ⟨{ r with v := some ttS }, ⟨rfl, rfl, .inr ⟨e, he, .inl ⟨hc, rfl⟩⟩⟩, h1 hc⟩
    · exact h.elim
  · exact ⟨r, ⟨rfl, rfl, .inl rfl⟩, h⟩

def maskOf (masks : List Nat) (i : Nat) : Nat := (masks[i]?).getD 0

/-- What operation i sees. -/
def viewAt (C : Ctx) (ops : List Oper) (masks : List Nat) (st : St) (ds : List Did) (i : Nat) (o : Oper) : St :=
  { st with
    tmps := (viewOf (reads C o) (maskOf masks i) (hideT i st.tmps (ops.drop (i + 1)) (masks.drop (i + 1))) st.heap ops (ds.take i) 0).1
    heap := (viewOf (reads C o) (maskOf masks i) (hideT i st.tmps (ops.drop (i + 1)) (masks.drop (i + 1))) st.heap ops (ds.take i) 0).2 }

structure RanDid (C : Ctx) (Φ : Spec) (O : Owe) (ρ : Nat → Int) (F ro : Nat) (ops : List Oper) (masks : List Nat) (st : St) (ds : List Did) (i : Nat) (o : Oper) (r r' : R) : Prop where
  want : wantedDid ops (maskOf masks i) (ds.take i) o = some true
  is : ds[i]? = some ⟨true, r'⟩
  settled : Settled Φ ρ r r'
  fits : fits C st.nv ro (maskOf masks i) st.heap.length ops (ds.take i) o (viewAt C ops masks st ds i o).heap r = true
  run : (isCall o = false ∧ (sop C ro (viewAt C ops masks st ds i o) o).Ev Φ O ρ fun ρ' b => ρ' = ρ ∧ b = r) ∨
    (isCall o = true ∧ ∃ (f' : Nat) (fv : SV) (args : List SV) (v : SV) (h' : List SO), f' < F ∧ callee? (viewAt C ops masks st ds i o) o = some (fv, args) ∧
      r = ⟨some v, turned st.nv (viewAt C ops masks st ds i o).heap h' 0, h'.drop (viewAt C ops masks st ds i o).heap.length⟩ ∧
      (callV { C with loops := [] } f' ro fv args (viewAt C ops masks st ds i o).heap st.nv).Ev Φ O ρ fun ρ' p => ρ' = ρ ∧ p = (v, h', st.nv))

def StepDid (C : Ctx) (Φ : Spec) (O : Owe) (ρ : Nat → Int) (F ro : Nat) (ops : List Oper) (masks : List Nat) (st : St) (ds : List Did) (i : Nat) (o : Oper) : Prop :=
  (wantedDid ops (maskOf masks i) (ds.take i) o = some false ∧ ds[i]? = some ⟨false, ⟨none, [], []⟩⟩) ∨
  ∃ r r', RanDid C Φ O ρ F ro ops masks st ds i o r r'

theorem free_draw {C : Ctx} : ∀ (f ro : Nat) (ops : List Oper) (ms : List Nat) (st : St) (ds : List Did) (os : List Oper), (execDraw C f ro ops ms st ds os).Free
  | 0, ro, ops, ms, st, ds, os => by simp only [execDraw, T.Free]
  | f + 1, ro, ops, ms, st, ds, [] => by simp only [execDraw, T.Free]
  | f + 1, ro, ops, ms, st, ds, o :: os => by
    have hf := freeAt (C := { C with loops := [] }) rfl f
    simp only [execDraw]
    repeat' (first
      | exact True.intro
      | apply hf.callV
      | apply free_draw f
      | apply free_sop
      | apply free_settle
      | apply T.Free.bind
      | intro _
      | split)

theorem draw_steps {C : Ctx} {Φ : Spec} {O : Owe} {ρ : Nat → Int} {ro : Nat} {ops : List Oper} {masks : List Nat} {st : St} {ds : List Did} : ∀ (f F : Nat) (os : List Oper) (ds0 : List Did), f ≤ F → ops.drop ds0.length = os →
    (execDraw C f ro ops masks st ds0 os).Ev Φ O ρ (fun ρ' b => ρ' = ρ ∧ b = ds) → ds0.length ≤ ops.length →
    ds.length = ops.length ∧ ds.take ds0.length = ds0 ∧ ∀ (i : Nat) (o : Oper), ds0.length ≤ i → ops[i]? = some o → StepDid C Φ O ρ F ro ops masks st ds i o
  | 0, F, os, ds0, _, _, hE, _ => by simp only [execDraw] at hE; exact hE.elim
  | f + 1, F, [], ds0, _, hos, hE, hle => by
    simp only [execDraw, T.Ev] at hE
    obtain ⟨_, rfl⟩ := hE
    have : ops.length ≤ ds0.length := by
      have := congrArg List.length hos
      simp at this; omega
    refine ⟨by omega, by simp, fun i o hi ho => ?_⟩
    have := (List.getElem?_eq_some_iff.1 ho).1
    omega
  | f + 1, F, o :: os, ds0, hF, hos, hE, hle => by
    have hoi : ops[ds0.length]? = some o := by
      have := congrArg (fun l => l[0]?) hos
      simpa [List.getElem?_drop] using this
    have hos' : ops.drop (ds0.length + 1) = os := by
      have := congrArg List.tail hos
      simpa [List.tail_drop] using this
    have hlt : ds0.length < ops.length := (List.getElem?_eq_some_iff.1 hoi).1
    -- the rest
    have rest : ∀ (d : Did), (execDraw C f ro ops masks st (ds0 ++ [d]) os).Ev Φ O ρ (fun ρ' b => ρ' = ρ ∧ b = ds) → (ds.take ds0.length = ds0 → ds[ds0.length]? = some d → StepDid C Φ O ρ F ro ops masks st ds ds0.length o) →
        ds.length = ops.length ∧ ds.take ds0.length = ds0 ∧ ∀ (i : Nat) (o : Oper), ds0.length ≤ i → ops[i]? = some o → StepDid C Φ O ρ F ro ops masks st ds i o := by
      intro d hd hstep
      obtain ⟨h1, h2, h3⟩ := draw_steps f F os (ds0 ++ [d]) (by omega) (by simpa using hos') hd (by simp; omega)
      have h4 : ds.take ds0.length = ds0 := by
        have := congrArg (List.take ds0.length) h2
        rw [List.take_take] at this
        simpa using this
      have h5 : ds[ds0.length]? = some d := by
        have := congrArg (fun l => l[ds0.length]?) h2
        simpa [List.getElem?_take] using this
      refine ⟨h1, h4, fun i o' hi ho' => ?_⟩
      by_cases e : i = ds0.length
      · subst e; rw [hoi] at ho'; cases ho'; exact hstep h4 h5
      · exact h3 i o' (by simp; omega) ho'
    simp only [execDraw] at hE
    split at hE
    · exact hE.elim
    · rename_i hw
      exact rest _ hE fun h4 h5 => .inl ⟨by rw [h4]; exact hw, h5⟩
    · rename_i hw
      have hview : ds.take ds0.length = ds0 → viewAt C ops masks st ds ds0.length o = { st with tmps := (viewOf (reads C o) (maskOf masks ds0.length) (hideT ds0.length st.tmps os (masks.drop (ds0.length + 1))) st.heap ops ds0 0).1, heap := (viewOf (reads C o) (maskOf masks ds0.length) (hideT ds0.length st.tmps os (masks.drop (ds0.length + 1))) st.heap ops ds0 0).2 } := by
        intro h4; unfold viewAt; rw [h4, hos']
      split at hE
      · rename_i hcall
        split at hE
        · rename_i fv args hcal
          rw [T.Ev_bind] at hE
          obtain ⟨⟨v, h', nv'⟩, h6, h7⟩ := T.Free.ev ((freeAt (C := { C with loops := [] }) rfl f).callV _ _ _ _ _) hE
          simp only at h6
          split at h6
          rotate_left
          · exact h6.elim
          rename_i hnv; subst hnv
          split at h6
          rotate_left
          · exact h6.elim
          rename_i hfit
          obtain ⟨r', h8, h9⟩ := Ev_settle h6
          refine rest _ h9 fun h4 h5 => .inr ⟨_, r', ⟨by rw [h4]; exact hw, h5, h8, ?_, ?_⟩⟩
          · rw [hview h4, h4]; exact hfit
          · rw [hview h4]
            exact .inr ⟨hcall, f, fv, args, v, h', by omega, hcal, rfl, h7⟩
        · exact hE.elim
      · rename_i hcall
        rw [T.Ev_bind] at hE
        obtain ⟨r, h6, h7⟩ := T.Free.ev (free_sop _ _ _ _) hE
        split at h6
        rotate_left
        · exact h6.elim
        rename_i hfit
        obtain ⟨r', h8, h9⟩ := Ev_settle h6
        refine rest _ h9 fun h4 h5 => .inr ⟨r, r', ⟨by rw [h4]; exact hw, h5, h8, ?_, ?_⟩⟩
        · rw [hview h4, h4]; exact hfit
        · rw [hview h4]
          exact .inl ⟨by simpa using hcall, h7⟩

end Go.Sx

/- A region that draws its order: the facts about what was told. -/
namespace Go.Sx
open Go.RowKit

structure Told (C : Ctx) (O : Owe) (F ro : Nat) (ops : Array Oper) (st : St) (ds : List Did) (n : En) : Prop where
  plain : Plain ops
  slots : ∀ (i j : Nat) (oi oj : Oper) (t : Tmp), ops[i]? = some oi → ops[j]? = some oj → oi.dst = some t → oj.dst = some t → i = j
  inb : ∀ (i : Nat) (o : Oper) (t : Tmp), ops[i]? = some o → o.dst = some t → t < st.tmps.length
  len : ds.length = ops.size
  step : ∀ (i : Nat) (o : Oper), ops[i]? = some o → StepDid C n.Φ O n.ρ F ro ops.toList (ahead ops.toList) st ds i o

theorem filterMap_nodup {α β : Type} {f : α → Option β} : ∀ {l : List α}, (l.filterMap f).Nodup → ∀ (i j : Nat) (a b : α) (t : β), l[i]? = some a → l[j]? = some b → f a = some t → f b = some t → i = j
  | [], _, i, j, a, b, t, ha, _, _, _ => by simp at ha
  | x :: l, h, i, j, a, b, t, ha, hb, hfa, hfb => by
    have hl : (l.filterMap f).Nodup := by
      rw [List.filterMap_cons] at h
      split at h
      · exact h
      · exact (List.nodup_cons.1 h).2
    have hx : ∀ {k : Nat} {c : α}, l[k]? = some c → f c = some t → f x = some t → False := by
      intro k c hk hc hfx
      rw [List.filterMap_cons, hfx] at h
      exact (List.nodup_cons.1 h).1 (List.mem_filterMap.2 ⟨c, List.mem_of_getElem? hk, hc⟩)
    cases i with
    | zero =>
      simp at ha; subst ha
      cases j with
      | zero => rfl
      | succ j => exact (hx (by simpa using hb) hfb hfa).elim
    | succ i =>
      cases j with
      | zero => simp at hb; subst hb; exact (hx (by simpa using ha) hfa hfb).elim
      | succ j => rw [filterMap_nodup hl i j a b t (by simpa using ha) (by simpa using hb) hfa hfb]

theorem plainOps_facts {ops : Array Oper} {k : Nat} (h : plainOps ops.toList k = true) : Plain ops ∧
    (∀ (i j : Nat) (oi oj : Oper) (t : Tmp), ops[i]? = some oi → ops[j]? = some oj → oi.dst = some t → oj.dst = some t → i = j) ∧ ∀ (i : Nat) (o : Oper) (t : Tmp), ops[i]? = some o → o.dst = some t → t < k := by
  unfold plainOps at h
  simp only [Bool.and_eq_true, decide_eq_true_eq] at h
  obtain ⟨⟨h1, h2⟩, h3⟩ := h
  refine ⟨?_, ?_, ?_⟩
  · intro i o ho e he hb
    have hm : (o, i) ∈ ops.toList.zipIdx := List.mem_zipIdx_iff_getElem?.2 (by simpa using ho)
    have := List.all_eq_true.1 (List.all_eq_true.1 h3 _ hm) e he
    rw [hb] at this
    simpa using this
  · intro i j oi oj t hi hj hdi hdj
    exact filterMap_nodup h2 i j oi oj t (by simpa using hi) (by simpa using hj) hdi hdj
  · intro i o t ho hd
    have := List.all_eq_true.1 h1 o (List.mem_of_getElem? (i := i) (by simpa using ho))
    rw [hd] at this
    simpa using this

theorem avoids_get {m : Nat} {r : R} : ∀ {ds : List Did} {j N : Nat}, avoids m r ds j N = true → ∀ (i : Nat) (d : Did), ds[i]? = some d →
    m.testBit (j + i) = true ∨ d.r.new = [] ∨ r.av (baseAt N ds i) (baseAt N ds i + d.r.new.length) = true
  | [], j, N, _, i, d, hd => by simp at hd
  | d0 :: ds, j, N, h, i, d, hd => by
    simp only [avoids, Bool.and_eq_true, Bool.or_eq_true] at h
    cases i with
    | zero =>
      simp at hd; subst hd
      rw [baseAt_zero]
      rcases h.1 with (h1 | h1) | h1
      · exact .inl h1
      · exact .inr (.inl (by simpa using h1))
      · exact .inr (.inr h1)
    | succ i =>
      have hb : baseAt N (d0 :: ds) (i + 1) = baseAt (N + d0.r.new.length) ds i := by simp [baseAt]; omega
      rw [hb, show j + (i + 1) = j + 1 + i by omega]
      exact avoids_get h.2 i d (by simpa using hd)

theorem late_get {C : Ctx} {m : Nat} : ∀ {os : List Oper} {ds : List Did} {j : Nat}, late C m os ds j = true → ∀ (i : Nat) (o : Oper) (d : Did), os[i]? = some o → ds[i]? = some d →
    m.testBit (j + i) = true ∨ (reads C o = false ∧ d.r.new = [] ∧ d.r.upd = [])
  | [], ds, j, _, i, o, d, ho, _ => by simp at ho
  | _ :: _, [], j, _, i, o, d, _, hd => by simp at hd
  | o0 :: os, d0 :: ds, j, h, i, o, d, ho, hd => by
    simp only [late, Bool.and_eq_true, Bool.or_eq_true, Bool.not_eq_true', List.isEmpty_iff] at h
    cases i with
    | zero =>
      simp at ho hd; subst ho; subst hd
      rcases h.1 with h1 | ⟨⟨h1, h2⟩, h3⟩
      · exact .inl h1
      · exact .inr ⟨h1, h2, h3⟩
    | succ i =>
      rw [show j + (i + 1) = j + 1 + i by omega]
      exact late_get h.2 i o d (by simpa using ho) (by simpa using hd)

theorem killAll_dead : ∀ (l : List (Nat × SO)) (h : List SO), (∀ o ∈ h, o.alive = false) → ∀ o ∈ killAll h l, o.alive = false
  | [], h, hh => hh
  | (i, x) :: r, h, hh => by
    simp only [killAll, setR_eq]
    refine killAll_dead r _ fun o ho => ?_
    rcases List.mem_or_eq_of_mem_set ho with h1 | h1
    · exact hh o h1
    · subst h1; rfl

theorem viewOf_dead {m : Nat} : ∀ (os : List Oper) (ds : List Did) (j : Nat) (tm : List (Option SV)) (h : List SO), ∀ o ∈ (viewOf false m tm h os ds j).2, o.alive = false
  | [], ds, j, tm, h, o, ho => by
    simp only [viewOf] at ho
    obtain ⟨x, _, hx⟩ := List.mem_map.1 (by simpa using ho : o ∈ h.map fun _ => SO.dead)
    subst hx; rfl
  | _ :: _, [], j, tm, h, o, ho => by
    simp only [viewOf] at ho
    obtain ⟨x, _, hx⟩ := List.mem_map.1 (by simpa using ho : o ∈ h.map fun _ => SO.dead)
    subst hx; rfl
  | o0 :: os, d :: ds, j, tm, h, o, ho => by
    simp only [viewOf] at ho
    split at ho
    · exact viewOf_dead os ds _ _ _ o ho
    · exact killAll_dead _ _ (viewOf_dead os ds _ _ _) o ho

theorem doneH_skip {S S' : Nat → Bool} : ∀ (h : List SO) (ds : List Did) (j : Nat), (∀ (i : Nat) (d : Did), ds[i]? = some d → S (j + i) = S' (j + i) ∨ (d.r.upd = [] ∧ d.r.new = [])) → doneH S h ds j = doneH S' h ds j
  | h, [], j, _ => rfl
  | h, d :: ds, j, hs => by
    simp only [doneH]
    have h0 : (if S j = true then d.r.heap h else h ++ d.r.new.map fun _ => .dead) = (if S' j = true then d.r.heap h else h ++ d.r.new.map fun _ => .dead) := by
      rcases hs 0 d rfl with h1 | ⟨h1, h2⟩
      · rw [Nat.add_zero] at h1; rw [h1]
      · have : d.r.heap h = h ++ d.r.new.map fun _ => .dead := by simp [R.heap, h1, h2, setAll, setR_eq]
        rw [this]; simp
    rw [h0]
    exact doneH_skip _ ds (j + 1) fun i d' hd => by
      have := hs (i + 1) d' (by simpa using hd)
      rwa [show j + (i + 1) = j + 1 + i by omega] at this

theorem Settled.val {n : En} {Φ : Spec} {ρ : Nat → Int} {r r' : R} (h : Settled Φ ρ r r') (hΦ : n.Φ = Φ) (hρ : n.ρ = ρ) : (r'.v.getD undefS).re n = (r.v.getD undefS).re n := by
  rcases h.v with h1 | ⟨e, h1, ⟨h2, h3⟩ | ⟨h2, h3⟩⟩
  · rw [h1]
  · rw [h1, h3]; simp [tt_re, SV.re, hΦ, hρ, h2]
  · rw [h1, h3]; simp [ff_re, SV.re, hΦ, hρ, h2]

section
variable {C : Ctx} {O : Owe} {F ro : Nat} {ops : Array Oper} {st : St} {ds : List Did} {n : En}

/-- Its view's length. -/
theorem Told.viewLen (T : Told C O F ro ops st ds n) {i : Nat} {o : Oper} (ho : ops[i]? = some o) : (viewAt C ops.toList (ahead ops.toList) st ds i o).heap.length = baseAt st.heap.length ds i := by
  have hi : i < ops.size := (Array.getElem?_eq_some_iff.1 ho).1
  have hl : (ds.take i).length = i := by simp [T.len]; omega
  have h1 := viewOf_heap (mem := reads C o) (m := maskOf (ahead ops.toList) i) (S := fun _ => true) (ops.toList.take i) (ds.take i) 0 (hideT i st.tmps (ops.toList.drop (i + 1)) ((ahead ops.toList).drop (i + 1))) st.heap st.heap (fun _ => False)
    (fun _ _ _ _ => rfl) (by simp [T.len]) ⟨rfl, fun b q hb _ _ => hb⟩
  have h2 := h1.1
  rw [doneH_len] at h2
  rw [← h2]
  simp only [viewAt]
  rw [viewOf_take, hl]

/-- What each has made is well-formed. -/
theorem Told.ok (T : Told C O F ro ops st ds n) {i : Nat} {d : Did} (hd : ds[i]? = some d) :
    (∀ p ∈ d.r.upd, p.2.Ok (baseAt st.heap.length ds (i + 1)) st.nv) ∧ (∀ o ∈ d.r.new, o.Ok (baseAt st.heap.length ds (i + 1)) st.nv) ∧ d.val.Ok (baseAt st.heap.length ds (i + 1)) st.nv := by
  have hi : i < ops.size := by rw [← T.len]; exact (List.getElem?_eq_some_iff.1 hd).1
  have ho : ops[i]? = some ops[i] := Array.getElem?_eq_getElem hi
  rcases T.step i _ ho with ⟨_, h1⟩ | ⟨r, r', h⟩
  · rw [hd] at h1; cases h1
    exact ⟨by simp, by simp, trivial⟩
  · have h1 := h.is
    rw [hd] at h1; cases h1
    have hf := h.fits
    unfold fits at hf
    simp only [Bool.and_eq_true] at hf
    have hok := hf.1.1
    rw [T.viewLen ho] at hok
    have hb : baseAt st.heap.length ds (i + 1) = baseAt st.heap.length ds i + r.new.length := by rw [baseAt_succ hd]; simp only; rw [h.settled.new]
    rw [← hb] at hok
    unfold R.okb at hok
    simp only [Bool.and_eq_true, List.all_eq_true] at hok
    refine ⟨?_, ?_, ?_⟩
    · simp only [h.settled.upd]; exact fun p hp => SO.okb_ok (hok.1.2 p hp)
    · simp only [h.settled.new]; exact fun o ho => SO.okb_ok (hok.2 o ho)
    · simp only [Did.val, if_true]
      rcases h.settled.v with h2 | ⟨e, _, ⟨_, h3⟩ | ⟨_, h3⟩⟩
      · rw [h2]
        cases hv : r.v with
        | none => trivial
        | some v =>
          have := hok.1.1
          rw [hv] at this
          exact SV.okb_ok v this
      · rw [h3]; simp [ttS, SV.Ok, E.under]
      · rw [h3]; simp [ffS, SV.Ok, E.under]

/-- It does not name what one makes that need not come ahead. -/
theorem Told.avoids (T : Told C O F ro ops st ds n) {i j : Nat} {di dj : Did} (hij : i < j) (hdi : ds[i]? = some di) (hdj : ds[j]? = some dj) (hm : (maskOf (ahead ops.toList) j).testBit i = false) :
    (∀ p ∈ dj.r.upd, p.2.av (baseAt st.heap.length ds i) (baseAt st.heap.length ds (i + 1)) = true) ∧ (∀ o ∈ dj.r.new, o.av (baseAt st.heap.length ds i) (baseAt st.heap.length ds (i + 1)) = true) ∧
      dj.val.av (baseAt st.heap.length ds i) (baseAt st.heap.length ds (i + 1)) = true := by
  have hj : j < ops.size := by rw [← T.len]; exact (List.getElem?_eq_some_iff.1 hdj).1
  have ho : ops[j]? = some ops[j] := Array.getElem?_eq_getElem hj
  rcases T.step j _ ho with ⟨_, h1⟩ | ⟨r, r', h⟩
  · rw [hdj] at h1; cases h1
    exact ⟨by simp, by simp, rfl⟩
  · have h1 := h.is
    rw [hdj] at h1; cases h1
    have hf := h.fits
    unfold fits at hf
    simp only [Bool.and_eq_true] at hf
    have hav := avoids_get hf.1.2 i di (by rw [List.getElem?_take, if_pos hij]; exact hdi)
    have hb : baseAt st.heap.length (ds.take j) i = baseAt st.heap.length ds i := by
      simp only [baseAt, List.take_take]; rw [Nat.min_eq_left (by omega)]
    rw [Nat.zero_add, hm, hb, ← baseAt_succ hdi] at hav
    rcases hav with h2 | h2 | h2
    · cases h2
    · have : baseAt st.heap.length ds (i + 1) = baseAt st.heap.length ds i := by rw [baseAt_succ hdi, h2]; rfl
      rw [this]
      exact ⟨fun p _ => SO.av_nil _, fun o _ => SO.av_nil o, SV.av_nil _⟩
    · unfold R.av at h2
      simp only [Bool.and_eq_true, List.all_eq_true] at h2
      refine ⟨?_, ?_, ?_⟩
      · simp only [h.settled.upd]; exact fun p hp => h2.1.2 p hp
      · simp only [h.settled.new]; exact fun o ho => h2.2 o ho
      · simp only [Did.val, if_true]
        rcases h.settled.v with h3 | ⟨e, _, ⟨_, h3⟩ | ⟨_, h3⟩⟩
        · rw [h3]
          cases hv : r.v with
          | none => rfl
          | some v =>
            have := h2.1.1
            rw [hv] at this
            exact this
        · rw [h3]; rfl
        · rw [h3]; rfl

/-- One that turns a block comes behind. -/
theorem Told.late (T : Told C O F ro ops st ds n) {i j : Nat} {oi : Oper} {di dj : Did} (hij : i < j) (hoi : ops[i]? = some oi) (hdi : ds[i]? = some di) (hdj : ds[j]? = some dj) (hu : dj.r.upd ≠ []) (hm : (maskOf (ahead ops.toList) j).testBit i = false) :
    reads C oi = false ∧ di.r.new = [] ∧ di.r.upd = [] := by
  have hj : j < ops.size := by rw [← T.len]; exact (List.getElem?_eq_some_iff.1 hdj).1
  have ho : ops[j]? = some ops[j] := Array.getElem?_eq_getElem hj
  rcases T.step j _ ho with ⟨_, h1⟩ | ⟨r, r', h⟩
  · rw [hdj] at h1; cases h1; exact absurd rfl hu
  · have h1 := h.is
    rw [hdj] at h1; cases h1
    have hf := h.fits
    unfold fits at hf
    simp only [Bool.and_eq_true, Bool.or_eq_true] at hf
    simp only [h.settled.upd] at hu
    rcases hf.2 with h2 | ⟨⟨_, h2⟩, _⟩
    · exact absurd (by simpa using h2) hu
    · rcases late_get h2 i oi di (by simpa using hoi) (by rw [List.getElem?_take, if_pos hij]; exact hdi) with h3 | h3
      · rw [Nat.zero_add, hm] at h3; cases h3
      · exact h3

/-- It turns living blocks that it sees. -/
theorem Told.turns (T : Told C O F ro ops st ds n) {i : Nat} {o : Oper} {d : Did} (ho : ops[i]? = some o) (hd : ds[i]? = some d) : ∀ p ∈ d.r.upd, ∃ o', (viewAt C ops.toList (ahead ops.toList) st ds i o).heap[p.1]? = some o' ∧ o'.alive = true := by
  rcases T.step i _ ho with ⟨_, h1⟩ | ⟨r, r', h⟩
  · rw [hd] at h1; cases h1; simp
  · have h1 := h.is
    rw [hd] at h1; cases h1
    have hf := h.fits
    unfold fits at hf
    simp only [Bool.and_eq_true, Bool.or_eq_true] at hf
    simp only [h.settled.upd]
    intro p hp
    rcases hf.2 with h2 | ⟨_, h2⟩
    · have : r.upd = [] := by simpa using h2
      rw [this] at hp; simp at hp
    · have h3 := List.all_eq_true.1 h2 p hp
      simp only [Bool.and_eq_true] at h3
      have h4 := h3.2
      split at h4
      · rename_i o' ho'
        refine ⟨o', ho', ?_⟩
        cases o' <;> first | rfl | cases h4
      · cases h4
end
end Go.Sx

/- A region that draws its order: one more operation done. -/
namespace Go.Sx
open Go.RowKit

/-- Where a frame stands within the region: those of 'S' have been done. -/
structure Inv (w0 : World) (kp : Nat → Prop) (hid : List Nat) (ro : Nat) (n : En) (st : St) (a : Act) (ops : Array Oper) (ds : List Did) (S : Nat → Bool) (n1 : En) (a1 : Act) (w1 : World) : Prop where
  defers : a1.defers = a.defers
  hr : HR w0 kp hid ro n1 st.nv (doneH S st.heap ds 0) w1
  ρ : n1.ρ = n.ρ
  ag : En.Agree st.heap.length st.nv n n1
  size : a1.tmps.size = a.tmps.size
  did : ∀ (i : Nat) (o : Oper) (d : Did) (t : Tmp), ops[i]? = some o → ds[i]? = some d → S i = true → o.dst = some t → a1.tmps[t]? = some (d.val.re n1)
  old : ∀ (t : Nat), (∀ (i : Nat) (o : Oper), ops[i]? = some o → S i = true → o.dst ≠ some t) → a1.tmps[t]? = a.tmps[t]?

section
variable {C : Ctx} {O : Owe} {F ro : Nat} {ops : Array Oper} {st : St} {ds : List Did} {n n1 : En} {w0 w1 : World} {kp : Nat → Prop} {hid : List Nat} {a a1 : Act} {S S' : Nat → Bool}

/-- Is it wanted? -/
theorem Inv.wanted (T : Told C O F ro ops st ds n) (I : Inv w0 kp hid ro n st a ops ds S n1 a1 w1) {i : Nat} {o : Oper} {b : Bool} (ho : ops[i]? = some o) (hpre : ∀ j, (maskOf (ahead ops.toList) i).testBit j = true → S j = true)
    (hw : wantedDid ops.toList (maskOf (ahead ops.toList) i) (ds.take i) o = some b) : Region.wanted o (yielded ops a1.tmps) = b := by
  unfold wantedDid at hw
  unfold Region.wanted
  split at hw
  · rename_i hg; simp [hg]; simpa using hw
  · rename_i j want hg
    simp only [hg]
    split at hw
    rotate_left
    · cases hw
    rename_i hc
    obtain ⟨hbit, hsome⟩ := hc
    obtain ⟨t, ht⟩ := Option.isSome_iff_exists.1 hsome
    simp only [Option.bind_eq_some_iff] at ht
    obtain ⟨oj, hoj, hdst⟩ := ht
    have hoj' : ops[j]? = some oj := by simpa using hoj
    have hy : ∀ (d : Did), ds[j]? = some d → yielded ops a1.tmps j = (match d.val.re n1 with | .bool b => some b | _ => none) := by
      intro d hd
      have := I.did j oj d t hoj' hd (hpre j hbit) hdst
      simp only [yielded, hoj', Option.bind_some, hdst, this]
      cases d.val.re n1 <;> rfl
    have hget : ∀ {d : Did}, (ds.take i)[j]? = some d → ds[j]? = some d := by
      intro d hd
      rw [List.getElem?_take] at hd
      split at hd
      · exact hd
      · cases hd
    split at hw
    · rename_i k m u v hd
      simp only [Option.some.injEq] at hw
      rw [hy _ (hget hd)]
      simp only [Did.val, if_true, Option.getD_some, SV.re, E.den]
      rw [← hw]
      by_cases hz : k.norm m = 0 <;> cases want <;> simp [hz]
    · rename_i r hd
      simp only [Option.some.injEq] at hw
      rw [hy _ (hget hd), ← hw]
      simp [Did.val, undefS, SV.re, SV.reL]
    · cases hw

/-- What operation i sees of the slots. -/
theorem Inv.viewTR (T : Told C O F ro ops st ds n) (I : Inv w0 kp hid ro n st a ops ds S n1 a1 w1) (hT : TR n st.heap.length st.nv st.tmps a.tmps) {i : Nat} {o : Oper} (ho : ops[i]? = some o) (hSi : S i = false)
    (hpre : ∀ j, (maskOf (ahead ops.toList) i).testBit j = true → S j = true) (hpost : ∀ j, S j = true → (maskOf (ahead ops.toList) j).testBit i = false) :
    TR n1 (viewAt C ops.toList (ahead ops.toList) st ds i o).heap.length st.nv (viewAt C ops.toList (ahead ops.toList) st ds i o).tmps a1.tmps := by
  have hi : i < ops.size := (Array.getElem?_eq_some_iff.1 ho).1
  have hl : (ds.take i).length = i := by simp [T.len]; omega
  rw [T.viewLen ho]
  refine ⟨?_, fun t u hu => ?_⟩
  · simp only [viewAt, viewOf_length, hideT_length]
    rw [I.size]; exact hT.1
  · simp only [viewAt] at hu
    rw [viewOf_take, hl] at hu
    rcases viewOf_get (ops.toList.take i) (ds.take i) 0 _ _ (by simp [T.len]) hu with ⟨j, oj, dj, h1, h2, h3, h4, h5⟩ | ⟨h1, h2⟩
    · have hj : j < i := by
        have := (List.getElem?_eq_some_iff.1 h2).1
        omega
      rw [List.getElem?_take, if_pos hj] at h1 h2
      have hoj : ops[j]? = some oj := by simpa using h1
      rw [Nat.zero_add] at h3
      subst h5
      exact ⟨SV.Ok_mono (baseAt_le (by omega)) (Nat.le_refl _) _ (T.ok h2).2.2, I.did j oj dj t hoj h2 (hpre j h3) h4⟩
    · obtain ⟨h3, h4⟩ := hideT_get _ _ _ (by simp [ahead_length]) h1
      obtain ⟨h5, h6⟩ := hT.2 t u h3
      refine ⟨SV.Ok_mono (by have := baseAt_le (N := st.heap.length) (ds := ds) (Nat.zero_le i); rwa [baseAt_zero] at this) (Nat.le_refl _) _ h5, ?_⟩
      rw [I.old t, h6, SV.re_agree I.ag u h5]
      intro j oj hoj hSj hdst
      rcases Nat.lt_trichotomy j i with hlt | heq | hgt
      · exact h2 j oj (by rw [List.getElem?_take, if_pos hlt]; simpa using hoj) hdst
      · subst heq; rw [hSi] at hSj; cases hSj
      · have hjl : j < (ahead ops.toList).length := by rw [ahead_length]; simpa using (Array.getElem?_eq_some_iff.1 hoj).1
        have := h4 (j - (i + 1)) oj (maskOf (ahead ops.toList) j) (by rw [List.getElem?_drop, show i + 1 + (j - (i + 1)) = j by omega]; simpa using hoj)
          (by rw [List.getElem?_drop, show i + 1 + (j - (i + 1)) = j by omega]; unfold maskOf; rw [List.getElem?_eq_getElem hjl]; rfl) hdst
        rw [hpost j hSj] at this; cases this

/-- What operation i sees of memory: the facts. -/
theorem Inv.facts (T : Told C O F ro ops st ds n) (I : Inv w0 kp hid ro n st a ops ds S n1 a1 w1) {i : Nat} {o : Oper} {d : Did} (ho : ops[i]? = some o) (hd : ds[i]? = some d) (hSi : S i = false) (hS' : S' = fun j => S j || j == i)
    (hpre : ∀ j, (maskOf (ahead ops.toList) i).testBit j = true → S j = true) (hpost : ∀ j, S j = true → (maskOf (ahead ops.toList) j).testBit i = false) :
    let hv := (viewAt C ops.toList (ahead ops.toList) st ds i o).heap
    (∀ (b : Nat) (o : SO), hv[b]? = some o → o.alive = true → (doneH S st.heap (ds.take i) 0)[b]? = some o) ∧
    (∀ (b : Nat) (o : SO), hv[b]? = some o → o.alive = true → (doneH S st.heap ds 0)[b]? = some o) ∧
    (∀ (b : Nat) (o : SO), hv.length ≤ b → b < (d.r.heap hv).length → (doneH S st.heap ds 0)[b]? = some o → o.alive = false) ∧
    (doneH S' st.heap ds 0).length = (doneH S st.heap ds 0).length ∧
    (d.r.heap hv).length ≤ (doneH S st.heap ds 0).length ∧
    (∀ (b : Nat) (o : SO), (doneH S' st.heap ds 0)[b]? = some o → o.alive = true → (d.r.heap hv)[b]? = some o ∨ ((doneH S st.heap ds 0)[b]? = some o ∧ ∀ (o' : SO), hv[b]? = some o' → o'.alive = false)) := by
  intro hv
  have hi : i < ops.size := (Array.getElem?_eq_some_iff.1 ho).1
  have hl : (ds.take i).length = i := by simp [T.len]; omega
  have hsplit : ds = ds.take i ++ d :: ds.drop (i + 1) := by
    have h1 : ds.drop i = d :: ds.drop (i + 1) := by
      rw [List.drop_eq_getElem_cons (by rw [T.len]; exact hi)]
      congr 1
      have := List.getElem?_eq_getElem (l := ds) (i := i) (by rw [T.len]; exact hi)
      rw [hd] at this; cases this; rfl
    rw [← h1, List.take_append_drop]
  have hpart : Part (fun _ => False) hv (doneH S st.heap (ds.take i) 0) := by
    have := viewOf_heap (mem := reads C o) (m := maskOf (ahead ops.toList) i) (S := S) (ops.toList.take i) (ds.take i) 0 (hideT i st.tmps (ops.toList.drop (i + 1)) ((ahead ops.toList).drop (i + 1))) st.heap st.heap (fun _ => False)
      (fun j h1 _ _ => hpre j h1) (by simp [T.len]) ⟨rfl, fun b q hb _ _ => hb⟩
    show Part _ (viewAt C ops.toList (ahead ops.toList) st ds i o).heap _
    simp only [viewAt]
    rw [viewOf_take, hl]
    exact this
  have hlen : hv.length = (doneH S st.heap (ds.take i) 0).length := hpart.1
  have key := done_facts (S := S) (S' := S') (h0 := st.heap) (hv := hv) (pre := ds.take i) (post := ds.drop (i + 1)) (d := d) (by rw [hl]; exact hSi) (by rw [hl, hS']; simp) (by rw [hl, hS']; intro j hj; simp [hj]) hlen (by
    by_cases hx : ∀ (j : Nat) (d' : Did), (ds.drop (i + 1))[j]? = some d' → S ((ds.take i).length + 1 + j) = true → d'.r.upd = []
    · exact .inl ⟨hpart, hx⟩
    · right
      have hx' : ∃ (j : Nat) (d' : Did), (ds.drop (i + 1))[j]? = some d' ∧ S ((ds.take i).length + 1 + j) = true ∧ d'.r.upd ≠ [] := by
        refine Classical.byContradiction fun hn => hx fun j d' h1 h2 => Classical.byContradiction fun h3 => hn ⟨j, d', h1, h2, h3⟩
      obtain ⟨j, d', h1, h2, h3⟩ := hx'
      rw [hl] at h2
      rw [List.getElem?_drop] at h1
      obtain ⟨h4, h5, h6⟩ := T.late (i := i) (j := i + 1 + j) (by omega) ho hd h1 h3 (hpost _ h2)
      refine ⟨fun b q hb => ?_, h6, h5⟩
      have hb' := List.mem_of_getElem? hb
      simp only [hv, viewAt, h4] at hb'
      exact viewOf_dead _ _ _ _ _ _ hb')
  rw [← hsplit] at key
  exact ⟨fun b o hb ha => hpart.2 b o hb ha (fun h => h), key⟩

/-- One more has been done. -/
theorem Inv.fin (T : Told C O F ro ops st ds n) (I : Inv w0 kp hid ro n st a ops ds S n1 a1 w1) (hokSt : ∀ o ∈ st.heap, o.Ok st.heap.length st.nv) (hlow : ro ≤ st.heap.length) (hT : TR n st.heap.length st.nv st.tmps a.tmps)
    {i : Nat} {o : Oper} {d : Did} (ho : ops[i]? = some o) (hd : ds[i]? = some d) (hSi : S i = false) (hS' : S' = fun j => S j || j == i)
    (hpre : ∀ j, (maskOf (ahead ops.toList) i).testBit j = true → S j = true) (hpost : ∀ j, S j = true → (maskOf (ahead ops.toList) j).testBit i = false) {n2 : En} {w2 : World}
    (hag : En.Agree (viewAt C ops.toList (ahead ops.toList) st ds i o).heap.length st.nv n1 n2) (hρ : n2.ρ = n1.ρ)
    (H1 : HR w1 (seen w1 hid ro n1 (viewAt C ops.toList (ahead ops.toList) st ds i o).heap) hid ro n2 st.nv (d.r.heap (viewAt C ops.toList (ahead ops.toList) st ds i o).heap) w2) :
    Inv w0 kp hid ro n st a ops ds S' (n1.over n2 (d.r.heap (viewAt C ops.toList (ahead ops.toList) st ds i o).heap).length) (a1.put o.dst (d.val.re n2)) w2 := by
  obtain ⟨_, f1, f2, f3, f4, f5⟩ := I.facts T ho hd hSi hS' hpre hpost
  have hvl := T.viewLen ho
  generalize hhv : (viewAt C ops.toList (ahead ops.toList) st ds i o).heap = hv at *
  have hturn := T.turns ho hd
  rw [hhv] at hturn
  have hb1 : (d.r.heap hv).length = baseAt st.heap.length ds (i + 1) := by rw [heap_length, hvl, baseAt_succ hd]
  have hle : hv.length ≤ (d.r.heap hv).length := by rw [heap_length]; omega
  have hN : st.heap.length ≤ hv.length := by
    have := baseAt_le (N := st.heap.length) (ds := ds) (Nat.zero_le i)
    rw [baseAt_zero] at this; omega
  have hbut := En.over_but (b := (d.r.heap hv).length) hag hle
  have hov : En.Agree (d.r.heap hv).length st.nv n2 (n1.over n2 (d.r.heap hv).length) := En.over_agree
  -- done operations do not name what has been reserved
  have hav1 : ∀ {j : Nat} {dj : Did}, ds[j]? = some dj → S j = true → (∀ p ∈ dj.r.upd, p.2.av hv.length (d.r.heap hv).length = true) ∧ (∀ q ∈ dj.r.new, q.av hv.length (d.r.heap hv).length = true) ∧ dj.val.av hv.length (d.r.heap hv).length = true := by
    intro j dj hdj hSj
    rcases Nat.lt_trichotomy j i with hlt | heq | hgt
    · have hb : baseAt st.heap.length ds (j + 1) ≤ hv.length := by rw [hvl]; exact baseAt_le (by omega)
      obtain ⟨h1, h2, h3⟩ := T.ok hdj
      exact ⟨fun p hp => SO.av_ok hb (h1 p hp), fun q hq => SO.av_ok hb (h2 q hq), SV.av_ok hb _ h3⟩
    · subst heq; rw [hSi] at hSj; cases hSj
    · have := T.avoids hgt hd hdj (hpost j hSj)
      rw [← hvl, ← hb1] at this
      exact this
  have hmerge := I.hr.merge (hv := hv) (M' := doneH S' st.heap ds 0) f1 H1 hag hle (Nat.le_trans hlow hN) (by
    intro b q hb hq ha
    by_cases hx : ∃ p ∈ d.r.upd, p.1 = b
    · obtain ⟨p, hp, rfl⟩ := hx
      exact hturn p hp
    · rw [R.heap, List.getElem?_append_left (by rw [setAll_length]; exact hb), setAll_other _ _ (fun p hp e => hx ⟨p, hp, e⟩)] at hq
      exact ⟨q, hq, ha⟩) f2 (by
    intro b q hb ha
    rcases doneH_from _ _ _ hb ha with h1 | ⟨j, dj, h1, h2, h3⟩
    · exact SO.av_ok hN (hokSt q h1)
    · rw [Nat.zero_add] at h2
      obtain ⟨h4, h5, _⟩ := hav1 h1 h2
      rcases h3 with h3 | h3
      · obtain ⟨p, hp, rfl⟩ := List.mem_map.1 h3
        exact h4 p hp
      · exact h5 q h3) f3 f4 f5
  refine ⟨by rw [put_defers]; exact I.defers, hmerge, ?_, ?_, ?_, ?_, ?_⟩
  · show n2.ρ = n.ρ
    rw [hρ, I.ρ]
  · refine I.ag.trans ⟨hbut.Φ, hbut.ρ, fun j hj => hbut.ε j (.inl (by omega)), fun j hj => hbut.κ j (.inl (by omega))⟩
  · rw [← I.size]
    cases o.dst <;> simp [Act.put]
  · intro j oj dj t hoj hdj hSj hdst
    by_cases hji : j = i
    · subst hji
      rw [ho] at hoj; cases hoj
      rw [hd] at hdj; cases hdj
      simp only [Act.put, hdst, Array.getElem?_setIfInBounds]
      have htb : t < a1.tmps.size := by rw [I.size, hT.1]; exact T.inb j o t ho hdst
      rw [if_pos trivial, if_pos htb]
      congr 1
      exact SV.re_agree hov _ (by rw [hb1]; exact (T.ok hd).2.2)
    · have hSj' : S j = true := by rw [hS'] at hSj; simpa [hji] using hSj
      have hold := I.did j oj dj t hoj hdj hSj' hdst
      have hput : (a1.put o.dst (d.val.re n2)).tmps[t]? = a1.tmps[t]? := by
        cases hod : o.dst with
        | none => rfl
        | some t' =>
          simp only [Act.put, Array.getElem?_setIfInBounds]
          rw [if_neg]
          intro e; subst e
          exact hji (T.slots j i oj o t' hoj ho hdst hod)
      rw [hput, hold]
      congr 1
      exact SV.re_av hbut _ (T.ok hdj).2.2 (hav1 hdj hSj').2.2
  · intro t ht
    have hput : (a1.put o.dst (d.val.re n2)).tmps[t]? = a1.tmps[t]? := by
      cases hod : o.dst with
      | none => rfl
      | some t' =>
        simp only [Act.put, Array.getElem?_setIfInBounds]
        rw [if_neg]
        intro e; subst e
        exact ht i o ho (by rw [hS']; simp) hod
    rw [hput]
    exact I.old t fun j oj hoj hSj => ht j oj hoj (by rw [hS']; simp [hSj])
end
end Go.Sx

/- A region that draws its order is sound. -/
namespace Go.Sx
open Go.RowKit

/-- What is left of a block that a call may have turned. -/
theorem setAll_turned {nv : Nat} : ∀ (h h' : List SO) (pre : List SO), h.length ≤ h'.length → ∀ (b : Nat) (q : SO), (setAll (pre ++ h) (turned nv h h' pre.length))[pre.length + b]? = some q → b < h.length → q.alive = true →
    ∃ q', h'[b]? = some q' ∧ (q' = q ∨ sameSO nv [] q q' = true)
  | [], h', pre, _, b, q, _, hb, _ => by simp at hb
  | o :: h, [], pre, hl, b, q, _, _, _ => by simp at hl
  | o :: h, o' :: h', pre, hl, b, q, hq, hb, ha => by
    simp only [turned] at hq
    have hfirst : ∀ (x : SO) (l : List (Nat × SO)), (∀ p ∈ l, pre.length < p.1) → (setAll (pre ++ x :: h) l)[pre.length]? = some x := by
      intro x l hl'
      rw [setAll_other _ _ (fun p hp e => by have := hl' p hp; omega)]
      simp
    have hmore : ∀ (h h' : List SO) (i : Nat), ∀ p ∈ turned nv h h' i, i ≤ p.1 := by
      intro h
      induction h with
      | nil => intro h' i p hp; simp [turned] at hp
      | cons x h ih =>
        intro h' i p hp
        cases h' with
        | nil => simp [turned] at hp
        | cons y h' =>
          simp only [turned] at hp
          split at hp
          · have := ih h' (i + 1) p hp; omega
          · rcases List.mem_cons.1 hp with rfl | hp
            · exact Nat.le_refl _
            · have := ih h' (i + 1) p hp; omega
    have hbeh : ∀ p ∈ turned nv h h' (pre.length + 1), pre.length < p.1 := fun p hp => hmore h h' _ p hp
    split at hq
    · rename_i hs
      cases b with
      | zero =>
        have hq' : (setAll (pre ++ o :: h) (turned nv h h' (pre.length + 1)))[pre.length]? = some q := hq
        rw [hfirst o _ hbeh] at hq'
        cases hq'
        exact ⟨o', rfl, .inr hs⟩
      | succ b =>
        have := setAll_turned (nv := nv) h h' (pre ++ [o]) (by simpa using hl) b q (by simpa [Nat.add_assoc, Nat.add_comm 1 b] using hq) (by simpa using hb) ha
        simpa using this
    · simp only [setAll, setR_eq] at hq
      have hset : (pre ++ o :: h).set pre.length o' = pre ++ o' :: h := by simp
      rw [hset] at hq
      cases b with
      | zero =>
        have hq' : (setAll (pre ++ o' :: h) (turned nv h h' (pre.length + 1)))[pre.length]? = some q := hq
        rw [hfirst o' _ hbeh] at hq'
        cases hq'
        exact ⟨o', rfl, .inl rfl⟩
      | succ b =>
        have := setAll_turned (nv := nv) h h' (pre ++ [o']) (by simpa using hl) b q (by simpa [Nat.add_assoc, Nat.add_comm 1 b] using hq) (by simpa using hb) ha
        simpa using this

/-- What a call has done, told as turns. -/
theorem HR.turned {w0 w : World} {kp : Nat → Prop} {hid : List Nat} {ro : Nat} {n : En} {m : Nat} {hv h' : List SO} (H : HR w0 kp hid ro n m h' w) (hl : hv.length ≤ h'.length) (v : Option SV) :
    HR w0 kp hid ro n m ((⟨v, Sx.turned m hv h' 0, h'.drop hv.length⟩ : R).heap hv) w := by
  have hlen : ((⟨v, Sx.turned m hv h' 0, h'.drop hv.length⟩ : R).heap hv).length = h'.length := by rw [heap_length]; simp; omega
  have hhead : n.head m [] = n := by
    cases n; simp [En.head, E.denL, upd_nil]
  refine H.swap (fun _ _ _ _ => rfl) fun i o hi ha => ?_
  rw [hlen]
  by_cases hb : i < hv.length
  · rw [R.heap, List.getElem?_append_left (by rw [setAll_length]; exact hb)] at hi
    obtain ⟨q', h1, h2⟩ := setAll_turned (nv := m) hv h' [] hl i o (by simpa using hi) hb ha
    rcases h2 with rfl | h2
    · exact ⟨q', h1, ha, fun x hx => hx⟩
    · obtain ⟨h3, _⟩ := sameSO_or (n := n) h2 ha (H.blk i q' h1)
      refine ⟨q', h1, h3, fun x hx => ?_⟩
      have := (sameSO_or (n := n) h2 ha hx).2
      rw [hhead] at this
      simpa using this
  · rw [R.heap, List.getElem?_append_right (by rw [setAll_length]; omega), setAll_length, List.getElem?_drop, show hv.length + (i - hv.length) = i by omega] at hi
    exact ⟨o, hi, ha, fun x hx => hx⟩

section
variable {C : Ctx} {O : Owe} {F ro : Nat} {ops : Array Oper} {st : St} {ds : List Did} {n : En} {w0 : World} {kp : Nat → Prop} {hid : List Nat} {a : Act} {r : Option Nat} {k : Nat} {QQ : Exit → Act → World → Prop}

def inL (l : List Nat) : Nat → Bool := fun j => decide (j ∈ l)

theorem draw_go (hC : CtxOk C n.Φ O) (ic : ∀ f', f' < F → CallOpOk { C with loops := [] } O f') (T : Told C O F ro ops st ds n) (hokSt : ∀ o ∈ st.heap, o.Ok st.heap.length st.nv) (hlow : ro ≤ st.heap.length) (hT : TR n st.heap.length st.nv st.tmps a.tmps)
    {L : List Nat} (hL : Lin ops L) (hQ : ∀ (n1 : En) (a1 : Act) (w1 : World), Inv w0 kp hid ro n st a ops ds (inL L) n1 a1 w1 → QQ .normal a1 w1) :
    ∀ (l2 l1 : List Nat) (n1 : En) (a1 : Act) (w1 : World), L = l1 ++ l2 → Inv w0 kp hid ro n st a ops ds (inL l1) n1 a1 w1 → wpOpsIn (fenAt r) k C.P ops QQ l2 a1 w1 := by
  intro l2
  induction l2 with
  | nil =>
    intro l1 n1 a1 w1 hl I
    have : L = l1 := by simpa using hl
    subst this
    exact hQ n1 a1 w1 I
  | cons i l2 ih =>
    intro l1 n1 a1 w1 hl I
    have hi : i < ops.size := (hL.mem i).1 (by rw [hl]; simp)
    have ho : ops[i]? = some ops[i] := Array.getElem?_eq_getElem hi
    generalize ops[i] = o at ho
    have hnd := hL.nodup
    rw [hl] at hnd
    have hnot : i ∉ l1 := by
      intro h
      exact (List.nodup_append.1 hnd).2.2 i h i List.mem_cons_self rfl
    have hSi : inL l1 i = false := by simp [inL, hnot]
    have hS' : inL (l1 ++ [i]) = fun j => inL l1 j || j == i := by
      funext j
      by_cases h1 : j ∈ l1 <;> by_cases h2 : j = i <;> simp [inL, h1, h2]
    have hpre : ∀ j, (maskOf (ahead ops.toList) i).testBit j = true → inL l1 j = true := by
      intro j hj
      simp only [inL, decide_eq_true_eq]
      exact ahead_done T.plain hL i l1 l2 hl j hj
    have hpost : ∀ j, inL l1 j = true → (maskOf (ahead ops.toList) j).testBit i = false := by
      intro j hj
      simp only [inL, decide_eq_true_eq] at hj
      cases hb : (maskOf (ahead ops.toList) j).testBit i with
      | false => rfl
      | true =>
        obtain ⟨p, q, hpq⟩ := List.append_of_mem hj
        have := ahead_done T.plain hL j p (q ++ i :: l2) (by rw [hl, hpq]; simp) i hb
        exact absurd (by rw [hpq]; simp [this]) hnot
    have next : ∀ (n3 : En) (a3 : Act) (w3 : World), Inv w0 kp hid ro n st a ops ds (inL (l1 ++ [i])) n3 a3 w3 → wpOpsIn (fenAt r) k C.P ops QQ l2 a3 w3 := by
      intro n3 a3 w3 I3
      exact ih (l1 ++ [i]) n3 a3 w3 (by rw [hl]; simp) I3
    simp only [wpOpsIn, ho]
    rcases T.step i o ho with ⟨hw, hd⟩ | ⟨rr, rr', hran⟩
    · have hwant := I.wanted T ho hpre hw
      rw [if_neg (by rw [hwant]; simp)]
      refine ⟨fun _ _ => trivial, ?_⟩
      have hag0 : En.Agree (viewAt C ops.toList (ahead ops.toList) st ds i o).heap.length st.nv n1 n1 := En.Agree.refl _ _ _
      obtain ⟨f0, f1, _⟩ := I.facts T ho hd hSi hS' hpre hpost
      have hsame : doneH (inL l1) st.heap ds 0 = doneH (inL (l1 ++ [i])) st.heap ds 0 := by
        refine doneH_skip _ _ _ fun j d hj => ?_
        by_cases e : j = i
        · subst e; rw [hd] at hj; cases hj; exact .inr ⟨rfl, rfl⟩
        · left; rw [hS']; simp [e]
      refine next n1 _ w1 ⟨by rw [put_defers]; exact I.defers, hsame ▸ I.hr, I.ρ, I.ag, ?_, ?_, ?_⟩
      · rw [← I.size]; cases o.dst <;> simp [Act.put]
      · intro j oj dj t hoj hdj hSj hdst
        by_cases hji : j = i
        · subst hji
          rw [ho] at hoj; cases hoj
          rw [hd] at hdj; cases hdj
          simp only [Act.put, hdst, Array.getElem?_setIfInBounds]
          have htb : t < a1.tmps.size := by rw [I.size, hT.1]; exact T.inb j o t ho hdst
          rw [if_pos trivial, if_pos htb]
          rfl
        · have hSj' : inL l1 j = true := by rw [hS'] at hSj; simpa [hji] using hSj
          have hput : (a1.put o.dst undef).tmps[t]? = a1.tmps[t]? := by
            cases hod : o.dst with
            | none => rfl
            | some t' =>
              simp only [Act.put, Array.getElem?_setIfInBounds]
              rw [if_neg]
              intro e; subst e
              exact hji (T.slots j i oj o t' hoj ho hdst hod)
          rw [hput, I.did j oj dj t hoj hdj hSj' hdst]
      · intro t ht
        have hput : (a1.put o.dst undef).tmps[t]? = a1.tmps[t]? := by
          cases hod : o.dst with
          | none => rfl
          | some t' =>
            simp only [Act.put, Array.getElem?_setIfInBounds]
            rw [if_neg]
            intro e; subst e
            exact ht i o ho (by rw [hS']; simp) hod
        rw [hput]
        exact I.old t fun j oj hoj hSj => ht j oj hoj (by rw [hS']; simp [hSj])
    · have hwant := I.wanted T ho hpre hran.want
      rw [if_pos hwant]
      have hd := hran.is
      have hTR := I.viewTR T hT ho hSi hpre hpost
      obtain ⟨f0, f1, _⟩ := I.facts T ho hd hSi hS' hpre hpost
      have hvl := T.viewLen ho
      have hN : st.heap.length ≤ (viewAt C ops.toList (ahead ops.toList) st ds i o).heap.length := by
        have := baseAt_le (N := st.heap.length) (ds := ds) (Nat.zero_le i)
        rw [baseAt_zero] at this; omega
      -- the part of memory that it sees
      have hpart := I.hr.part f1 (by
        intro b q hb ha
        rcases doneH_from _ _ _ (f0 b q hb ha) ha with h1 | ⟨j, dj, h1, h2, h3⟩
        · exact SO.Ok_mono hN (Nat.le_refl _) (hokSt q h1)
        · rw [List.getElem?_take] at h1
          split at h1
          · rename_i hji
            obtain ⟨h4, h5, _⟩ := T.ok h1
            have hb' : baseAt st.heap.length ds (j + 1) ≤ (viewAt C ops.toList (ahead ops.toList) st ds i o).heap.length := by rw [hvl]; exact baseAt_le (by omega)
            rcases h3 with h3 | h3
            · obtain ⟨p, hp, rfl⟩ := List.mem_map.1 h3
              exact SO.Ok_mono hb' (Nat.le_refl _) (h4 p hp)
            · exact SO.Ok_mono hb' (Nat.le_refl _) (h5 q h3)
          · cases h1)
      have hheap : ∀ h, (⟨true, rr'⟩ : Did).r.heap h = rr.heap h := fun h => by simp only [R.heap, hran.settled.upd, hran.settled.new]
      have hΦ1 : n1.Φ = n.Φ := I.ag.Φ.symm
      rcases hran.run with ⟨hcall, hE⟩ | ⟨hcall, f', fv, args, v, h', hf', hcal, hrr, hE⟩
      · rw [← hΦ1, ← I.ρ] at hE
        obtain ⟨r0, ⟨_, hr0⟩, x, w', hrun, hdo⟩ := sop_sound o (fun s vs r h => by rw [hΦ1]; exact (hC.fold s vs r h).1) hpart hTR hE
        subst hr0
        obtain ⟨n2, hag2, hρ2, hH2, hx, hvok⟩ := hdo _ (Sub.refl _) hpart
        have I3 := I.fin T hokSt hlow hT ho hd hSi hS' hpre hpost hag2 hρ2 (by rw [hheap]; exact hH2)
        refine ⟨fun _ _ => trivial, ?_⟩
        rw [Oper.semAt_eq _ _ _ (sop_defer hE), hrun]
        have hval : (⟨true, rr'⟩ : Did).val.re n2 = (r0.v.getD undefS).re n2 := by
          simp only [Did.val, if_true]
          exact hran.settled.val (by rw [← hag2.Φ, hΦ1]) (by rw [hρ2, I.ρ])
        rw [hval] at I3
        unfold NextIs at hx
        cases hv : r0.v with
        | none =>
          rw [hv] at hx I3; simp only at hx; subst hx
          exact next _ _ _ I3
        | some u =>
          rw [hv] at hx I3; simp only at hx; subst hx
          exact next _ _ _ I3
      · rw [← hΦ1, ← I.ρ] at hE
        have hC' : CtxOk { C with loops := [] } n1.Φ O := by
          rw [hΦ1]; exact ⟨hC.con, hC.fold, hC.noGo, hC.has, hC.mixed, hC.ext⟩
        refine ic f' hf' ro o fv args (viewAt C ops.toList (ahead ops.toList) st ds i o) _ _ _ hid n1 a1 w1 r k _ _ hC' hpart hTR (Nat.le_trans hlow hN) hcal hE ?_
        rintro n2 v2 h2 nv2 w2 ⟨hρ2, heq⟩ hH2 hvok hg2
        simp only [Prod.mk.injEq] at heq
        obtain ⟨rfl, rfl, rfl⟩ := heq
        have hH3 := hH2.turned hg2.len (some v2)
        have hag2 : En.Agree (viewAt C ops.toList (ahead ops.toList) st ds i o).heap.length st.nv n1 n2 := hg2.ag
        have I3 := I.fin T hokSt hlow hT ho hd hSi hS' hpre hpost hag2 hρ2 (by rw [hheap, hrr]; exact hH3)
        have hval : (⟨true, rr'⟩ : Did).val.re n2 = v2.re n2 := by
          have := hran.settled.val (n := n2) (by rw [← hag2.Φ, hΦ1]) (by rw [hρ2, I.ρ])
          simp only [Did.val, if_true]
          rw [this, hrr]; rfl
        rw [hval] at I3
        exact next _ _ _ I3
end

theorem HR.drawnTo {w0 w : World} {kp : Nat → Prop} {hid : List Nat} {ro : Nat} {n : En} {m : Nat} {h : List SO} (H : HR w0 kp hid ro n m h w) (k : Nat) : HR w0 kp hid ro n m h { w with drawn := k } :=
  ⟨H.os, H.tape, H.output, H.size, H.kept, H.hids, H.nodup, H.blk, H.inj, H.own, H.nohid⟩

theorem ok_draw {C : Ctx} {O : Owe} {f : Nat} (ic : ∀ f', f' < f → CallOpOk { C with loops := [] } O f') {id : Nat} {ops : Array Oper} {cur ro : Nat} {rd : Option Nat} {st : St} {Q : (Nat → Int) → X × St → Prop}
    {w0 : World} {kp : Nat → Prop} {hid : List Nat} {n : En} {a : Act} {w : World} {r : Option Nat} {k : Nat}
    (hC : CtxOk C n.Φ O) (H : Rel w0 kp hid ro rd n st a w) (hni : ops.toList.any isIns = false) (hE : (exec C (f + 1) ro cur rd (.region id ops true) st).Ev n.Φ O n.ρ Q) :
    (Code.region id ops true).wpIn (fenAt r) k C.P (Post C w0 kp hid ro rd n st Q) a w := by
  simp only [exec] at hE
  rw [if_neg (by rw [hni]; simp)] at hE
  split at hE
  rotate_left
  · exact hE.elim
  rename_i hplain
  obtain ⟨h1, h2, h3⟩ := plainOps_facts hplain
  rw [T.Ev_bind] at hE
  obtain ⟨ds, hq, hds⟩ := T.Free.ev (free_draw _ _ _ _ _ _ _) hE
  obtain ⟨h4, _, h5⟩ := draw_steps f f ops.toList [] (Nat.le_refl _) (by simp) hds (by simp)
  have hlen : ds.length = ops.size := by simpa using h4
  have T : Told C O f ro ops st ds n := ⟨h1, h2, h3, hlen, fun i o ho => h5 i o (Nat.zero_le _) (by simpa using ho)⟩
  obtain ⟨hc, hd, hrd, hH⟩ := H.hr
  have hok := H.okAt
  have hokSt : ∀ o ∈ st.heap, o.Ok st.heap.length st.nv := by
    intro o ho
    obtain ⟨i, hi⟩ := List.getElem?_of_mem ho
    exact hok.1 i o hi
  refine wpIn_region_draw fun t => ?_
  rw [hC.mixed]
  have hL := lin_schedule h1 t
  have hall : ∀ i, i < ops.size → inL (Region.schedule true ops t) i = true := fun i hi => by
    simp only [inL, decide_eq_true_eq]; exact (hL.mem i).2 hi
  refine draw_go (F := f) hC ic T hokSt H.low H.tr hL ?_ _ [] n a { w with drawn := w.drawn + 1 } rfl ?_ (w0 := w0) (kp := kp) (hid := hc ++ hid)
  · intro n1 a1 w1 I
    refine ⟨n1, .norm, { st with tmps := (allOf st.tmps st.heap ops.toList ds).1, heap := (allOf st.tmps st.heap ops.toList ds).2 }, by rw [I.ρ]; exact hq, rfl, ⟨⟨hc, by rw [I.defers]; exact hd, hrd, ?_⟩, ?_, ?_⟩, ⟨I.ag, ?_, Nat.le_refl _⟩⟩
    · have : (allOf st.tmps st.heap ops.toList ds).2 = doneH (inL (Region.schedule true ops t)) st.heap ds 0 := by
        rw [allOf_heap _ _ _ _ 0 (by simp [hlen])]
        refine doneH_congr _ _ _ fun i _ hi => ?_
        rw [hall i (by omega)]
      simp only
      rw [this]; exact I.hr
    · have hle : st.heap.length ≤ (allOf st.tmps st.heap ops.toList ds).2.length := by
        rw [allOf_heap _ _ _ _ 0 (by simp [hlen]), doneH_length]; omega
      have hbase : ∀ i, baseAt st.heap.length ds i ≤ (allOf st.tmps st.heap ops.toList ds).2.length := by
        intro i
        rw [allOf_heap _ _ _ _ 0 (by simp [hlen])]
        have h6 := doneH_len (S := fun _ => true) st.heap ds ds.length
        rw [List.take_length] at h6
        rw [h6]
        by_cases hi : i ≤ ds.length
        · exact baseAt_le hi
        · simp only [baseAt]
          rw [List.take_of_length_le (by omega), List.take_length]; exact Nat.le_refl _
      refine ⟨by simp only [allOf_length]; rw [I.size]; exact H.tr.1, fun t u hu => ?_⟩
      rcases allOf_get _ _ _ _ (by simp [hlen]) hu with ⟨i, o, d, h6, h7, h8, h9⟩ | ⟨h6, h7⟩
      · have ho : ops[i]? = some o := by simpa using h6
        subst h9
        exact ⟨SV.Ok_mono (hbase _) (Nat.le_refl _) _ (T.ok h7).2.2, I.did i o d t ho h7 (hall i (Array.getElem?_eq_some_iff.1 ho).1) h8⟩
      · obtain ⟨h8, h9⟩ := H.tr.2 t u h6
        refine ⟨SV.Ok_mono hle (Nat.le_refl _) _ h8, ?_⟩
        rw [I.old t (fun i o ho _ => h7 i o (by simpa using ho)), h9, SV.re_agree I.ag u h8]
    · simp only
      rw [allOf_heap _ _ _ _ 0 (by simp [hlen]), doneH_length]
      have := H.low; omega
    · simp only
      rw [allOf_heap _ _ _ _ 0 (by simp [hlen]), doneH_length]; omega
  · refine ⟨rfl, ?_, rfl, En.Agree.refl _ _ _, rfl, ?_, fun _ _ => rfl⟩
    · have hz : ∀ (h : List SO) (ds : List Did) (j : Nat), ∃ e : List SO, doneH (inL []) h ds j = h ++ e ∧ ∀ o ∈ e, o = SO.dead := by
        intro h ds
        induction ds generalizing h with
        | nil => intro j; exact ⟨[], by simp [doneH], by simp⟩
        | cons d ds ih =>
          intro j
          have : inL [] j = false := by simp [inL]
          simp only [doneH, this]
          obtain ⟨e, h6, h7⟩ := ih (h ++ d.r.new.map fun _ => .dead) (j + 1)
          refine ⟨(d.r.new.map fun _ => .dead) ++ e, by rw [← List.append_assoc]; exact h6, fun o ho => ?_⟩
          rcases List.mem_append.1 ho with ho | ho
          · obtain ⟨_, _, hx⟩ := List.mem_map.1 ho; exact hx.symm
          · exact h7 o ho
      obtain ⟨e, h6, h7⟩ := hz st.heap ds 0
      rw [h6]
      refine (hH.drawnTo _).swap (fun _ _ _ _ => rfl) fun i o hi ha => ?_
      by_cases hlt : i < st.heap.length
      · rw [List.getElem?_append_left hlt] at hi
        exact ⟨o, hi, ha, fun x hx => hx.mono (by simp) (Nat.le_refl _) (En.Agree.refl _ _ _)⟩
      · rw [List.getElem?_append_right (by omega)] at hi
        have := h7 o (List.mem_of_getElem? hi)
        subst this; cases ha
    · intro i o d t _ _ hS; simp [inL] at hS

end Go.Sx

/- A region that fills a map in whatever order. -/
namespace Go.Sx
open Go.RowKit

theorem noIns_after (o : Oper) : (noIns o).after = o.after := by unfold noIns; split <;> rfl
theorem noIns_dst (o : Oper) : (noIns o).dst = o.dst := by unfold noIns; split <;> rfl
theorem noIns_guard (o : Oper) : (noIns o).guard = o.guard := by unfold noIns; split <;> rfl
theorem noIns_not {o : Oper} (h : isIns o = false) : noIns o = o := by simp [noIns, h]
theorem noIns_op {o : Oper} (h : isIns o = true) : (noIns o).op = .move (.const (.bool true)) := by simp [noIns, h]

theorem getMap {ops : Array Oper} {i : Nat} {o' : Oper} (h : (ops.map noIns)[i]? = some o') : ∃ o, ops[i]? = some o ∧ o' = noIns o := by
  rw [Array.getElem?_map] at h
  cases ho : ops[i]? with
  | none => rw [ho] at h; simp at h
  | some o => rw [ho] at h; simp at h; exact ⟨o, rfl, h.symm⟩

theorem plain_noIns {ops : Array Oper} (h : Plain (ops.map noIns)) : Plain ops := by
  intro i o ho e he hb
  exact h i (noIns o) (by rw [Array.getElem?_map, ho]; rfl) e (by rw [noIns_after]; exact he) hb

theorem lin_noIns {ops : Array Oper} {L : List Nat} (h : Lin ops L) : Lin (ops.map noIns) L := by
  refine ⟨h.nodup, fun i => by rw [h.mem i]; simp, fun l1 i l2 hl o' ho' e he hb => ?_⟩
  obtain ⟨o, ho, rfl⟩ := getMap ho'
  exact h.first l1 i l2 hl o ho e (by rw [noIns_after] at he; exact he) hb

/-- Object told otherwise. -/
theorem HR.tell {w0 w : World} {kp : Nat → Prop} {hid : List Nat} {ro : Nat} {n : En} {m : Nat} {h : List SO} (H : HR w0 kp hid ro n m h w) {i : Nat} {o : SO} (hi : h[i]? = some o) (ha : o.alive = true) (hro : ro ≤ i) (o' : SO) (ho : OR n h.length m (n.κ i) o' (w.heap[n.ε i]?)) :
    HR w0 kp hid ro n m (h.set i o') w := by
  obtain ⟨y, hy⟩ := (H.blk i o hi).there ha
  exact H.set hi ha hro (w' := w) (x := y) ⟨rfl, rfl, rfl, rfl, hy, fun _ _ => rfl⟩ o' (by rw [hy] at ho; exact ho)

theorem set_same {α : Type} {l : List α} {i : Nat} {x : α} (h : l[i]? = some x) : l.set i x = l := by
  obtain ⟨hi, rfl⟩ := List.getElem?_eq_some_iff.1 h
  exact List.set_getElem_self hi

/-- What operation j puts in. -/
def entryOf (P : Program) (N nv : Nat) (ks : List K) (ops : List Oper) (masks : List Nat) (ds : List Did) (j : Nat) : Option (SV × SV) :=
  match ops[j]? with
  | some o => if isIns o then insOf P N nv ks ops masks ds j else none
  | none => none

theorem bagOf_eq {P : Program} {N nv : Nat} {ks : List K} {ops : List Oper} {masks : List Nat} {ds : List Did} : ∀ {l : List Nat} {es : List (SV × SV)}, bagOf P N nv ks ops masks ds l = some es → es = l.filterMap (entryOf P N nv ks ops masks ds) ∧
    ∀ i ∈ l, ∀ o, ops[i]? = some o → isIns o = true → ∃ e, insOf P N nv ks ops masks ds i = some e
  | [], es, h => by simp only [bagOf, Option.some.injEq] at h; subst h; simp
  | i :: l, es, h => by
    simp only [bagOf] at h
    split at h
    · rename_i o ho
      split at h
      · rename_i hins
        split at h
        · rename_i e l' he hl; cases h
          obtain ⟨h1, h2⟩ := bagOf_eq hl
          refine ⟨?_, ?_⟩
          · rw [List.filterMap_cons]
            simp only [entryOf, ho, hins, if_true, he]
            rw [h1]
          · intro j hj o' ho' hi'
            rcases List.mem_cons.1 hj with rfl | hj
            · exact ⟨e, he⟩
            · exact h2 j hj o' ho' hi'
        · cases h
      · rename_i hins
        obtain ⟨h1, h2⟩ := bagOf_eq h
        refine ⟨?_, ?_⟩
        · rw [List.filterMap_cons]
          simp only [entryOf, ho, hins]
          simpa [entryOf] using h1
        · intro j hj o' ho' hi'
          rcases List.mem_cons.1 hj with rfl | hj
          · rw [ho] at ho'; cases ho'; exact absurd hi' hins
          · exact h2 j hj o' ho' hi'
    · cases h

theorem slotVal_facts {ops : List Oper} {m : Nat} {ds : List Did} {t : Tmp} {v : SV} (h : slotVal ops m ds t = some v) : ∃ (j : Nat) (o : Oper) (d : Did), ops[j]? = some o ∧ o.dst = some t ∧ m.testBit j = true ∧ ds[j]? = some d ∧ v = d.val := by
  unfold slotVal at h
  split at h
  · rename_i j hj
    split at h
    · rename_i hm
      simp only [Option.map_eq_some_iff] at h
      obtain ⟨d, hd, rfl⟩ := h
      unfold writer at hj
      obtain ⟨hlt, h1, _⟩ := List.findIdx?_eq_some_iff_getElem.1 hj
      exact ⟨j, ops[j], d, List.getElem?_eq_getElem hlt, by simpa using h1, hm, hd, rfl⟩
    · cases h
  · cases h

structure InsFacts (P : Program) (N nv : Nat) (ks : List K) (ops : List Oper) (masks : List Nat) (ds : List Did) (i : Nat) (o : Oper) (a b : SV) (t : TypeId) (t0 k v : Tmp) (kt et : TypeId) : Prop where
  op : o.op = .insert t (.tmp t0) (.tmp k) (.tmp v)
  dst : o.dst = none
  first : ∃ o0, ops[0]? = some o0 ∧ o0.dst = some t0
  under : P.underlying t = some (.map kt et)
  key : slotVal ops ((masks[i]?).getD 0) ds k = some a
  val : slotVal ops ((masks[i]?).getD 0) ds v = some b
  bit : ((masks[i]?).getD 0).testBit 0 = true
  flat : flatKey? P kt = some ks
  aok : a.Ok N nv
  bok : b.Ok N nv
  lit : ∃ l, litKey ks a = some l

theorem insOf_facts {P : Program} {N nv : Nat} {ks : List K} {ops : List Oper} {masks : List Nat} {ds : List Did} {i : Nat} {o : Oper} {a b : SV} (ho : ops[i]? = some o) (h : insOf P N nv ks ops masks ds i = some (a, b)) :
    ∃ (t : TypeId) (t0 k v : Tmp) (kt et : TypeId), InsFacts P N nv ks ops masks ds i o a b t t0 k v kt et := by
  unfold insOf at h
  rw [ho] at h
  split at h
  · rename_i t m k v _ _ _ t0 heq h0
    split at h
    · rename_i kt et a' b' hu ha hb
      split at h
      · rename_i hc
        obtain ⟨rfl, h2, h3, h4, h5, h6⟩ := hc
        simp only [Option.some.injEq, Prod.mk.injEq] at h
        obtain ⟨rfl, rfl⟩ := h
        simp only [Option.some.injEq] at heq
        subst heq
        simp only [Option.bind_eq_some_iff] at h0
        exact ⟨t, m, k, v, kt, et, rfl, rfl, h0, hu, ha, hb, h2, h3, SV.okb_ok _ h4, SV.okb_ok _ h5, Option.isSome_iff_exists.1 h6⟩
      · cases h
    · cases h
  · cases h

end Go.Sx

/- A region that fills a map in whatever order: it is sound. -/
namespace Go.Sx
open Go.RowKit

/-- An insertion into the map. -/
theorem run_insert {P : Program} {w : World} {t kt et : TypeId} {ks : List K} (hu : P.underlying t = some (.map kt et)) (hk : flatKey? P kt = some ks) {r : Nat} {ents : Array MapEntry} {cl : Nat} (hw : w.heap[r]? = some (.map ents cl)) {x : List Int} (hx : x.length = ks.length)
    {ls : List (List Int)} (hls : ents.toList.map (·.key) = ls.map fun l => Value.agg (cellsV ks l).toArray) (hlen : ∀ l ∈ ls, l.length = ks.length) (hnot : x ∉ ls) (v : Value) :
    (Instr.mapUpdate t (.map (some r)) (.agg (cellsV ks x).toArray) v).run P w = .ok () (w.putObj r (.map (ents.push { key := .agg (cellsV ks x).toArray, val := v, born := cl }) (cl + 1))) := by
  rcases run_findKey_flat (P := P) w hk hx ents.toList ls hls hlen with ⟨_, h1⟩ | ⟨j, e, h1, h2, _⟩
  · simp only [Instr.mapUpdate, Sem.run_bind, run_underlying hu, Result.andThen_ok, run_getMap hw, run_checkKey_flat w hk _ hx, h1]
    exact run_setMap hw
  · exfalso
    have : e.key ∈ ents.toList.map (·.key) := List.mem_map.2 ⟨e, h1, rfl⟩
    rw [hls] at this
    obtain ⟨l, hl, hle⟩ := List.mem_map.1 this
    rw [h2] at hle
    obtain ⟨_, _, _, hall⟩ := flatKey_facts hk
    have h7 : cellsV ks l = cellsV ks x := by
      simp only [Value.agg.injEq] at hle
      exact congrArg Array.toList hle
    exact hnot (cellsV_inj hall (hlen l hl) hx h7 ▸ hl)

section
variable {C : Ctx} {O : Owe} {F ro : Nat} {ops : Array Oper} {st : St} {ds : List Did} {n : En} {w0 : World} {kp : Nat → Prop} {hid : List Nat} {a : Act} {r : Option Nat} {k : Nat} {QQ : Exit → Act → World → Prop} {ks : List K} {keys : List (List Int)} {es : List (SV × SV)}

abbrev entry (C : Ctx) (st : St) (ks : List K) (ops : Array Oper) (ds : List Did) : Nat → Option (SV × SV) :=
  entryOf C.P st.heap.length st.nv ks ops.toList (ahead (ops.map noIns).toList) ds

/-- What has been filled in. -/
def Filled (C : Ctx) (st : St) (ks : List K) (ops : Array Oper) (ds : List Did) (n n1 : En) (w1 : World) (l1 : List Nat) : Prop :=
  0 ∈ l1 → ∃ (ents : Array MapEntry) (cl : Nat), w1.heap[n1.ε st.heap.length]? = some (.map ents cl) ∧ ents.toList.map (fun e => (e.key, e.val)) = (l1.filterMap (entry C st ks ops ds)).map fun p => (p.1.re n, p.2.re n)

/-- Of a region that fills a map: what is told. -/
structure Bag (C : Ctx) (st : St) (ops : Array Oper) (ds : List Did) (ks : List K) : Prop where
  plain : bagPlain C ops.toList = true
  ins : ∀ (i : Nat) (o : Oper), ops[i]? = some o → isIns o = true → ∃ e, insOf C.P st.heap.length st.nv ks ops.toList (ahead (ops.map noIns).toList) ds i = some e
  apart : ∀ (i j : Nat) (p q : SV × SV) (l : List Int), entry C st ks ops ds i = some p → entry C st ks ops ds j = some q → litKey ks p.1 = some l → litKey ks q.1 = some l → i = j

theorem Bag.facts (B : Bag C st ops ds ks) : ∃ o0, ops[0]? = some o0 ∧ isMake o0 = true ∧ o0.guard = none ∧ isIns o0 = false ∧ ∀ (i : Nat) (o : Oper), ops[i]? = some o → o.guard = none ∧ (i ≠ 0 → isMake o = false ∧ isCall o = false ∧ reads C (noIns o) = false) := by
  have h := B.plain
  unfold bagPlain at h
  split at h
  · rename_i o0 os hops
    simp only [Bool.and_eq_true, Option.isNone_iff_eq_none, List.all_eq_true, Bool.not_eq_true'] at h
    obtain ⟨⟨h1, h2⟩, h3⟩ := h
    have h0 : ops[0]? = some o0 := by
      have := congrArg (fun l => l[0]?) hops
      simpa using this
    refine ⟨o0, h0, h1, h2, ?_, ?_⟩
    · unfold isMake at h1
      split at h1
      · rfl
      · cases h1
    · intro i o ho
      cases i with
      | zero => rw [h0] at ho; cases ho; exact ⟨h2, fun h => absurd rfl h⟩
      | succ i =>
        have : o ∈ os := by
          have h4 := congrArg (fun l => l[i + 1]?) hops
          simp only [List.getElem?_cons_succ] at h4
          refine List.mem_of_getElem? (i := i) ?_
          rw [← h4]; simpa using ho
        obtain ⟨⟨⟨h5, h6⟩, h7⟩, h8⟩ := h3 o this
        exact ⟨h6, fun _ => ⟨h5, h7, h8⟩⟩
  · cases h

theorem Told.quiet (T : Told { C with bag := true } O F ro (ops.map noIns) st ds n) {i : Nat} {o : Oper} {d : Did} (ho : ops[i]? = some o) (hd : ds[i]? = some d) (hr : reads C (noIns o) = false) : d.r.upd = [] := by
  have ho' : (ops.map noIns)[i]? = some (noIns o) := by rw [Array.getElem?_map, ho]; rfl
  rcases T.step i _ ho' with ⟨_, h1⟩ | ⟨rr, rr', h⟩
  · rw [hd] at h1; cases h1; rfl
  · have h1 := h.is
    rw [hd] at h1; cases h1
    have hf := h.fits
    unfold Sx.fits at hf
    simp only [Bool.and_eq_true, Bool.or_eq_true] at hf
    rw [h.settled.upd]
    have hr' : reads { C with bag := true } (noIns o) = false := hr
    rcases hf.2 with h2 | ⟨⟨h2, _⟩, _⟩
    · simpa using h2
    · rw [hr'] at h2; cases h2

theorem reads_make {o : Oper} (h : isMake o = true) : reads C o = false := by
  unfold isMake at h
  split at h
  · rfl
  · cases h

/-- What the region's first operation is. -/
theorem Told.make (T : Told { C with bag := true } O F ro (ops.map noIns) st ds n) (B : Bag C st ops ds ks) {d : Did} (hd : ds[0]? = some d) : ∃ (o0 : Oper) (t : TypeId) (t0 : Tmp), ops[0]? = some o0 ∧ o0.op = .makeMap t none ∧ o0.dst = some t0 ∧ isIns o0 = false ∧ d = ⟨true, ⟨some (.map st.heap.length), [], [.bag]⟩⟩ := by
  obtain ⟨o0, h0, h1, h2, h3, _⟩ := B.facts
  have ho' : (ops.map noIns)[0]? = some o0 := by rw [Array.getElem?_map, h0]; simp [noIns_not h3]
  have hm : ∃ (t : TypeId) (t0 : Tmp), o0.op = .makeMap t none ∧ o0.dst = some t0 := by
    unfold isMake at h1
    split at h1
    · exact ⟨_, _, rfl, rfl⟩
    · cases h1
  obtain ⟨t, t0, hop, hdst⟩ := hm
  have hvl := T.viewLen ho'
  rw [baseAt_zero] at hvl
  refine ⟨o0, t, t0, h0, hop, hdst, h3, ?_⟩
  rcases T.step 0 _ ho' with ⟨hw, h1'⟩ | ⟨rr, rr', h⟩
  · unfold wantedDid at hw; rw [h2] at hw; cases hw
  · have h4 := h.is
    rw [hd] at h4; cases h4
    rcases h.run with ⟨_, hE⟩ | ⟨hcall, _⟩
    · unfold sop at hE
      rw [hop] at hE
      simp only [if_true, _root_.Go.Sx.T.Ev] at hE
      obtain ⟨_, hr⟩ := hE
      rw [hvl] at hr
      have h5 := h.settled
      have h6 : rr' = rr := by
        obtain ⟨v', u', n'⟩ := rr'
        obtain ⟨s1, s2, s3⟩ := h5
        simp only at s1 s2 s3
        rcases s3 with s3 | ⟨e, s3, _⟩
        · subst hr; simp only at s1 s2 s3; rw [s1, s2, s3]
        · rw [← hr] at s3; cases s3
      rw [h6, ← hr]
    · unfold isCall at hcall
      split at hcall
      · rename_i hh; cases hop
      · cases hcall

/-- The map's place. -/
theorem Told.bagAt (T : Told { C with bag := true } O F ro (ops.map noIns) st ds n) (B : Bag C st ops ds ks) {S : Nat → Bool} (hS : S 0 = true) (hpos : 0 < ops.size) : (doneH S st.heap ds 0)[st.heap.length]? = some .bag := by
  have hlen : ds.length = ops.size := by rw [T.len]; simp
  obtain ⟨d, hd⟩ : ∃ d, ds[0]? = some d := ⟨_, List.getElem?_eq_getElem (by omega)⟩
  obtain ⟨o0, t, t0, h0, hop, hdst, hni, hdd⟩ := T.make B hd
  have hcalm : ∀ (i : Nat) (d' : Did), ds[i]? = some d' → S (0 + i) = true → d'.r.upd = [] := by
    intro i d' hd' _
    have hi : i < ops.size := by rw [← hlen]; exact (List.getElem?_eq_some_iff.1 hd').1
    have ho : ops[i]? = some ops[i] := Array.getElem?_eq_getElem hi
    cases i with
    | zero => rw [hd] at hd'; cases hd'; rw [hdd]
    | succ i =>
      obtain ⟨_, _, _, _, _, hall⟩ := B.facts
      exact T.quiet ho hd' ((hall (i + 1) _ ho).2 (by omega)).2.2
  rw [doneH_calm _ _ _ hcalm, List.getElem?_append_right (Nat.le_refl _), Nat.sub_self]
  cases ds with
  | nil => simp at hd
  | cons d1 ds =>
    simp at hd; subst hd
    simp only [madeT, hS, if_true, hdd]
    rfl
end
end Go.Sx

/- A region that fills a map in whatever order: the run. -/
namespace Go.Sx
open Go.RowKit

section
variable {C : Ctx} {O : Owe} {F ro : Nat} {ops : Array Oper} {st : St} {ds : List Did} {n : En} {w0 : World} {kp : Nat → Prop} {hid : List Nat} {a : Act} {r : Option Nat} {k : Nat} {QQ : Exit → Act → World → Prop} {ks : List K} {keys : List (List Int)} {es : List (SV × SV)}

theorem bag_go (hC : CtxOk C n.Φ O) (T : Told { C with bag := true } O F ro (ops.map noIns) st ds n) (B : Bag C st ops ds ks) (hokSt : ∀ o ∈ st.heap, o.Ok st.heap.length st.nv) (hlow : ro ≤ st.heap.length) (hT : TR n st.heap.length st.nv st.tmps a.tmps)
    {L : List Nat} (hL : Lin ops L) (hQ : ∀ (n1 : En) (a1 : Act) (w1 : World), Inv w0 kp hid ro n st a (ops.map noIns) ds (inL L) n1 a1 w1 → Filled C st ks ops ds n n1 w1 L → QQ .normal a1 w1) :
    ∀ (l2 l1 : List Nat) (n1 : En) (a1 : Act) (w1 : World), L = l1 ++ l2 → Inv w0 kp hid ro n st a (ops.map noIns) ds (inL l1) n1 a1 w1 → Filled C st ks ops ds n n1 w1 l1 → wpOpsIn (fenAt r) k C.P ops QQ l2 a1 w1 := by
  have hL' := lin_noIns hL
  have hp' := T.plain
  have hCb : CtxOk { C with bag := true } n.Φ O := ⟨hC.con, hC.fold, hC.noGo, hC.has, hC.mixed, hC.ext⟩
  obtain ⟨o0, ho0, hmk, hg0, hni0, hall⟩ := B.facts
  have hpos : 0 < ops.size := (Array.getElem?_eq_some_iff.1 ho0).1
  intro l2
  induction l2 with
  | nil =>
    intro l1 n1 a1 w1 hl I hF
    have : L = l1 := by simpa using hl
    subst this
    exact hQ n1 a1 w1 I hF
  | cons i l2 ih =>
    intro l1 n1 a1 w1 hl I hF
    have hi : i < ops.size := (hL.mem i).1 (by rw [hl]; simp)
    have ho : ops[i]? = some ops[i] := Array.getElem?_eq_getElem hi
    generalize ops[i] = o at ho
    have ho' : (ops.map noIns)[i]? = some (noIns o) := by rw [Array.getElem?_map, ho]; rfl
    have hnd := hL.nodup
    rw [hl] at hnd
    have hnot : i ∉ l1 := by
      intro h
      exact (List.nodup_append.1 hnd).2.2 i h i List.mem_cons_self rfl
    have hSi : inL l1 i = false := by simp [inL, hnot]
    have hS' : inL (l1 ++ [i]) = fun j => inL l1 j || j == i := by
      funext j
      by_cases h1 : j ∈ l1 <;> by_cases h2 : j = i <;> simp [inL, h1, h2]
    have hpre : ∀ j, (maskOf (ahead (ops.map noIns).toList) i).testBit j = true → inL l1 j = true := by
      intro j hj
      simp only [inL, decide_eq_true_eq]
      exact ahead_done hp' hL' i l1 l2 hl j hj
    have hpost : ∀ j, inL l1 j = true → (maskOf (ahead (ops.map noIns).toList) j).testBit i = false := by
      intro j hj
      simp only [inL, decide_eq_true_eq] at hj
      cases hb : (maskOf (ahead (ops.map noIns).toList) j).testBit i with
      | false => rfl
      | true =>
        obtain ⟨p, q, hpq⟩ := List.append_of_mem hj
        have := ahead_done hp' hL' j p (q ++ i :: l2) (by rw [hl, hpq]; simp) i hb
        exact absurd (by rw [hpq]; simp [this]) hnot
    have next : ∀ (n3 : En) (a3 : Act) (w3 : World), Inv w0 kp hid ro n st a (ops.map noIns) ds (inL (l1 ++ [i])) n3 a3 w3 → Filled C st ks ops ds n n3 w3 (l1 ++ [i]) → wpOpsIn (fenAt r) k C.P ops QQ l2 a3 w3 := by
      intro n3 a3 w3 I3 F3
      exact ih (l1 ++ [i]) n3 a3 w3 (by rw [hl]; simp) I3 F3
    obtain ⟨hguard, hrest⟩ := hall i o ho
    have hwant : Region.wanted o (yielded ops a1.tmps) = true := by
      unfold Region.wanted; simp [hguard]
    simp only [wpOpsIn, ho]
    rw [if_pos hwant]
    -- what it has made is told
    rcases T.step i (noIns o) ho' with ⟨hw, hd⟩ | ⟨rr, rr', hran⟩
    · unfold wantedDid at hw; rw [noIns_guard, hguard] at hw; cases hw
    have hd := hran.is
    have hΦ1 : n1.Φ = n.Φ := I.ag.Φ.symm
    cases hins : isIns o with
    | true =>
      -- a pair is put in
      obtain ⟨⟨ka, va⟩, he⟩ := B.ins i o ho hins
      obtain ⟨t, t0, tk, tv, kt, et, f⟩ := insOf_facts (by simpa using ho) he
      have hent : entry C st ks ops ds i = some (ka, va) := by
        show entryOf _ _ _ _ _ _ _ _ = _
        simp only [entryOf]
        rw [show ops.toList[i]? = some o by simpa using ho]
        simp only [hins, if_true]
        exact he
      have hi0 : i ≠ 0 := by
        intro e; subst e; rw [ho0] at ho; cases ho; rw [hni0] at hins; cases hins
      have h0in : 0 ∈ l1 := by
        have := hpre 0 f.bit
        simpa [inL] using this
      obtain ⟨ents, cl, hw1, hkv⟩ := hF h0in
      -- slots
      have slot : ∀ {tt : Tmp} {sv : SV}, slotVal ops.toList (((ahead (ops.map noIns).toList)[i]?).getD 0) ds tt = some sv → sv.Ok st.heap.length st.nv → a1.tmps[tt]? = some (sv.re n) := by
        intro tt sv hsv hok
        obtain ⟨j, oj, dj, hoj, hdj, hbit, hdd, rfl⟩ := slotVal_facts hsv
        have hoj' : (ops.map noIns)[j]? = some (noIns oj) := by rw [Array.getElem?_map, show ops[j]? = some oj by simpa using hoj]; rfl
        have := I.did j (noIns oj) dj tt hoj' hdd (hpre j hbit) (by rw [noIns_dst]; exact hdj)
        rw [this, ← SV.re_agree I.ag _ hok]
      have hka := slot f.key f.aok
      have hva := slot f.val f.bok
      obtain ⟨l, hl0⟩ := f.lit
      obtain ⟨hkre, hklen⟩ := litKey_re (n := n) hl0
      -- the map's slot
      obtain ⟨d0, hd0⟩ : ∃ d, ds[0]? = some d := ⟨_, List.getElem?_eq_getElem (by rw [T.len]; simpa using hpos)⟩
      obtain ⟨o0', tm, tt0, ho0', hop0, hdst0, _, hdd0⟩ := T.make B hd0
      have htt : tt0 = t0 := by
        obtain ⟨o0'', h1, h2⟩ := f.first
        rw [show ops.toList[0]? = ops[0]? by simp, ho0'] at h1
        cases h1; rw [hdst0] at h2; cases h2; rfl
      subst htt
      have hmslot : a1.tmps[tt0]? = some (.map (some (n1.ε st.heap.length))) := by
        have := I.did 0 (noIns o0') d0 tt0 (by rw [Array.getElem?_map, ho0']; rfl) hd0 (by simp [inL, h0in]) (by rw [noIns_dst]; exact hdst0)
        rw [this, hdd0]; rfl
      have ev : ∀ {tt : Tmp} {v : Value}, a1.tmps[tt]? = some v → a1.eval (.tmp tt) = v := by
        intro tt v h
        simp only [Act.eval, Array.getD_eq_getD_getElem?, h, Option.getD_some]
      -- the keys that lie there
      have hkeys : ∃ ls : List (List Int), ents.toList.map (·.key) = ls.map (fun l => Value.agg (cellsV ks l).toArray) ∧ (∀ l ∈ ls, l.length = ks.length) ∧ l ∉ ls := by
        have hk1 : ents.toList.map (·.key) = (l1.filterMap (entry C st ks ops ds)).map fun p => p.1.re n := by
          have := congrArg (List.map Prod.fst) hkv
          simpa [List.map_map, Function.comp_def] using this
        have hlit : ∀ p ∈ l1.filterMap (entry C st ks ops ds), ∃ (j : Nat) (l' : List Int), j ∈ l1 ∧ entry C st ks ops ds j = some p ∧ litKey ks p.1 = some l' := by
          intro p hp
          obtain ⟨j, hj, hjp⟩ := List.mem_filterMap.1 hp
          have hjp' := hjp
          simp only [entry, entryOf] at hjp'
          split at hjp'
          · rename_i oj hoj
            split at hjp'
            · obtain ⟨pa, pb⟩ := p
              obtain ⟨_, _, _, _, _, _, fj⟩ := insOf_facts hoj hjp'
              obtain ⟨l', hl'⟩ := fj.lit
              exact ⟨j, l', hj, hjp, hl'⟩
            · cases hjp'
          · cases hjp'
        have : ∀ (qs : List (SV × SV)), (∀ p ∈ qs, ∃ (j : Nat) (l' : List Int), j ∈ l1 ∧ entry C st ks ops ds j = some p ∧ litKey ks p.1 = some l') →
            ∃ ls : List (List Int), qs.map (fun p => p.1.re n) = ls.map (fun l => Value.agg (cellsV ks l).toArray) ∧ (∀ l ∈ ls, l.length = ks.length) ∧ l ∉ ls := by
          intro qs
          induction qs with
          | nil => intro _; exact ⟨[], rfl, by simp, by simp⟩
          | cons p qs ihq =>
            intro h
            obtain ⟨ls, h1, h2, h3⟩ := ihq fun q hq => h q (List.mem_cons_of_mem _ hq)
            obtain ⟨j, l', hj, hjp, hl'⟩ := h p List.mem_cons_self
            obtain ⟨h4, h5⟩ := litKey_re (n := n) hl'
            refine ⟨l' :: ls, by simp [h1, h4], ?_, ?_⟩
            · intro q hq
              rcases List.mem_cons.1 hq with rfl | hq
              · exact h5
              · exact h2 q hq
            · intro hq
              rcases List.mem_cons.1 hq with e | hq
              · subst e
                have := B.apart i j _ _ _ hent hjp hl0 hl'
                subst this
                exact hnot hj
              · exact h3 hq
        obtain ⟨ls, h1, h2⟩ := this _ hlit
        exact ⟨ls, hk1.trans h1, h2⟩
      obtain ⟨ls, hls1, hls2, hls3⟩ := hkeys
      have hrunI := run_insert (P := C.P) f.under f.flat hw1 hklen hls1 hls2 hls3 (va.re n)
      rw [← hkre] at hrunI
      refine ⟨fun _ _ => trivial, ?_⟩
      rw [Oper.semAt_eq _ _ _ (by rw [f.op]; intro c hc; cases hc)]
      have hrun : (execOp a1.eval o).run C.P w1 = .ok .skip (w1.putObj (n1.ε st.heap.length) (.map (ents.push { key := ka.re n, val := va.re n, born := cl }) (cl + 1))) := by
        simp only [execOp, f.op, ev hka, ev hva, ev hmslot, Sem.run_bind, hrunI, Result.andThen_ok, Sem.run_pure]
      rw [hrun, Oper.uponIn_skip]
      have hput : a1.put o.dst undef = a1 := by rw [f.dst]; rfl
      rw [hput]
      -- the map stands where it did
      have hbag := T.bagAt B (S := inL l1) (by simp [inL, h0in]) hpos
      have hH := I.hr.set hbag rfl hlow (turned_putObj (x := .map (ents.push { key := ka.re n, val := va.re n, born := cl }) (cl + 1)) (I.hr.lt hbag rfl)) .bag ⟨_, _, rfl⟩
      rw [set_same hbag] at hH
      have hcalm : (⟨true, rr'⟩ : Did).r.upd = [] ∧ (⟨true, rr'⟩ : Did).r.new = [] := by
        rcases hran.run with ⟨_, hE⟩ | ⟨hcall, _⟩
        · unfold sop at hE
          rw [noIns_op hins] at hE
          simp only [St.eval, ofV, lift, _root_.Go.Sx.T.bind, _root_.Go.Sx.T.Ev, atR_eq] at hE
          obtain ⟨_, hr⟩ := hE
          simp only [hran.settled.upd, hran.settled.new, ← hr]
          exact ⟨rfl, rfl⟩
        · have hc0 : isCall (noIns o) = false := by unfold noIns; rw [if_pos hins]; rfl
          rw [hc0] at hcall; cases hcall
      have hsame : doneH (inL l1) st.heap ds 0 = doneH (inL (l1 ++ [i])) st.heap ds 0 := by
        refine doneH_skip _ _ _ fun j d hj => ?_
        by_cases e : j = i
        · subst e; rw [hd] at hj; cases hj; exact .inr hcalm
        · left; rw [hS']; simp [e]
      refine next n1 a1 _ ⟨I.defers, by rw [← hsame]; exact hH, I.ρ, I.ag, I.size, ?_, ?_⟩ ?_
      · intro j oj dj tt hoj hdj hSj hdst
        by_cases hji : j = i
        · subst hji
          rw [ho'] at hoj; cases hoj
          rw [noIns_dst, f.dst] at hdst; cases hdst
        · have hSj' : inL l1 j = true := by rw [hS'] at hSj; simpa [hji] using hSj
          exact I.did j oj dj tt hoj hdj hSj' hdst
      · intro tt ht
        exact I.old tt fun j oj hoj hSj => ht j oj hoj (by rw [hS']; simp [hSj])
      · intro _
        refine ⟨_, _, World.putObj_heap_same (I.hr.lt hbag rfl), ?_⟩
        rw [List.filterMap_append, List.map_append, ← hkv]
        simp [hent]
    | false =>
      have hno : noIns o = o := noIns_not hins
      rw [hno] at ho' hran
      have hent : entry C st ks ops ds i = none := by
        show entryOf _ _ _ _ _ _ _ _ = _
        simp only [entryOf]
        rw [show ops.toList[i]? = some o by simpa using ho]
        simp [hins]
      have hTR := I.viewTR T hT ho' hSi hpre hpost
      obtain ⟨f0, f1, _⟩ := I.facts T ho' hd hSi hS' hpre hpost
      have hvl := T.viewLen ho'
      have hN : st.heap.length ≤ (viewAt { C with bag := true } (ops.map noIns).toList (ahead (ops.map noIns).toList) st ds i o).heap.length := by
        have := baseAt_le (N := st.heap.length) (ds := ds) (Nat.zero_le i)
        rw [baseAt_zero] at this; omega
      have hreads : reads C o = false := by
        by_cases h0 : i = 0
        · subst h0; rw [ho0] at ho; cases ho; exact reads_make hmk
        · have := (hrest h0).2.2; rwa [hno] at this
      have hreads' : reads { C with bag := true } o = false := hreads
      have hdeadv : ∀ (b : Nat) (q : SO), (viewAt { C with bag := true } (ops.map noIns).toList (ahead (ops.map noIns).toList) st ds i o).heap[b]? = some q → q.alive = false := by
        intro b q hb
        have hb' := List.mem_of_getElem? hb
        simp only [viewAt, hreads'] at hb'
        exact viewOf_dead _ _ _ _ _ _ hb'
      have hpart := I.hr.part f1 (fun b q hb ha => by rw [hdeadv b q hb] at ha; cases ha)
      have hheap : ∀ h, (⟨true, rr'⟩ : Did).r.heap h = rr.heap h := fun h => by simp only [R.heap, hran.settled.upd, hran.settled.new]
      rcases hran.run with ⟨hcall, hE⟩ | ⟨hcall, _⟩
      rotate_left
      · by_cases h0 : i = 0
        · subst h0; rw [ho0] at ho; cases ho
          unfold isMake at hmk
          split at hmk
          · cases hcall
          · cases hmk
        · rw [(hrest h0).2.1] at hcall; cases hcall
      rw [← hΦ1, ← I.ρ] at hE
      obtain ⟨r0, ⟨_, hr0⟩, x, w', hrun, hdo⟩ := sop_sound o (fun s vs r h => by rw [hΦ1]; exact (hC.fold s vs r h).1) hpart hTR hE
      subst hr0
      obtain ⟨n2, hag2, hρ2, hH2, hx, hvok⟩ := hdo _ (Sub.refl _) hpart
      have I3 := I.fin T hokSt hlow hT ho' hd hSi hS' hpre hpost hag2 hρ2 (by rw [hheap]; exact hH2)
      refine ⟨fun _ _ => trivial, ?_⟩
      rw [Oper.semAt_eq _ _ _ (sop_defer hE)]
      have hrunC : (execOp a1.eval o).run C.P w1 = .ok x w' := hrun
      rw [hrunC]
      have hval : (⟨true, rr'⟩ : Did).val.re n2 = (r0.v.getD undefS).re n2 := by
        simp only [Did.val, if_true]
        exact hran.settled.val (by rw [← hag2.Φ, hΦ1]) (by rw [hρ2, I.ρ])
      rw [hval] at I3
      -- what has been filled in stands
      have hfill : (i = 0 → ∃ v : Value, x = .value v ∧ v = (r0.v.getD undefS).re n2) → Filled C st ks ops ds n (n1.over n2 ((⟨true, rr'⟩ : Did).r.heap (viewAt { C with bag := true } (ops.map noIns).toList (ahead (ops.map noIns).toList) st ds i o).heap).length) w' (l1 ++ [i]) := by
        intro hv00 hin
        rw [hheap, heap_length]
        by_cases h0 : i = 0
        · obtain ⟨v, hxv, hv0⟩ := hv00 h0
          subst h0
          obtain ⟨o0', tm, tt0, ho0', hop0, hdst0, _, hdd0⟩ := T.make B hd
          rw [ho0'] at ho; cases ho
          have hnew : r0.new = [.bag] := by
            have := congrArg (fun d => d.r.new) hdd0
            simp only [hran.settled.new] at this
            exact this
          rw [hvl, baseAt_zero, hnew]
          have hrun2 : (execOp a1.eval o).run C.P w1 = .ok (.value (.map (some w1.heap.size))) (w1.alloc (.map #[] 0)) := by
            simp [execOp, hop0, Instr.makeMap, newObj, Sem.run]
          rw [hrun2] at hrunC
          simp only [Result.ok.injEq] at hrunC
          obtain ⟨hx1, hw'⟩ := hrunC
          have hval0 : (⟨true, rr'⟩ : Did).val = .map st.heap.length := by rw [hdd0]; rfl
          rw [hval0] at hval
          have hε2 : n2.ε st.heap.length = w1.heap.size := by
            rw [hxv] at hx1
            simp only [Next.value.injEq] at hx1
            rw [← hx1, ← hval] at hv0
            simp only [SV.re, Value.map.injEq, Option.some.injEq] at hv0
            exact hv0.symm
          have hover : (n1.over n2 (st.heap.length + [SO.bag].length)).ε st.heap.length = w1.heap.size := by
            simp only [En.over]
            rw [if_pos (by simp), hε2]
          rw [hover, ← hw']
          refine ⟨#[], 0, World.alloc_heap_new w1 _, ?_⟩
          have hnone : l1.filterMap (entry C st ks ops ds) = [] := by
            refine List.filterMap_eq_nil_iff.2 fun j hj => ?_
            cases hje : entry C st ks ops ds j with
            | none => rfl
            | some p =>
              exfalso
              simp only [entry, entryOf] at hje
              split at hje
              · rename_i oj hoj
                split at hje
                · obtain ⟨pa, pb⟩ := p
                  obtain ⟨_, _, _, _, _, _, fj⟩ := insOf_facts hoj hje
                  obtain ⟨p, q, hpq⟩ := List.append_of_mem hj
                  have := ahead_done hp' hL' j p (q ++ 0 :: l2) (by rw [hl, hpq]; simp) 0 fj.bit
                  exact hnot (by rw [hpq]; simp [this])
                · cases hje
              · cases hje
          rw [List.filterMap_append, hnone]
          simp [hent]
        · have h0in : 0 ∈ l1 := by
            rcases List.mem_append.1 hin with h | h
            · exact h
            · simp at h; exact absurd h.symm h0
          obtain ⟨ents, cl, hw1, hkv⟩ := hF h0in
          have hbag := T.bagAt B (S := inL l1) (by simp [inL, h0in]) hpos
          -- its place is old
          obtain ⟨d0, hd0⟩ : ∃ d, ds[0]? = some d := ⟨_, List.getElem?_eq_getElem (by rw [T.len]; simpa using hpos)⟩
          obtain ⟨_, _, _, _, _, _, _, hdd0⟩ := T.make B hd0
          have hb1 : baseAt st.heap.length ds 1 = st.heap.length + 1 := by rw [baseAt_succ hd0, baseAt_zero, hdd0]; rfl
          have hlt : st.heap.length < (viewAt { C with bag := true } (ops.map noIns).toList (ahead (ops.map noIns).toList) st ds i o).heap.length := by
            rw [hvl]
            have := baseAt_le (N := st.heap.length) (ds := ds) (i := 1) (j := i) (by omega)
            omega
          have hε : (n1.over n2 ((viewAt { C with bag := true } (ops.map noIns).toList (ahead (ops.map noIns).toList) st ds i o).heap.length + r0.new.length)).ε st.heap.length = n1.ε st.heap.length := by
            simp only [En.over]
            rw [if_pos (by omega)]
            exact (hag2.ε _ hlt).symm
          rw [hε]
          refine ⟨ents, cl, ?_, ?_⟩
          · have hseen : seen w1 hid ro n1 (viewAt { C with bag := true } (ops.map noIns).toList (ahead (ops.map noIns).toList) st ds i o).heap (n1.ε st.heap.length) :=
              ⟨I.hr.lt hbag rfl, I.hr.nohid _ _ hbag rfl, fun b q hb ha _ => by rw [hdeadv b q hb] at ha; cases ha⟩
            rw [(hH2.kept _ hseen).2]; exact hw1
          · rw [List.filterMap_append, ← List.append_nil (l1.filterMap _)] at *
            rw [hkv]
            simp [hent]
      unfold NextIs at hx
      cases hv : r0.v with
      | none =>
        rw [hv] at hx I3; simp only at hx; subst hx
        refine next _ _ _ I3 (hfill fun h0 => ?_)
        exfalso
        subst h0
        obtain ⟨_, _, _, _, _, _, _, hdd0⟩ := T.make B hd
        have := congrArg (fun d => d.r.v) hdd0
        simp only at this
        rcases hran.settled.v with e | ⟨e, e1, _⟩
        · rw [e, hv] at this; cases this
        · rw [hv] at e1; cases e1
      | some u =>
        rw [hv] at hx I3; simp only at hx; subst hx
        refine next _ _ _ I3 (hfill fun _ => ⟨_, rfl, ?_⟩)
        rw [hv]; rfl

theorem bag_start (T : Told { C with bag := true } O F ro (ops.map noIns) st ds n) {w : World} (H : HR w0 kp hid ro n st.nv st.heap w) : Inv w0 kp hid ro n st a (ops.map noIns) ds (inL []) n a { w with drawn := w.drawn + 1 } := by
  refine ⟨rfl, ?_, rfl, En.Agree.refl _ _ _, rfl, ?_, fun _ _ => rfl⟩
  · have hz : ∀ (h : List SO) (ds : List Did) (j : Nat), ∃ e : List SO, doneH (inL []) h ds j = h ++ e ∧ ∀ o ∈ e, o = SO.dead := by
      intro h ds
      induction ds generalizing h with
      | nil => intro j; exact ⟨[], by simp [doneH], by simp⟩
      | cons d ds ih =>
        intro j
        have : inL [] j = false := by simp [inL]
        simp only [doneH, this]
        obtain ⟨e, h6, h7⟩ := ih (h ++ d.r.new.map fun _ => .dead) (j + 1)
        refine ⟨(d.r.new.map fun _ => .dead) ++ e, by rw [← List.append_assoc]; exact h6, fun o ho => ?_⟩
        rcases List.mem_append.1 ho with ho | ho
        · obtain ⟨_, _, hx⟩ := List.mem_map.1 ho; exact hx.symm
        · exact h7 o ho
    obtain ⟨e, h6, h7⟩ := hz st.heap ds 0
    rw [h6]
    refine (H.drawnTo _).swap (fun _ _ _ _ => rfl) fun i o hi ha => ?_
    by_cases hlt : i < st.heap.length
    · rw [List.getElem?_append_left hlt] at hi
      exact ⟨o, hi, ha, fun x hx => hx.mono (by simp) (Nat.le_refl _) (En.Agree.refl _ _ _)⟩
    · rw [List.getElem?_append_right (by omega)] at hi
      have := h7 o (List.mem_of_getElem? hi)
      subst this; cases ha
  · intro i o d t _ _ hS; simp [inL] at hS

theorem ok_bag {f : Nat} {id : Nat} {cur : Nat} {rd : Option Nat} {Q : (Nat → Int) → X × St → Prop} {w : World}
    (hC : CtxOk C n.Φ O) (H : Rel w0 kp hid ro rd n st a w) (hi : ops.toList.any isIns = true) (hE : (exec C (f + 1) ro cur rd (.region id ops true) st).Ev n.Φ O n.ρ Q) :
    (Code.region id ops true).wpIn (fenAt r) k C.P (Post C w0 kp hid ro rd n st Q) a w := by
  simp only [exec] at hE
  rw [if_pos hi] at hE
  have hmap : (ops.map noIns).toList = ops.toList.map noIns := by simp
  rw [← hmap] at hE
  split at hE
  rotate_left
  · exact hE.elim
  rename_i hc
  obtain ⟨hplain, hbag⟩ := hc
  obtain ⟨h1, h2, h3⟩ := plainOps_facts hplain
  rw [T.Ev_bind] at hE
  obtain ⟨ds, hq, hds⟩ := T.Free.ev (free_draw _ _ _ _ _ _ _) hE
  obtain ⟨h4, _, h5⟩ := draw_steps f f (ops.map noIns).toList [] (Nat.le_refl _) (by simp) hds (by simp)
  have hlen : ds.length = ops.size := by simpa using h4
  have hsz : (ops.map noIns).size = ops.size := by simp
  have T : Told { C with bag := true } O f ro (ops.map noIns) st ds n := ⟨h1, h2, h3, by rw [hlen, hsz], fun i o ho => h5 i o (Nat.zero_le _) (by simpa using ho)⟩
  split at hq
  rotate_left
  · exact hq.elim
  rename_i ks hks
  split at hq
  rotate_left
  · exact hq.elim
  rename_i es hes
  split at hq
  rotate_left
  · exact hq.elim
  rename_i keys hkeys
  split at hq
  rotate_left
  · exact hq.elim
  rename_i hnd
  obtain ⟨hes1, hes2⟩ := bagOf_eq hes
  obtain ⟨hlk1, hlk2, hlk3⟩ := litKeys_facts (n := n) hkeys
  have hent : ∀ (i : Nat) (p : SV × SV), entry C st ks ops ds i = some p → i < ops.size := by
    intro i p hp
    simp only [entry, entryOf] at hp
    split at hp
    · rename_i o ho
      simpa using (List.getElem?_eq_some_iff.1 ho).1
    · cases hp
  have B : Bag C st ops ds ks := by
    refine ⟨hbag, fun i o ho hins => hes2 i (List.mem_range.2 (Array.getElem?_eq_some_iff.1 ho).1) o (by simpa using ho) hins, ?_⟩
    -- keys apart: places apart
    have : ∀ (l : List Nat) (keys : List (List Int)), l.Nodup → (l.filterMap (entry C st ks ops ds)).map (fun p => litKey ks p.1) = keys.map some → keys.Nodup → ∀ i ∈ l, ∀ j ∈ l, ∀ (p q : SV × SV) (x : List Int), entry C st ks ops ds i = some p → entry C st ks ops ds j = some q → litKey ks p.1 = some x → litKey ks q.1 = some x → i = j := by
      intro l
      induction l with
      | nil => intro keys _ _ _ i hi; simp at hi
      | cons m l ih =>
        intro keys hln hmap hkn i hi j hj p q x hp hq hpx hqx
        have hl := List.nodup_cons.1 hln
        rw [List.filterMap_cons] at hmap
        cases hm : entry C st ks ops ds m with
        | none =>
          rw [hm] at hmap
          have hne : ∀ {y : Nat} {z : SV × SV}, entry C st ks ops ds y = some z → y ∈ m :: l → y ∈ l := by
            intro y z hy hyl
            rcases List.mem_cons.1 hyl with rfl | h
            · rw [hm] at hy; cases hy
            · exact h
          exact ih keys hl.2 hmap hkn i (hne hp hi) j (hne hq hj) p q x hp hq hpx hqx
        | some e =>
          rw [hm] at hmap
          cases keys with
          | nil => simp at hmap
          | cons k0 keys =>
            simp only [List.map_cons, List.cons.injEq] at hmap
            have hkn' := List.nodup_cons.1 hkn
            have far : ∀ {y : Nat} {z : SV × SV}, y ∈ l → entry C st ks ops ds y = some z → litKey ks z.1 = some k0 → False := by
              intro y z hy hyz hz
              have : litKey ks z.1 ∈ (l.filterMap (entry C st ks ops ds)).map (fun p => litKey ks p.1) := List.mem_map.2 ⟨z, List.mem_filterMap.2 ⟨y, hy, hyz⟩, rfl⟩
              rw [hmap.2, hz] at this
              obtain ⟨k', hk', e'⟩ := List.mem_map.1 this
              cases e'; exact hkn'.1 hk'
            rcases List.mem_cons.1 hi with e1 | hi' <;> rcases List.mem_cons.1 hj with e2 | hj'
            · rw [e1, e2]
            · exfalso
              rw [e1, hm] at hp; cases hp
              rw [hmap.1] at hpx; cases hpx
              exact far hj' hq hqx
            · exfalso
              rw [e2, hm] at hq; cases hq
              rw [hmap.1] at hqx; cases hqx
              exact far hi' hp hpx
            · exact ih keys hl.2 hmap.2 hkn'.2 i hi' j hj' p q x hp hq hpx hqx
    intro i j p q x hp hq hpx hqx
    exact this (List.range ops.size) keys List.nodup_range (by rw [← hes1]; exact hlk3) hnd i (List.mem_range.2 (hent i p hp)) j (List.mem_range.2 (hent j q hq)) p q x hp hq hpx hqx
  obtain ⟨hc, hd, hrd, hH⟩ := H.hr
  have hok := H.okAt
  have hokSt : ∀ o ∈ st.heap, o.Ok st.heap.length st.nv := by
    intro o ho
    obtain ⟨i, hi⟩ := List.getElem?_of_mem ho
    exact hok.1 i o hi
  obtain ⟨o0, ho0, _⟩ := B.facts
  have hpos : 0 < ops.size := (Array.getElem?_eq_some_iff.1 ho0).1
  refine wpIn_region_draw fun t => ?_
  rw [hC.mixed]
  have hL := lin_schedule (plain_noIns h1) t
  have hall : ∀ i, i < ops.size → inL (Region.schedule true ops t) i = true := fun i hi => by
    simp only [inL, decide_eq_true_eq]; exact (hL.mem i).2 hi
  refine bag_go hC T B hokSt H.low H.tr hL ?_ _ [] n a { w with drawn := w.drawn + 1 } rfl (bag_start (w0 := w0) (kp := kp) (hid := hc ++ hid) T hH) (fun h => by simp at h)
  intro n1 a1 w1 I F
  have hlen' : ds.length = (ops.map noIns).toList.length := by simp [hlen]
  have hdone : (allOf st.tmps st.heap (ops.map noIns).toList ds).2 = doneH (inL (Region.schedule true ops t)) st.heap ds 0 := by
    rw [allOf_heap _ _ _ _ 0 hlen'.symm]
    refine doneH_congr _ _ _ fun i _ hi => ?_
    rw [hall i (by omega)]
  have hat := T.bagAt B (S := inL (Region.schedule true ops t)) (hall 0 hpos) hpos
  have hle : st.heap.length ≤ (allOf st.tmps st.heap (ops.map noIns).toList ds).2.length := by
    rw [allOf_heap _ _ _ _ 0 hlen'.symm, doneH_length]; omega
  have hbase : ∀ i, baseAt st.heap.length ds i ≤ (allOf st.tmps st.heap (ops.map noIns).toList ds).2.length := by
    intro i
    rw [allOf_heap _ _ _ _ 0 hlen'.symm]
    have h6 := doneH_len (S := fun _ => true) st.heap ds ds.length
    rw [List.take_length] at h6
    rw [h6]
    by_cases hi : i ≤ ds.length
    · exact baseAt_le hi
    · simp only [baseAt]
      rw [List.take_of_length_le (by omega), List.take_length]; exact Nat.le_refl _
  -- the map, told
  obtain ⟨ents, cl, hw1, hkv⟩ := F ((hL.mem 0).2 hpos)
  have hperm : ((Region.schedule true ops t).filterMap (entry C st ks ops ds)).Perm es := by
    rw [hes1]
    exact ((List.perm_ext_iff_of_nodup hL.nodup List.nodup_range).2 fun i => by rw [hL.mem i, List.mem_range]).filterMap _
  have hesok : ∀ p ∈ es, p.1.Ok st.heap.length st.nv ∧ p.2.Ok st.heap.length st.nv := by
    intro p hp
    rw [hes1] at hp
    obtain ⟨j, _, hj⟩ := List.mem_filterMap.1 hp
    simp only [entryOf] at hj
    split at hj
    · rename_i oj hoj
      split at hj
      · obtain ⟨pa, pb⟩ := p
        obtain ⟨_, _, _, _, _, _, fj⟩ := insOf_facts hoj hj
        exact ⟨fj.aok, fj.bok⟩
      · cases hj
    · cases hj
  have hlook : OR n1 (doneH (inL (Region.schedule true ops t)) st.heap ds 0).length st.nv (n1.κ st.heap.length) (.look ks es) (w1.heap[n1.ε st.heap.length]?) := by
    rw [← hdone]
    refine ⟨fun p hp => ⟨SV.Ok_mono hle (Nat.le_refl _) _ (hesok p hp).1, SV.Ok_mono hle (Nat.le_refl _) _ (hesok p hp).2⟩, ents, cl, hw1, ?_⟩
    rw [hkv]
    refine (hperm.map _).trans (List.Perm.of_eq ?_)
    refine List.map_congr_left fun p hp => ?_
    rw [SV.re_agree I.ag _ (hesok p hp).1, SV.re_agree I.ag _ (hesok p hp).2]
  have hH1 := I.hr.tell hat rfl H.low (.look ks es) hlook
  refine ⟨n1, .norm, { st with tmps := (allOf st.tmps st.heap (ops.map noIns).toList ds).1, heap := (allOf st.tmps st.heap (ops.map noIns).toList ds).2.set st.heap.length (.look ks es) }, by rw [I.ρ]; exact hq, rfl, ⟨⟨hc, by rw [I.defers]; exact hd, hrd, ?_⟩, ?_, ?_⟩, ⟨I.ag, ?_, Nat.le_refl _⟩⟩
  · simp only
    rw [hdone]; exact hH1
  · refine ⟨by simp only [allOf_length]; rw [I.size]; exact H.tr.1, fun tt u hu => ?_⟩
    simp only [List.length_set]
    rcases allOf_get _ _ _ _ hlen'.symm hu with ⟨i, o, d, h6, h7, h8, h9⟩ | ⟨h6, h7⟩
    · have ho : (ops.map noIns)[i]? = some o := by simpa using h6
      subst h9
      exact ⟨SV.Ok_mono (hbase _) (Nat.le_refl _) _ (T.ok h7).2.2, I.did i o d tt ho h7 (hall i (by rw [← hsz]; exact (Array.getElem?_eq_some_iff.1 ho).1)) h8⟩
    · obtain ⟨h8, h9⟩ := H.tr.2 tt u h6
      refine ⟨SV.Ok_mono hle (Nat.le_refl _) _ h8, ?_⟩
      rw [I.old tt (fun i o ho _ => h7 i o (by simpa using ho)), h9, SV.re_agree I.ag u h8]
  · simp only [List.length_set]
    have := H.low; omega
  · simp only [List.length_set]
    exact hle
end
end Go.Sx
