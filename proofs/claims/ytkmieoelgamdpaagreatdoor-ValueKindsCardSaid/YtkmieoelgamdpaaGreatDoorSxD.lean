/-
  The symbolic run of code, calls and loops is sound; no condition.
-/
import Derived.Test.YtkmieoelgamdpaaGreatDoorSxC
import Derived.LoopNIn
import Derived.Laws.ResultCell
set_option linter.deprecated false
set_option linter.unusedVariables false
set_option linter.unusedSimpArgs false

/- The symbolic run is sound. -/
namespace Go.Sx
open Go.RowKit

def fenAt (r : Option Nat) : Fence := { Fence.wide with round := r }

def marks (hc : List Nat) : List Deferred := hc.map fun D => { target := .collected D, args := #[] }

/-- Where a frame stands. -/
structure Rel (w0 : World) (kp : Nat → Prop) (hid : List Nat) (ro : Nat) (rd : Option Nat) (n : En) (st : St) (a : Act) (w : World) : Prop where
  hr : ∃ hc, a.defers = marks hc ∧ (rd ≠ none → hc = []) ∧ HR w0 kp (hc ++ hid) ro n st.nv st.heap w
  tr : TR n st.heap.length st.nv st.tmps a.tmps
  low : ro ≤ st.heap.length

/-- One comes behind the other. -/
structure Gr (n n' : En) (h h' : List SO) (m m' : Nat) : Prop where
  ag : En.Agree h.length m n n'
  len : h.length ≤ h'.length
  nv : m ≤ m'

theorem Gr.refl (n : En) (h : List SO) (m : Nat) : Gr n n h h m m := ⟨En.Agree.refl _ _ _, Nat.le_refl _, Nat.le_refl _⟩
theorem Gr.trans {n n' n'' : En} {h h' h'' : List SO} {m m' m'' : Nat} (a : Gr n n' h h' m m') (b : Gr n' n'' h' h'' m' m'') : Gr n n'' h h'' m m'' :=
  ⟨a.ag.trans (b.ag.mono a.len a.nv), Nat.le_trans a.len b.len, Nat.le_trans a.nv b.nv⟩

def xIs : X → Exit → Prop
  | .norm, e => e = .normal
  | .exit i, e => e = .exit i
  | .goto l, e => e = .goto l
  | .ret, e => e = .ret

/-- What code comes to. -/
def Post (C : Ctx) (w0 : World) (kp : Nat → Prop) (hid : List Nat) (ro : Nat) (rd : Option Nat) (n : En) (st : St) (Q : (Nat → Int) → X × St → Prop) (e : Exit) (a' : Act) (w' : World) : Prop :=
  ∃ n' x st', Q n'.ρ (x, st') ∧ xIs x e ∧ Rel w0 kp hid ro rd n' st' a' w' ∧ Gr n n' st.heap st'.heap st.nv st'.nv

def ExecOk (C : Ctx) (O : Owe) (f : Nat) : Prop :=
  ∀ (ro cur : Nat) (rd : Option Nat) (c : Code) (st : St) (Q : (Nat → Int) → X × St → Prop) (w0 : World) (kp : Nat → Prop) (hid : List Nat) (n : En) (a : Act) (w : World) (r : Option Nat) (k : Nat),
    CtxOk C n.Φ O → (rd = none → r = none) → Rel w0 kp hid ro rd n st a w → (exec C f ro cur rd c st).Ev n.Φ O n.ρ Q → c.wpIn (fenAt r) k C.P (Post C w0 kp hid ro rd n st Q) a w

def CallOk (C : Ctx) (O : Owe) (f : Nat) : Prop :=
  ∀ (ro g : Nat) (args : List SV) (h : List SO) (nv : Nat) (Q : (Nat → Int) → SV × List SO × Nat → Prop) (w0 : World) (kp : Nat → Prop) (hid : List Nat) (n : En) (w : World),
    CtxOk C n.Φ O → HR w0 kp hid ro n nv h w → ro ≤ h.length → SV.OkL h.length nv args → (call C f ro g args h nv).Ev n.Φ O n.ρ Q →
    Calls C.P g (SV.reL n args).toArray w fun e w' => ∃ n' v h' nv', Q n'.ρ (v, h', nv') ∧ e = .returned (v.re n') ∧ v.Ok h'.length nv' ∧ HR w0 kp hid ro n' nv' h' w' ∧ Gr n n' h h' nv nv'

section
variable {C : Ctx} {O : Owe} {w0 w : World} {kp : Nat → Prop} {hid : List Nat} {ro : Nat} {n : En} {st : St} {a : Act} {rd : Option Nat} {r : Option Nat} {k : Nat}

theorem Post.keep {Q : (Nat → Int) → X × St → Prop} {x : X} {e : Exit} (H : Rel w0 kp hid ro rd n st a w) (hq : Q n.ρ (x, st)) (hx : xIs x e) : Post C w0 kp hid ro rd n st Q e a w :=
  ⟨n, x, st, hq, hx, H, Gr.refl _ _ _⟩

theorem Post.up {Q : (Nat → Int) → X × St → Prop} {n' : En} {st' : St} {e : Exit} {a' : Act} {w' : World} (hg : Gr n n' st.heap st'.heap st.nv st'.nv) (h : Post C w0 kp hid ro rd n' st' Q e a' w') : Post C w0 kp hid ro rd n st Q e a' w' := by
  obtain ⟨n2, x, st2, h1, h2, h3, h4⟩ := h
  exact ⟨n2, x, st2, h1, h2, h3, hg.trans h4⟩

theorem ok_skip {Q : (Nat → Int) → X × St → Prop} (H : Rel w0 kp hid ro rd n st a w) (hq : Q n.ρ (.norm, st)) : Code.skip.wpIn (fenAt r) k C.P (Post C w0 kp hid ro rd n st Q) a w :=
  wpIn_skip (Post.keep H hq rfl)

theorem ok_seq {f : Nat} (ih : ExecOk C O f) (hC : CtxOk C n.Φ O) (hr : rd = none → r = none) {x y : Code} {cur : Nat} {Q : (Nat → Int) → X × St → Prop} (H : Rel w0 kp hid ro rd n st a w)
    (hE : (exec C (f + 1) ro cur rd (.seq x y) st).Ev n.Φ O n.ρ Q) : (Code.seq x y).wpIn (fenAt r) k C.P (Post C w0 kp hid ro rd n st Q) a w := by
  simp only [exec] at hE
  rw [T.Ev_bind] at hE
  refine wpIn_seq (wpIn_mono (ih ro cur rd x st _ w0 kp hid n a w r k hC hr H hE) ?_)
  rintro e a' w' ⟨n', xx, st', hq, hx, hR, hg⟩
  cases xx with
  | norm =>
    simp only [xIs] at hx; subst hx
    have hC' : CtxOk C n'.Φ O := hg.ag.Φ ▸ hC
    have hq' : (exec C f ro cur rd y st').Ev n'.Φ O n'.ρ Q := hg.ag.Φ ▸ hq
    exact wpIn_mono (ih ro cur rd y st' Q w0 kp hid n' a' w' r k hC' hr hR hq') fun e a w h => Post.up hg h
  | exit i => simp only [xIs] at hx; subst hx; exact ⟨n', .exit i, st', hq, rfl, hR, hg⟩
  | goto i => simp only [xIs] at hx; subst hx; exact ⟨n', .goto i, st', hq, rfl, hR, hg⟩
  | ret => simp only [xIs] at hx; subst hx; exact ⟨n', .ret, st', hq, rfl, hR, hg⟩

theorem Ev_branchAt {α : Type} {Φ : Spec} {c : E} {t : Tmp} {l : List (Option SV)} {yes no : List (Option SV) → T α} {ρ : Nat → Int} {Q : (Nat → Int) → α → Prop} (h : (branchAt c t l yes no).Ev Φ O ρ Q) :
    (c.den Φ ρ ≠ 0 ∧ ((yes l).Ev Φ O ρ Q ∨ (yes (l.set t (some ttS))).Ev Φ O ρ Q)) ∨ (c.den Φ ρ = 0 ∧ ((no l).Ev Φ O ρ Q ∨ (no (l.set t (some ffS))).Ev Φ O ρ Q)) := by
  unfold branchAt at h
  split at h
  · rename_i k n
    simp only [E.den]
    split at h
    · rename_i hn; exact .inr ⟨hn, .inl h⟩
    · rename_i hn; exact .inl ⟨hn, .inl h⟩
  · by_cases hc : c.den Φ ρ = 0
    · exact .inr ⟨hc, .inr (h.2 hc)⟩
    · exact .inl ⟨hc, .inr (h.1 hc)⟩

/-- A slot told anew. -/
theorem TR.set {N m : Nat} {tmps : List (Option SV)} {ar : Array Value} (h : TR n N m tmps ar) {t : Tmp} {v : SV} (hv : v.Ok N m) (hr : ∀ u, ar[t]? = some u → u = v.re n) : TR n N m (tmps.set t (some v)) ar := by
  refine ⟨by simp [h.1], fun i u hi => ?_⟩
  rw [List.getElem?_set] at hi
  split at hi
  · rename_i e; subst e
    split at hi
    · rename_i hlt
      simp only [Option.some.injEq] at hi; subst hi
      have hlt' : t < ar.size := by rw [h.1]; exact hlt
      exact ⟨hv, by rw [Array.getElem?_eq_getElem hlt', hr _ (Array.getElem?_eq_getElem hlt')]⟩
    · cases hi
  · exact h.2 i u hi

theorem tt_re : ttS.re n = .bool true := by simp [ttS, SV.re, E.den, K.norm, b2i]
theorem ff_re : ffS.re n = .bool false := by simp [ffS, SV.re, E.den, K.norm, b2i]

theorem ok_cond {f : Nat} (ih : ExecOk C O f) (hC : CtxOk C n.Φ O) (hr : rd = none → r = none) {c : Operand} {x y : Code} {cur : Nat} {Q : (Nat → Int) → X × St → Prop} (H : Rel w0 kp hid ro rd n st a w)
    (hE : (exec C (f + 1) ro cur rd (.cond c x y) st).Ev n.Φ O n.ρ Q) : (Code.cond c x y).wpIn (fenAt r) k C.P (Post C w0 kp hid ro rd n st Q) a w := by
  have go : ∀ (z : Code) (tm : List (Option SV)), TR n st.heap.length st.nv tm a.tmps → (exec C f ro cur rd z { st with tmps := tm }).Ev n.Φ O n.ρ Q → z.wpIn (fenAt r) k C.P (Post C w0 kp hid ro rd n st Q) a w := by
    intro z tm htm hz
    exact ih ro cur rd z { st with tmps := tm } Q w0 kp hid n a w r k hC hr ⟨H.hr, htm, H.low⟩ hz
  cases c with
  | tmp t =>
    simp only [exec, atR_eq] at hE
    split at hE
    · rename_i e he
      obtain ⟨hok, hval⟩ := H.tr.2 t _ he
      have hev : a.eval (.tmp t) = .bool (e.den n.Φ n.ρ != 0) := by
        simp only [Act.eval, Array.getD_eq_getD_getElem?, hval, Option.getD_some, SV.re]
      rcases Ev_branchAt hE with ⟨hc, hq⟩ | ⟨hc, hq⟩
      · have hb : (e.den n.Φ n.ρ != 0) = true := by simp [hc]
        refine wpIn_cond (t := true) (by rw [hev, hb]) ?_
        rcases hq with hq | hq
        · exact go x _ H.tr hq
        · exact go x _ (H.tr.set (v := ttS) (by simp [ttS, SV.Ok, E.under]) fun u hu => by rw [hval] at hu; cases hu; rw [tt_re, SV.re, hb]) hq
      · have hb : (e.den n.Φ n.ρ != 0) = false := by simp [hc]
        refine wpIn_cond (t := false) (by rw [hev, hb]) ?_
        rcases hq with hq | hq
        · exact go y _ H.tr hq
        · exact go y _ (H.tr.set (v := ffS) (by simp [ffS, SV.Ok, E.under]) fun u hu => by rw [hval] at hu; cases hu; rw [ff_re, SV.re, hb]) hq
    · exact hE.elim
  | _ =>
    simp only [exec] at hE
    split at hE
    · rename_i e he
      obtain ⟨hok, hev⟩ := eval_ok H.tr he
      obtain ⟨h1, h2⟩ := Ev_branch hE
      by_cases hc : e.den n.Φ n.ρ = 0
      · have hb : (e.den n.Φ n.ρ != 0) = false := by simp [hc]
        exact wpIn_cond (t := false) (by rw [hev, SV.re, hb]) (go y _ H.tr (h2 hc))
      · have hb : (e.den n.Φ n.ρ != 0) = true := by simp [hc]
        exact wpIn_cond (t := true) (by rw [hev, SV.re, hb]) (go x _ H.tr (h1 hc))
    · exact hE.elim

/-- A block around what is left as 'X' tells. -/
theorem ok_inBlock {id : Nat} {b : Code} {Q : (Nat → Int) → X × St → Prop}
    (h : b.wpIn (fenAt r) k C.P (Post C w0 kp hid ro rd n st fun ρ p => Q ρ (match p.1 with | .exit i => if i = id then (.norm, p.2) else (.exit i, p.2) | x => (x, p.2))) a w) :
    (Code.block id b).wpIn (fenAt r) k C.P (Post C w0 kp hid ro rd n st Q) a w := by
  refine wpIn_block (wpIn_mono h ?_)
  rintro e a' w' ⟨n', x, st', hq, hx, hR, hg⟩
  cases x with
  | norm => simp only [xIs] at hx; subst hx; exact ⟨n', .norm, st', hq, rfl, hR, hg⟩
  | exit i =>
    simp only [xIs] at hx; subst hx
    simp only [Exit.inBlock]
    by_cases hi : i = id
    · rw [if_pos hi]
      simp only [hi, if_true] at hq
      exact ⟨n', .norm, st', hq, rfl, hR, hg⟩
    · rw [if_neg hi]
      simp only [hi, if_false] at hq
      exact ⟨n', .exit i, st', hq, rfl, hR, hg⟩
  | goto i => simp only [xIs] at hx; subst hx; exact ⟨n', .goto i, st', hq, rfl, hR, hg⟩
  | ret => simp only [xIs] at hx; subst hx; exact ⟨n', .ret, st', hq, rfl, hR, hg⟩

/-- A loop that is run round by round. -/
def LoopOk (C : Ctx) (O : Owe) (f : Nat) : Prop :=
  ∀ (ro cur : Nat) (rd : Option Nat) (b : Code) (st : St) (Q : (Nat → Int) → X × St → Prop) (w0 : World) (kp : Nat → Prop) (hid : List Nat) (n : En) (a : Act) (w : World) (r : Option Nat) (k : Nat),
    CtxOk C n.Φ O → (rd = none → r = none) → Rel w0 kp hid ro rd n st a w → (exec C f ro cur rd (.loop b) st).Ev n.Φ O n.ρ Q → Code.roundsIn (fenAt r) k C.P b (Post C w0 kp hid ro rd n st Q) f a w

theorem roundsIn_mono {F : Fence} {P : Program} {c : Code} {Q Q' : Exit → Act → World → Prop} (h : ∀ e a w, Q e a w → Q' e a w) : ∀ (m : Nat) (a : Act) (w : World), Code.roundsIn F k P c Q m a w → Code.roundsIn F k P c Q' m a w
  | 0, _, _, hh => hh.elim
  | m + 1, a, w, hh => by
    refine wpIn_mono hh fun e a w q => ?_
    cases e <;> first | exact h _ _ _ q | exact roundsIn_mono h m _ _ q

theorem ok_loop {f : Nat} (ih : ExecOk C O f) (il : LoopOk C O f) : LoopOk C O (f + 1) := by
  intro ro cur rd b st Q w0 kp hid n a w r k hC hr H hE
  simp only [exec] at hE
  rw [T.Ev_bind] at hE
  refine wpIn_mono (ih ro cur rd b st _ w0 kp hid n a w r k hC hr H hE) ?_
  rintro e a' w' ⟨n', x, st', hq, hx, hR, hg⟩
  cases x with
  | norm =>
    simp only [xIs] at hx; subst hx
    have hC' : CtxOk C n'.Φ O := hg.ag.Φ ▸ hC
    have hq' : (exec C f ro cur rd (.loop b) st').Ev n'.Φ O n'.ρ Q := hg.ag.Φ ▸ hq
    exact roundsIn_mono (fun e a w h => Post.up hg h) _ _ _ (il ro cur rd b st' Q w0 kp hid n' a' w' r k hC' hr hR hq')
  | exit i => simp only [xIs] at hx; subst hx; exact ⟨n', .exit i, st', hq, rfl, hR, hg⟩
  | goto i => simp only [xIs] at hx; subst hx; exact ⟨n', .goto i, st', hq, rfl, hR, hg⟩
  | ret => simp only [xIs] at hx; subst hx; exact ⟨n', .ret, st', hq, rfl, hR, hg⟩

theorem Ev_branchAt_tr {α : Type} {e : E} {t : Tmp} {l : List (Option SV)} {yes no : List (Option SV) → T α} {N m : Nat} {ar : Array Value} {Q : (Nat → Int) → α → Prop} (hT : TR n N m l ar) (hl : l[t]? = some (some (.bool e)))
    (h : (branchAt e t l yes no).Ev n.Φ O n.ρ Q) : ∃ l', TR n N m l' ar ∧ ((ar[t]? = some (.bool true) ∧ (yes l').Ev n.Φ O n.ρ Q) ∨ (ar[t]? = some (.bool false) ∧ (no l').Ev n.Φ O n.ρ Q)) := by
  obtain ⟨hok, hval⟩ := hT.2 t _ hl
  rcases Ev_branchAt h with ⟨hc, hq⟩ | ⟨hc, hq⟩
  · have hb : (e.den n.Φ n.ρ != 0) = true := by simp [hc]
    rw [SV.re, hb] at hval
    rcases hq with hq | hq
    · exact ⟨_, hT, .inl ⟨hval, hq⟩⟩
    · exact ⟨_, hT.set (v := ttS) (by simp [ttS, SV.Ok, E.under]) fun u hu => by rw [hval] at hu; cases hu; rw [tt_re], .inl ⟨hval, hq⟩⟩
  · have hb : (e.den n.Φ n.ρ != 0) = false := by simp [hc]
    rw [SV.re, hb] at hval
    rcases hq with hq | hq
    · exact ⟨_, hT, .inr ⟨hval, hq⟩⟩
    · exact ⟨_, hT.set (v := ffS) (by simp [ffS, SV.Ok, E.under]) fun u hu => by rw [hval] at hu; cases hu; rw [ff_re], .inr ⟨hval, hq⟩⟩

theorem Ev_wanted {α : Type} {ops : Array Oper} {l : List (Option SV)} {o : Oper} {yes no : List (Option SV) → T α} {N m : Nat} {ar : Array Value} {Q : (Nat → Int) → α → Prop} (hT : TR n N m l ar)
    (h : (wanted ops.toList l o yes no).Ev n.Φ O n.ρ Q) : ∃ l', TR n N m l' ar ∧ ((Region.wanted o (yielded ops ar) = true ∧ (yes l').Ev n.Φ O n.ρ Q) ∨ (Region.wanted o (yielded ops ar) = false ∧ (no l').Ev n.Φ O n.ρ Q)) := by
  unfold wanted at h
  simp only [atR_eq] at h
  unfold Region.wanted
  split at h
  · rename_i hg
    exact ⟨l, hT, .inl ⟨by simp [hg], h⟩⟩
  · rename_i j want hg
    simp only [hg]
    split at h
    · rename_i t ht
      have hy : ∀ v, ar[t]? = some v → yielded ops ar j = (match v with | .bool b => some b | _ => none) := by
        intro v hv
        have ht' : (ops[j]?).bind (·.dst) = some t := by simpa using ht
        simp only [yielded, ht', Option.bind_some, hv]
        cases v <;> rfl
      split at h
      · rename_i e he
        split at h
        · rename_i hw
          obtain ⟨l', h1, h2⟩ := Ev_branchAt_tr hT he h
          refine ⟨l', h1, h2.imp (fun ⟨h3, h4⟩ => ⟨?_, h4⟩) (fun ⟨h3, h4⟩ => ⟨?_, h4⟩)⟩
          · rw [hy _ h3]; simp [hw]
          · rw [hy _ h3]; simp [hw]
        · rename_i hw
          obtain ⟨l', h1, h2⟩ := Ev_branchAt_tr hT he h
          refine ⟨l', h1, h2.symm.imp (fun ⟨h3, h4⟩ => ⟨?_, h4⟩) (fun ⟨h3, h4⟩ => ⟨?_, h4⟩)⟩
          · rw [hy _ h3]; simp at hw; simp [hw]
          · rw [hy _ h3]; simp at hw; simp [hw]
      · rename_i he
        obtain ⟨_, hval⟩ := hT.2 t _ he
        exact ⟨l, hT, .inr ⟨by rw [hy _ hval]; simp [SV.re], h⟩⟩
      · exact h.elim
    · exact h.elim

/-- A slot written. -/
theorem TR.put {N m : Nat} {tmps : List (Option SV)} (h : TR n N m tmps a.tmps) (d : Option Tmp) {v : SV} (hv : v.Ok N m) : TR n N m (setTmp tmps d v) (a.put d (v.re n)).tmps := by
  cases d with
  | none => exact h
  | some t =>
    refine ⟨by simp [setTmp, Act.put, h.1, setR_eq], fun i u hi => ?_⟩
    simp only [setTmp, List.getElem?_set, setR_eq] at hi
    simp only [Act.put, Array.getElem?_setIfInBounds]
    split at hi
    · rename_i e; subst e
      split at hi
      · rename_i hlt
        simp only [Option.some.injEq] at hi; subst hi
        rw [if_pos rfl, if_pos (by rw [h.1]; exact hlt)]
        exact ⟨hv, rfl⟩
      · cases hi
    · rename_i e
      rw [if_neg e]; exact h.2 i u hi

theorem put_defers (d : Option Tmp) (v : Value) : (a.put d v).defers = a.defers := by cases d <;> rfl

/-- One operation that calls no Go function, where the frame stands. -/
theorem ok_sop (hC : CtxOk C n.Φ O) {o : Oper} {Q : (Nat → Int) → R → Prop} {next : Act → World → Prop} {QQ : Exit → Act → World → Prop} (H : Rel w0 kp hid ro rd n st a w) (hE : (sop C ro st o).Ev n.Φ O n.ρ Q) (hdef : ∀ c, o.op ≠ .defer c)
    (hnext : ∀ (n' : En) (rr : R) (a' : Act) (w' : World), Q n'.ρ rr → n'.ρ = n.ρ → Rel w0 kp hid ro rd n' { st with tmps := setTmp st.tmps o.dst (rr.v.getD undefS), heap := rr.heap st.heap } a' w' → Gr n n' st.heap (rr.heap st.heap) st.nv st.nv → next a' w') :
    o.wpIn (fenAt r) k C.P a w next QQ := by
  obtain ⟨hc, hd, hrd, hH⟩ := H.hr
  obtain ⟨rr, hq, x, w', hrun, hdo⟩ := sop_sound o (fun s vs r h => (hC.fold s vs r h).1) hH H.tr hE
  obtain ⟨n', hag, hρ, hH', hx, hok⟩ := hdo st.heap (Sub.refl _) hH
  have hlen : (rr.heap st.heap).length = st.heap.length + rr.new.length := heap_length rr st.heap
  have hg : Gr n n' st.heap (rr.heap st.heap) st.nv st.nv := ⟨hag, by omega, Nat.le_refl _⟩
  have hT' := H.tr.mono (N' := (rr.heap st.heap).length) (m' := st.nv) (by omega) (Nat.le_refl _) hag
  have fin : ∀ v : SV, v.Ok (rr.heap st.heap).length st.nv → rr.v.getD undefS = v → next (a.put o.dst (v.re n')) w' := by
    intro v hv e
    refine hnext n' rr _ w' (by rw [hρ]; exact hq) hρ ⟨⟨hc, by rw [put_defers]; exact hd, hrd, hH'⟩, ?_, by have := H.low; simp only; omega⟩ hg
    simp only [e]
    exact TR.put hT' o.dst hv
  refine ⟨fun _ _ => trivial, ?_⟩
  rw [Oper.semAt_eq _ _ _ hdef, hrun]
  unfold NextIs at hx
  cases hv : rr.v with
  | none =>
    rw [hv] at hx; simp only at hx; subst hx
    exact fin undefS trivial (by rw [hv]; rfl)
  | some v =>
    rw [hv] at hx; simp only at hx; subst hx
    exact fin v (hok v hv) (by rw [hv]; rfl)
end

/-- One operation that calls a Go function. -/
def CallOpOk (C : Ctx) (O : Owe) (f : Nat) : Prop :=
  ∀ (ro : Nat) (o : Oper) (fv : SV) (args : List SV) (st : St) (Q : (Nat → Int) → SV × List SO × Nat → Prop) (w0 : World) (kp : Nat → Prop) (hid : List Nat) (n : En) (a : Act) (w : World) (r : Option Nat) (k : Nat) (next : Act → World → Prop) (QQ : Exit → Act → World → Prop),
    CtxOk C n.Φ O → HR w0 kp hid ro n st.nv st.heap w → TR n st.heap.length st.nv st.tmps a.tmps → ro ≤ st.heap.length → callee? st o = some (fv, args) → (callV C f ro fv args st.heap st.nv).Ev n.Φ O n.ρ Q →
    (∀ (n' : En) (v : SV) (h' : List SO) (nv' : Nat) (w' : World), Q n'.ρ (v, h', nv') → HR w0 kp hid ro n' nv' h' w' → v.Ok h'.length nv' → Gr n n' st.heap h' st.nv nv' → next (a.put o.dst (v.re n')) w') →
    o.wpIn (fenAt r) k C.P a w next QQ

def PostO (w0 : World) (kp : Nat → Prop) (hid : List Nat) (ro : Nat) (rd : Option Nat) (n : En) (st : St) (Q : (Nat → Int) → St → Prop) (e : Exit) (a' : Act) (w' : World) : Prop :=
  e = .normal ∧ ∃ n' st', Q n'.ρ st' ∧ Rel w0 kp hid ro rd n' st' a' w' ∧ Gr n n' st.heap st'.heap st.nv st'.nv

def OpsOk (C : Ctx) (O : Owe) (f : Nat) : Prop :=
  ∀ (ro : Nat) (rd : Option Nat) (ops : Array Oper) (i : Nat) (os : List Oper) (st : St) (Q : (Nat → Int) → St → Prop) (w0 : World) (kp : Nat → Prop) (hid : List Nat) (n : En) (a : Act) (w : World) (r : Option Nat) (k : Nat) (QQ : Exit → Act → World → Prop),
    CtxOk C n.Φ O → Rel w0 kp hid ro rd n st a w → ops.toList.drop i = os → (execOps C f ro rd ops.toList os st).Ev n.Φ O n.ρ Q →
    (∀ e a w, PostO w0 kp hid ro rd n st Q e a w → QQ e a w) → wpOpsIn (fenAt r) k C.P ops QQ (List.range' i os.length) a w

theorem sop_defer {C : Ctx} {O : Owe} {ro : Nat} {st : St} {o : Oper} {Φ : Spec} {ρ : Nat → Int} {Q : (Nat → Int) → R → Prop} (h : (sop C ro st o).Ev Φ O ρ Q) : ∀ c, o.op ≠ .defer c := by
  intro c hc
  unfold sop at h
  rw [hc] at h
  exact h.elim

theorem ok_ops {C : Ctx} {O : Owe} {f : Nat} (ih : OpsOk C O f) (ic : CallOpOk C O f) : OpsOk C O (f + 1) := by
  intro ro rd ops i os st Q w0 kp hid n a w r k QQ hC H hos hE hQ
  cases os with
  | nil =>
    simp only [execOps] at hE
    exact hQ _ _ _ ⟨rfl, n, st, hE, H, Gr.refl _ _ _⟩
  | cons o os =>
    have hoi : ops[i]? = some o := by
      have := congrArg (fun l => l[0]?) hos
      simpa [List.getElem?_drop] using this
    have hos' : ops.toList.drop (i + 1) = os := by
      have := congrArg List.tail hos
      simpa [List.tail_drop] using this
    simp only [execOps] at hE
    obtain ⟨l', hT', hcase⟩ := Ev_wanted H.tr hE
    have H' : Rel w0 kp hid ro rd n { st with tmps := l' } a w := ⟨H.hr, hT', H.low⟩
    have step : ∀ (n' : En) (st' : St) (a' : Act) (w' : World), (execOps C f ro rd ops.toList os st').Ev n'.Φ O n'.ρ Q → Rel w0 kp hid ro rd n' st' a' w' → Gr n n' st.heap st'.heap st.nv st'.nv →
        wpOpsIn (fenAt r) k C.P ops QQ (List.range' (i + 1) os.length) a' w' := by
      intro n' st' a' w' hq hR hg
      refine ih ro rd ops (i + 1) os st' Q w0 kp hid n' a' w' r k QQ (hg.ag.Φ ▸ hC) hR hos' hq ?_
      rintro e a'' w'' ⟨rfl, n2, st2, h1, h2, h3⟩
      exact hQ _ _ _ ⟨rfl, n2, st2, h1, h2, hg.trans h3⟩
    simp only [List.length_cons, List.range'_succ, wpOpsIn, hoi]
    rcases hcase with ⟨hw, hq⟩ | ⟨hw, hq⟩
    · rw [if_pos hw]
      split at hq
      · split at hq
        · rename_i fv args hcal
          rw [T.Ev_bind] at hq
          obtain ⟨hc, hd, hrd, hH⟩ := H.hr
          refine ic ro o fv args { st with tmps := l' } _ w0 kp (hc ++ hid) n a w r k _ _ hC hH hT' H.low hcal hq ?_
          intro n' v h' nv' w' hq' hH' hv hg
          refine step n' _ _ w' (hg.ag.Φ ▸ hq') ⟨⟨hc, by rw [put_defers]; exact hd, hrd, hH'⟩, ?_, Nat.le_trans H.low hg.len⟩ hg
          exact TR.put (hT'.mono hg.len hg.nv hg.ag) o.dst hv
        · exact hq.elim
      · rw [T.Ev_bind] at hq
        refine ok_sop hC H' hq (sop_defer hq) ?_
        intro n' rr a' w' hq' hρ hR hg
        exact step n' _ a' w' (hg.ag.Φ ▸ hq') hR hg
    · rw [if_neg (by rw [hw]; simp)]
      refine ⟨fun _ _ => trivial, ?_⟩
      obtain ⟨hc, hd, hrd, hH⟩ := H.hr
      refine step n _ _ w hq ⟨⟨hc, by rw [put_defers]; exact hd, hrd, hH⟩, ?_, H.low⟩ (Gr.refl _ _ _)
      exact TR.put hT' o.dst (v := undefS) trivial

/-- The call of a function that is there. -/
theorem run_callFunc {P : Program} {g : Nat} {fn : Func} {b : Code} {args : Array Value} {w : World} (h1 : P.funcs[g]? = some fn) (h2 : fn.body = some b) (h3 : (fn.name == "runtime.NumGoroutine") = false) :
    (callFunc g args).run P w = .ok (.enter g args) w := by
  have h4 : ¬ fn.name = "runtime.NumGoroutine" := by simpa using h3
  simp [callFunc, Sem.run_bind, Result.andThen_ok, h1, h2, h4, program, Sem.run]

theorem isCallee {st : St} {o : Oper} {fv : SV} {args : List SV} (h : callee? st o = some (fv, args)) : ∃ (f : Operand) (as : Array Operand) (ts : Array TypeId), o.op = .call { callee := .value f, args := as, argTypes := ts } ∧ st.eval f = some fv ∧ evalL st as.toList = some args := by
  unfold callee? at h
  split at h
  · split at h
    · rename_i h1 h2
      cases h
      exact ⟨_, _, _, rfl, h1, h2⟩
    · cases h
  · cases h

theorem ok_fn {C : Ctx} {O : Owe} {f : Nat} (ih : CallOk C O f) {ro : Nat} {o : Oper} {g : Nat} {first cap args : List SV} {st : St} {Q : (Nat → Int) → SV × List SO × Nat → Prop} {w0 : World} {kp : Nat → Prop} {hid : List Nat} {n : En} {a : Act} {w : World} {r : Option Nat} {k : Nat} {next : Act → World → Prop} {QQ : Exit → Act → World → Prop}
    (hC : CtxOk C n.Φ O) (hH : HR w0 kp hid ro n st.nv st.heap w) (hT : TR n st.heap.length st.nv st.tmps a.tmps) (hlow : ro ≤ st.heap.length) (hcal : callee? st o = some (.fn g first cap, args)) (hE : (call C f ro g (first ++ args ++ cap) st.heap st.nv).Ev n.Φ O n.ρ Q)
    (hthere : ∃ (fn : Func) (b : Code), C.P.funcs[g]? = some fn ∧ fn.body = some b)
    (hnext : ∀ (n' : En) (v : SV) (h' : List SO) (nv' : Nat) (w' : World), Q n'.ρ (v, h', nv') → HR w0 kp hid ro n' nv' h' w' → v.Ok h'.length nv' → Gr n n' st.heap h' st.nv nv' → next (a.put o.dst (v.re n')) w') :
    o.wpIn (fenAt r) k C.P a w next QQ := by
  obtain ⟨fo, as, ts, hop, hf, has⟩ := isCallee hcal
  obtain ⟨hfok, hfe⟩ := eval_ok hT hf
  obtain ⟨haok, hae⟩ := evalL_ok hT has
  obtain ⟨fn, b, h1, h2⟩ := hthere
  refine ⟨fun _ _ => trivial, ?_⟩
  have hargs : as.map a.eval = (SV.reL n args).toArray := Array.ext' (by rw [Array.toList_map]; exact hae)
  have hrun : (o.semAt (fenAt r).round a.eval).run C.P w = .ok (.enter g (SV.reL n (first ++ args ++ cap)).toArray) w := by
    rw [Oper.semAt_eq _ _ _ (by rw [hop]; intro c hc; cases hc)]
    simp only [execOp, hop, resolve, hargs, hfe, SV.re, Deferred.ofValue, Sem.run_bind, Sem.run_pure, Result.andThen_ok, invoke]
    rw [run_callFunc h1 h2 (hC.noGo g fn h1)]
    simp [reL_append]
  rw [hrun, Oper.uponIn_enter]
  refine ⟨fun h => by simp [fenAt, Fence.wide] at h, ?_⟩
  have hok : SV.OkL st.heap.length st.nv (first ++ args ++ cap) := okL_append.2 ⟨okL_append.2 ⟨hfok.1, haok⟩, hfok.2⟩
  have hcalls := ih ro g (first ++ args ++ cap) st.heap st.nv Q w0 kp hid n w hC hH hlow hok hE
  refine CallsIn.mono (callsIn_wide.2 hcalls) ?_
  rintro e w' ⟨n', v, h', nv', hq, rfl, hv, hH', hg⟩
  exact hnext n' v h' nv' w' hq hH' hv hg

/-- The slots that a round begins with. -/
theorem TR.given {n : En} {N m : Nat} : ∀ {ps : List Tmp} {args : List SV} {tmps : List (Option SV)} {ar : Array Value}, SV.OkL N m args → TR n N m tmps ar →
    TR n N m ((ps.zip args).foldl (fun t p => t.set p.1 (some p.2)) tmps) ((ps.zip (SV.reL n args)).foldl (fun t p => t.setIfInBounds p.1 p.2) ar)
  | [], _, _, _, _, h => by simpa using h
  | _ :: _, [], _, _, _, h => by simpa [SV.reL] using h
  | p :: ps, v :: vs, tmps, ar, hok, h => by
    simp only [SV.reL, List.zip_cons_cons, List.foldl_cons]
    have hput := TR.put (a := { tmps := ar, defers := [] }) h (some p) hok.1
    simp only [setTmp, setR_eq] at hput
    exact TR.given hok.2 hput
end Go.Sx

/- The symbolic run is sound: a round of a range over a function. -/
namespace Go.Sx
open Go.RowKit

theorem turned_putObj {w : World} {b : Nat} {x : Obj} (h : b < w.heap.size) : Turned w (w.putObj b x) b x :=
  ⟨rfl, rfl, rfl, World.putObj_size, World.putObj_heap_same h, fun k hk => World.putObj_heap_other hk⟩

/-- A loop's record, and it turned. -/
theorem HR.record {w0 w : World} {kp : Nat → Prop} {hid : List Nat} {ro : Nat} {n : En} {m : Nat} {h : List SO} (H : HR w0 kp hid ro n m h w) {i : Nat} {s : LoopState} {p : Option Code} {fn : FuncId}
    {t : List (Option SV)} {ps : List Tmp} {a b : Code} (hi : h[i]? = some (.loop s p fn t ps a b)) (hro : ro ≤ i) :
    ∃ lp : Loop, w.heap[n.ε i]? = some (.loop lp) ∧ lp.state = s ∧ lp.pending = p ∧ lp.params.toList = ps ∧ lp.assign = a ∧ lp.body = b ∧ TR n h.length m t lp.tmps ∧
      ∀ (s' : LoopState) (p' : Option Code), HR w0 kp hid ro n m (h.set i (.loop s' p' fn t ps a b)) (w.putObj (n.ε i) (.loop { lp with state := s', pending := p' })) := by
  obtain ⟨lp, h1, h2, h3, h4, h5, h6, h7⟩ := H.blk i _ hi
  refine ⟨lp, h1, h2, h3, h4, h5, h6, h7, fun s' p' => ?_⟩
  exact H.set hi rfl hro (turned_putObj (H.lt hi rfl)) _ ⟨_, rfl, rfl, rfl, h4, h5, h6, h7⟩

theorem ok_yield {C : Ctx} {O : Owe} {f : Nat} (ih : ExecOk C O f) {ro : Nat} {o : Oper} {l : Nat} {args : List SV} {st : St} {Q : (Nat → Int) → SV × List SO × Nat → Prop} {w0 : World} {kp : Nat → Prop} {hid : List Nat} {n : En} {a : Act} {w : World} {r : Option Nat} {k : Nat} {next : Act → World → Prop} {QQ : Exit → Act → World → Prop}
    (hC : CtxOk C n.Φ O) (hH : HR w0 kp hid ro n st.nv st.heap w) (hT : TR n st.heap.length st.nv st.tmps a.tmps) (hlow : ro ≤ st.heap.length) (hcal : callee? st o = some (.yield l, args)) (hE : (callV C (f + 1) ro (.yield l) args st.heap st.nv).Ev n.Φ O n.ρ Q)
    (hnext : ∀ (n' : En) (v : SV) (h' : List SO) (nv' : Nat) (w' : World), Q n'.ρ (v, h', nv') → HR w0 kp hid ro n' nv' h' w' → v.Ok h'.length nv' → Gr n n' st.heap h' st.nv nv' → next (a.put o.dst (v.re n')) w') :
    o.wpIn (fenAt r) k C.P a w next QQ := by
  obtain ⟨fo, as, ts, hop, hf, has⟩ := isCallee hcal
  obtain ⟨hfok, hfe⟩ := eval_ok hT hf
  obtain ⟨haok, hae⟩ := evalL_ok hT has
  simp only [callV] at hE
  split at hE
  rotate_left
  · exact hE.elim
  rename_i fn tms ps asg body hl
  split at hE
  · exact hE.elim
  rename_i hcond
  have hlro : ro ≤ l := by
    refine Nat.le_of_not_lt fun h => hcond (.inl h)
  have hlen : ps.length = args.length := Decidable.byContradiction fun h => hcond (.inr h)
  rw [T.Ev_bind] at hE
  obtain ⟨lp, hlp, hst, hpend, hps, hasg, hbody, htms, hput⟩ := hH.record hl hlro
  have hargs : as.map a.eval = (SV.reL n args).toArray := Array.ext' (by rw [Array.toList_map]; exact hae)
  have hsz : (SV.reL n args).toArray.size = lp.params.size := by
    have h1 : lp.params.size = ps.length := by rw [← hps]; simp
    rw [h1, hlen]; simp [SV.reL_eq]
  have hrun : (o.semAt (fenAt r).round a.eval).run C.P w = .ok (.round (n.ε l) lp.fn ((lp.params.zip (SV.reL n args).toArray).foldl (fun tmps (t, a) => tmps.setIfInBounds t a) lp.tmps) lp.assign lp.body) w := by
    rw [Oper.semAt_eq _ _ _ (by rw [hop]; intro c hc; cases hc)]
    simp only [execOp, hop, resolve, hargs, hfe, SV.re, Deferred.ofValue, Sem.run_bind, Sem.run_pure, Result.andThen_ok, invoke]
    simpa using run_yield (P := C.P) hlp hsz
  refine ⟨fun _ _ => trivial, ?_⟩
  rw [hrun, Oper.uponIn_round]
  refine ⟨fun h => by simp [fenAt, Fence.wide] at h, roundIn_of_wpIn trivial ?_⟩
  have hT0 : TR n st.heap.length st.nv ((ps.zip args).foldl (fun t p => t.set p.1 (some p.2)) tms) ((lp.params.zip (SV.reL n args).toArray).foldl (fun tmps (t, a) => tmps.setIfInBounds t a) lp.tmps) := by
    have := TR.given (ps := ps) (args := args) haok htms
    rw [← hps] at this ⊢
    rw [← Array.foldl_toList, Array.toList_zip]
    exact this
  have hRel0 : Rel w0 kp hid ro (some l) n { tmps := (ps.zip args).foldl (fun t p => t.set p.1 (some p.2)) tms, heap := st.heap, nv := st.nv } { tmps := (lp.params.zip (SV.reL n args).toArray).foldl (fun tmps (t, a) => tmps.setIfInBounds t a) lp.tmps, defers := [] } w :=
    ⟨⟨[], rfl, fun _ => rfl, hH⟩, hT0, hlow⟩
  rw [hasg, hbody]
  refine wpIn_mono (ih ro fn (some l) asg _ _ w0 kp hid n _ w (some (n.ε l)) (k - 1) hC (fun h => by cases h) hRel0 hE) ?_
  rintro e a1 w1 ⟨n1, x1, st1, hq1, hx1, hR1, hg1⟩
  cases x1 with
  | norm =>
    simp only [xIs] at hx1; subst hx1
    simp only at hq1
    split at hq1
    rotate_left
    · exact hq1.elim
    rename_i fn1 tms1 ps1 asg1 body1 hl1
    obtain ⟨hc1, hd1, hrd1, hH1⟩ := hR1.hr
    have hc1' := hrd1 (by simp); subst hc1'
    have he1 : n1.ε l = n.ε l := (hg1.ag.ε l (List.getElem?_eq_some_iff.1 hl).1).symm
    obtain ⟨lp1, hlp1, hst1, hpend1, hps1, hasg1, hbody1, htms1, hput1⟩ := hH1.record hl1 hlro
    rw [he1] at hlp1 hput1
    refine ⟨_, run_beginRound hlp1 hst1, ?_⟩
    rw [T.Ev_bind] at hq1
    have hb1 := hput1 .busy none
    have hpend1' : ({ lp1 with state := .busy, pending := none } : Loop) = { lp1 with state := .busy } := by rw [← hpend1]
    rw [hpend1'] at hb1
    have hRel1 : Rel w0 kp hid ro (some l) n1 { st1 with heap := st1.heap.set l (.loop .busy none fn1 tms1 ps1 asg1 body1) } a1 (w1.putObj (n.ε l) (.loop { lp1 with state := .busy })) :=
      ⟨⟨[], hd1, fun _ => rfl, hb1⟩, by simpa using hR1.tr, by simpa using hR1.low⟩
    refine wpIn_mono (ih ro fn (some l) body _ _ w0 kp hid n1 _ _ (some (n.ε l)) (k - 1) (hg1.ag.Φ ▸ hC) (fun h => by cases h) hRel1 (hg1.ag.Φ ▸ hq1)) ?_
    rintro e a2 w2 ⟨n2, x2, st2, hq2, hx2, hR2, hg2⟩
    simp only at hq2
    split at hq2
    rotate_left
    · exact hq2.elim
    rename_i fn2 tms2 ps2 asg2 body2 hl2
    obtain ⟨hc2, hd2, hrd2, hH2⟩ := hR2.hr
    have hc2' := hrd2 (by simp); subst hc2'
    have he2 : n2.ε l = n.ε l := by
      rw [← he1]
      refine (hg2.ag.ε l ?_).symm
      simpa using (List.getElem?_eq_some_iff.1 hl1).1
    obtain ⟨lp2, hlp2, hst2, hpend2, hps2, hasg2, hbody2, htms2, hput2⟩ := hH2.record hl2 hlro
    rw [he2] at hlp2 hput2
    have hgr : Gr n n2 st.heap st2.heap st.nv st2.nv := by
      refine hg1.trans ⟨?_, ?_, hg2.nv⟩
      · simpa using hg2.ag
      · simpa using hg2.len
    -- the round's end
    have fin : ∀ (b : Bool) (s' : LoopState) (p' : Option Code), Q n2.ρ (.bool (.lit .bool (b2i b)), st2.heap.set l (.loop s' p' fn2 tms2 ps2 asg2 body2), st2.nv) →
        next (a.put o.dst (.bool b)) (w2.putObj (n.ε l) (.loop { lp2 with state := s', pending := p' })) := by
      intro b s' p' hQ
      have hv : (SV.bool (.lit .bool (b2i b))).re n2 = .bool b := by cases b <;> simp [SV.re, E.den, K.norm, b2i]
      have hgr' : Gr n n2 st.heap (st2.heap.set l (.loop s' p' fn2 tms2 ps2 asg2 body2)) st.nv st2.nv := ⟨hgr.ag, by simpa using hgr.len, hgr.nv⟩
      rw [← hv]
      exact hnext n2 _ _ _ _ hQ (hput2 s' p') (by simp [SV.Ok, E.under]) hgr'
    cases x2 with
    | norm =>
      simp only [xIs] at hx2; subst hx2
      exact ⟨_, _, run_endRound none hlp2, fin true .ready none hq2⟩
    | ret =>
      simp only [xIs] at hx2; subst hx2
      exact ⟨_, _, run_endRound (some .ret) hlp2, fin false .done (some .ret) hq2⟩
    | exit i =>
      simp only [xIs] at hx2; subst hx2
      exact ⟨_, _, run_endRound (some (.exit i)) hlp2, fin false .done (some (.exit i)) hq2⟩
    | goto i =>
      simp only [xIs] at hx2; subst hx2
      exact ⟨_, _, run_endRound (some (.goto i)) hlp2, fin false .done (some (.goto i)) hq2⟩
  | exit i => exact hq1.elim
  | goto i => exact hq1.elim
  | ret => exact hq1.elim

end Go.Sx

/- The symbolic run is sound: a call of a function. -/
namespace Go.Sx
open Go.RowKit

theorem call_there {C : Ctx} {O : Owe} {f ro g : Nat} {args : List SV} {h : List SO} {nv : Nat} {Φ Φ' : Spec} {ρ : Nat → Int} {Q : (Nat → Int) → SV × List SO × Nat → Prop} (hC : CtxOk C Φ O) (hE : (call C f ro g args h nv).Ev Φ' O ρ Q) :
    ∃ (fn : Func) (b : Code), C.P.funcs[g]? = some fn ∧ fn.body = some b := by
  cases f with
  | zero => simp only [call] at hE; exact hE.elim
  | succ f =>
    simp only [call] at hE
    split at hE
    · rename_i c hc; exact hC.has g c hc
    · split at hE
      · exact hE.elim
      · rename_i fn hfn
        rw [atR_eq, Array.getElem?_toList] at hfn
        split at hE
        · exact hE.elim
        · rename_i b hb; exact ⟨fn, b, hfn, hb⟩

theorem num_re {n : En} {k : IntKind} {e : E} {x : Int} (h : e.num k = some x) : (SV.int k e).re n = .int k x ∧ k.wrap x = x := by
  cases e <;> simp only [E.num, Option.some.injEq, reduceCtorEq] at h
  subst h
  exact ⟨by simp only [SV.re, E.den], wrap_wrap _ _⟩

theorem ok_add64 {C : Ctx} {O : Owe} {ro : Nat} {o : Oper} {g : Nat} {ex ey ec : E} {x y c : Int} {st : St} {Q : (Nat → Int) → SV × List SO × Nat → Prop} {w0 : World} {kp : Nat → Prop} {hid : List Nat} {n : En} {a : Act} {w : World} {r : Option Nat} {k : Nat} {next : Act → World → Prop} {QQ : Exit → Act → World → Prop}
    (hC : CtxOk C n.Φ O) (hH : HR w0 kp hid ro n st.nv st.heap w) (hT : TR n st.heap.length st.nv st.tmps a.tmps) (hg : C.add64 = some g) (hcal : callee? st o = some (.fn g [] [], [.int .u64 ex, .int .u64 ey, .int .u64 ec]))
    (hx : ex.num .u64 = some x) (hy : ey.num .u64 = some y) (hc : ec.num .u64 = some c) (hc1 : c ≤ 1)
    (hE : Q n.ρ (.tuple [.int .u64 (.lit (.int .u64) ((x + y + c) % 18446744073709551616)), .int .u64 (.lit (.int .u64) ((x + y + c) / 18446744073709551616))], st.heap, st.nv))
    (hnext : ∀ (n' : En) (v : SV) (h' : List SO) (nv' : Nat) (w' : World), Q n'.ρ (v, h', nv') → HR w0 kp hid ro n' nv' h' w' → v.Ok h'.length nv' → Gr n n' st.heap h' st.nv nv' → next (a.put o.dst (v.re n')) w') :
    o.wpIn (fenAt r) k C.P a w next QQ := by
  obtain ⟨fo, as, ts, hop, hf, has⟩ := isCallee hcal
  obtain ⟨hfok, hfe⟩ := eval_ok hT hf
  obtain ⟨haok, hae⟩ := evalL_ok hT has
  obtain ⟨hxr, hxw⟩ := num_re (n := n) hx
  obtain ⟨hyr, hyw⟩ := num_re (n := n) hy
  obtain ⟨hcr, hcw⟩ := num_re (n := n) hc
  have hx0 : 0 ≤ x := by have := (wrap_range .u64 x).1; rw [hxw] at this; exact this
  have hy0 : 0 ≤ y := by have := (wrap_range .u64 y).1; rw [hyw] at this; exact this
  have hc0 : 0 ≤ c := by have := (wrap_range .u64 c).1; rw [hcw] at this; exact this
  have hx1 : x ≤ 18446744073709551615 := by have := (wrap_range .u64 x).2; rw [hxw] at this; exact this
  have hy1 : y ≤ 18446744073709551615 := by have := (wrap_range .u64 y).2; rw [hyw] at this; exact this
  refine ⟨fun _ _ => trivial, ?_⟩
  have hargs : as.map a.eval = #[.int .u64 x, .int .u64 y, .int .u64 c] := by
    refine Array.ext' ?_
    rw [Array.toList_map]
    rw [hae]
    simp only [SV.reL, hxr, hyr, hcr]
  have hrun : (o.semAt (fenAt r).round a.eval).run C.P w = .ok (.value (.tuple #[.int .u64 ((x + y + c) % 18446744073709551616), .int .u64 ((x + y + c) / 18446744073709551616)])) w := by
    rw [Oper.semAt_eq _ _ _ (by rw [hop]; intro c hc; cases hc)]
    simp only [execOp, hop, resolve, hargs, hfe, SV.re, SV.reL, Deferred.ofValue, Sem.run_bind, Sem.run_pure, Result.andThen_ok, invoke]
    have := hC.ext g hg x y c w hx0 hy0 hc0 hc1
    simpa using this
  rw [hrun, Oper.uponIn_value]
  have h1 : IntKind.u64.wrap ((x + y + c) % 18446744073709551616) = (x + y + c) % 18446744073709551616 := wrap_id (by simp only [lo, hi]; omega)
  have h2 : IntKind.u64.wrap ((x + y + c) / 18446744073709551616) = (x + y + c) / 18446744073709551616 := wrap_id (by simp only [lo, hi]; omega)
  have := hnext n _ _ _ w hE hH ⟨rfl, rfl, trivial⟩ (Gr.refl _ _ _)
  simpa only [SV.re, SV.reL, E.den, norm_int, h1, h2] using this

theorem ok_callOp {C : Ctx} {O : Owe} {f : Nat} (ih : ExecOk C O f) (ic : CallOk C O f) : CallOpOk C O (f + 1) := by
  intro ro o fv args st Q w0 kp hid n a w r k next QQ hC hH hT hlow hcal hE hnext
  cases fv with
  | fn g first cap =>
    have hE' := hE
    unfold callV at hE'
    simp only at hE'
    split at hE'
    · rename_i hg
      split at hE'
      · rename_i ex ey ec
        split at hE'
        · rename_i x y c hx hy hc
          split at hE'
          · rename_i hc1
            exact ok_add64 hC hH hT hg hcal hx hy hc hc1 hE' hnext
          · exact hE'.elim
        · exact hE'.elim
      · exact hE'.elim
    · exact ok_fn ic hC hH hT hlow hcal hE' (call_there hC hE') hnext
  | yield l => exact ok_yield ih hC hH hT hlow hcal hE hnext
  | _ => simp only [callV] at hE; exact hE.elim

section
variable {P : Program} {w0 w : World} {kp : Nat → Prop} {hid : List Nat} {ro : Nat} {n : En} {m : Nat} {h : List SO}

/-- A block for deferred calls, shut. -/
theorem HR.unhide {D : Nat} (H : HR w0 kp (D :: hid) ro n m h w) (x : Obj) : HR w0 kp hid ro n m h (w.putObj D x) := by
  have hne : ∀ {b : Nat}, b ≠ D → (w.putObj D x).heap[b]? = w.heap[b]? := fun hb => World.putObj_heap_other hb
  refine ⟨H.os, H.tape, H.output, by simpa using H.size, ?_, ?_, (List.nodup_cons.1 H.nodup).2, ?_, H.inj, H.own, ?_⟩
  · intro b hb
    obtain ⟨h1, h2⟩ := H.kept b hb
    refine ⟨h1, (hne ?_).trans h2⟩
    intro e; exact (H.hids D List.mem_cons_self).1 (e ▸ hb)
  · intro D' hD'
    obtain ⟨h1, h2⟩ := H.hids D' (List.mem_cons_of_mem _ hD')
    refine ⟨h1, (hne ?_).trans h2⟩
    intro e; exact (List.nodup_cons.1 H.nodup).1 (e ▸ hD')
  · intro i o hi
    by_cases ha : o.alive = true
    · rw [hne (fun e => H.nohid i o hi ha (e ▸ List.mem_cons_self))]; exact H.blk i o hi
    · cases o <;> simp [SO.alive] at ha
      trivial
  · intro i o hi ha hh
    exact H.nohid i o hi ha (List.mem_cons_of_mem _ hh)

theorem leaves_marks {F : Fence} {k : Nat} {fn : Func} {tmps : Array Value} {R : Ending → World → Prop} : ∀ (hc : List Nat) {w : World}, HR w0 kp (hc ++ hid) ro n m h w →
    (∀ w', HR w0 kp hid ro n m h w' → ∃ v, (results fn tmps).run P w' = .ok v w' ∧ R (.returned v) w') → LeavesInM F k P fn tmps R (marks hc) .returning w
  | [], w, H, hr => hr w H
  | D :: hc, w, H, hr => by
    refine ⟨by simp, .inl ⟨D, _, rfl, run_takeDeferred (H.hids D (by simp)).2, ?_⟩⟩
    exact leaves_marks hc (H.unhide (.deferred none)) hr

theorem mapM_results (H : HR w0 kp hid ro n m h w) {st : St} {ar : Array Value} (hT : TR n h.length m st.tmps ar) : ∀ (rs : List ResultVar) {vs : List SV}, resultsS P rs st h = some vs →
    SV.OkL h.length m vs ∧ (rs.mapM (fun (x : ResultVar) => match x with
      | .tmp t => (pure (ar.getD t undef) : Sem Value)
      | .cell a t => do loadVar t (← asAddr (ar.getD a undef)))).run P w = .ok (SV.reL n vs) w
  | [], vs, hr => by simp only [resultsS, Option.some.injEq] at hr; subst hr; exact ⟨trivial, rfl⟩
  | .tmp t :: rs, vs, hr => by
    simp only [resultsS] at hr
    split at hr
    · rename_i v l hv hl; cases hr
      obtain ⟨h1, h2⟩ := mapM_results H hT rs hl
      simp only [St.eval, atR_eq] at hv
      split at hv
      · rename_i u hu; cases hv
        obtain ⟨h3, h4⟩ := hT.2 t _ hu
        refine ⟨⟨h3, h1⟩, ?_⟩
        simp only [List.mapM_cons, Sem.run_bind, Sem.run_pure, Result.andThen_ok, h2, SV.reL]
        rw [Array.getD_eq_getD_getElem?, h4]; rfl
      · cases hv
    · cases hr
  | .cell a t :: rs, vs, hr => by
    simp only [resultsS] at hr
    split at hr
    · rename_i b off l hv hl
      simp only [Option.map_eq_some_iff] at hr
      obtain ⟨v, hload, rfl⟩ := hr
      obtain ⟨h1, h2⟩ := mapM_results H hT rs hl
      simp only [Option.bind_eq_some_iff] at hv
      obtain ⟨u, hu, hp⟩ := hv
      simp only [St.eval, atR_eq] at hu
      split at hu
      · rename_i u' hu'; cases hu
        obtain ⟨h3, h4⟩ := hT.2 a _ hu'
        cases u <;> simp only [ptr?, Option.some.injEq, Prod.mk.injEq, reduceCtorEq] at hp
        rename_i pb po
        obtain ⟨rfl, rfl⟩ := hp
        obtain ⟨h5, h6⟩ := run_load_sv (P := P) H hload
        refine ⟨⟨h5, h1⟩, ?_⟩
        have h7 : (asAddr (ar.getD a undef)).run P w = .ok ⟨n.ε pb, po, none⟩ w := by rw [Array.getD_eq_getD_getElem?, h4]; rfl
        simp only [List.mapM_cons, Sem.run_bind, Sem.run_pure, Result.andThen_ok, SV.reL, h7, h6, h2]
      · cases hu
    · cases hr

theorem run_results (H : HR w0 kp hid ro n m h w) {st : St} {ar : Array Value} (hT : TR n h.length m st.tmps ar) {fn : Func} {vs : List SV} (hr : resultsS P fn.results.toList st h = some vs) :
    SV.OkL h.length m vs ∧ (results fn ar).run P w = .ok ((tupled vs).re n) w := by
  obtain ⟨h1, h2⟩ := mapM_results H hT _ hr
  refine ⟨h1, ?_⟩
  unfold results
  rw [Array.mapM_eq_mapM_toList]
  simp only [Sem.run_bind, Sem.run_map]
  refine (congrArg (fun r => Result.andThen (Result.andThen r _) _) h2).trans ?_
  simp only [Result.andThen_ok, Sem.run_pure]
  congr 1
  match vs with
  | [] => simp [tupled, SV.reL, SV.re]
  | [v] => simp [tupled, SV.reL]
  | u :: v :: l => simp [tupled, SV.reL, SV.re]
end

theorem TR.start {n : En} {N m : Nat} {args : List SV} (hok : SV.OkL N m args) (k : Nat) : TR n N m ((args ++ List.replicate (k - args.length) undefS).map some) ((SV.reL n args).toArray ++ Array.replicate (k - (SV.reL n args).toArray.size) undef) := by
  have hlen : (SV.reL n args).length = args.length := by simp [SV.reL_eq]
  refine ⟨by simp [hlen], fun i v hi => ?_⟩
  simp only [List.map_append, List.getElem?_append, List.length_map, Array.getElem?_append, List.size_toArray, hlen] at *
  split at hi
  · rename_i hlt
    rw [if_pos hlt]
    simp only [List.getElem?_map, Option.map_eq_some_iff, Option.some.injEq] at hi
    obtain ⟨u, hu, rfl⟩ := hi
    refine ⟨okL_get hok hu, ?_⟩
    simp [SV.reL_eq, hu]
  · rename_i hlt
    rw [if_neg hlt]
    simp only [List.map_replicate, List.getElem?_replicate] at hi
    split at hi
    · rename_i h2
      cases hi
      refine ⟨trivial, ?_⟩
      simp only [Array.getElem?_replicate]
      rw [if_pos h2]; rfl
    · cases hi

theorem ok_call {C : Ctx} {O : Owe} {f : Nat} (ih : ExecOk C O f) : CallOk C O (f + 1) := by
  intro ro g args h nv Q w0 kp hid n w hC H hro hok hE
  simp only [call] at hE
  split at hE
  · rename_i c hc
    rw [T.Ev_bind] at hE
    obtain ⟨v, h1, h2, h3⟩ := byCon_ok (Φ := n.Φ) hC H hc hok hE
    refine h3.mono ?_
    rintro e w' ⟨rfl, hH⟩
    exact ⟨n, v, h, nv, h1, rfl, h2, hH, Gr.refl _ _ _⟩
  · split at hE
    · exact hE.elim
    rename_i fn hfn
    rw [atR_eq, Array.getElem?_toList] at hfn
    split at hE
    · exact hE.elim
    rename_i b hb
    rw [T.Ev_bind] at hE
    refine callsIn_wide.1 (callsIn_of_wp_marks (F := fenAt none) (n := 0) hfn hb trivial ?_ rfl)
    have hRel : Rel w0 kp hid ro none n { tmps := (args ++ List.replicate (fn.ntmps - args.length) undefS).map some, heap := h, nv } { tmps := (SV.reL n args).toArray ++ Array.replicate (fn.ntmps - (SV.reL n args).toArray.size) undef, defers := [] } w :=
      ⟨⟨[], rfl, fun _ => rfl, H⟩, TR.start hok _, hro⟩
    refine wpIn_mono (ih ro g none b _ _ w0 kp hid n _ w none 0 hC (fun _ => rfl) hRel hE) ?_
    rintro e a' w' ⟨n', x, st', hq, hx, hR, hg⟩
    obtain ⟨hc, hd, _, hH⟩ := hR.hr
    have fin : (match resultsS C.P fn.results.toList st' st'.heap with
        | some vs => T.leaf (tupled vs, st'.heap, st'.nv)
        | none => .fail "results").Ev n.Φ O n'.ρ Q → LeavesInM (fenAt none) 0 C.P fn a'.tmps (fun e w' => ∃ n' v h' nv', Q n'.ρ (v, h', nv') ∧ e = .returned (v.re n') ∧ v.Ok h'.length nv' ∧ HR w0 kp hid ro n' nv' h' w' ∧ Gr n n' h h' nv nv') a'.defers .returning w' := by
      intro hq
      split at hq
      rotate_left
      · exact hq.elim
      rename_i vs hvs
      rw [hd]
      refine leaves_marks hc hH fun w2 hH2 => ?_
      obtain ⟨h1, h2⟩ := run_results hH2 hR.tr hvs
      exact ⟨_, h2, n', tupled vs, st'.heap, st'.nv, hq, rfl, tupled_ok h1, hH2, hg⟩
    cases x with
    | norm => simp only [xIs] at hx; subst hx; exact fin hq
    | ret => simp only [xIs] at hx; subst hx; exact fin hq
    | exit i => exact hq.elim
    | goto i => exact hq.elim

end Go.Sx

/- The symbolic run is sound: a range over a function. -/
namespace Go.Sx
open Go.RowKit

section
variable {P : Program} {w0 w : World} {kp : Nat → Prop} {hid : List Nat} {ro : Nat} {n : En} {m : Nat} {h : List SO}

/-- A block for deferred calls, new. -/
theorem HR.hide (H : HR w0 kp hid ro n m h w) : HR w0 kp (w.heap.size :: hid) ro n m h (w.alloc (.deferred (some []))) := by
  have hsz : ∀ b, b < w.heap.size → (w.alloc (.deferred (some []))).heap[b]? = w.heap[b]? := fun b hb => Below.heap_alloc w _ b hb
  have hlt : ∀ {D : Nat}, D ∈ hid → D < w.heap.size := fun hD => (Array.getElem?_eq_some_iff.1 (H.hids _ hD).2).1
  refine ⟨H.os, H.tape, H.output, ?_, ?_, ?_, ?_, ?_, H.inj, H.own, ?_⟩
  · have := H.size; simp; omega
  · intro b hb
    obtain ⟨h1, h2⟩ := H.kept b hb
    exact ⟨h1, (hsz b (by have := H.size; omega)).trans h2⟩
  · intro D hD
    rcases List.mem_cons.1 hD with rfl | hD
    · exact ⟨fun hk => by have := (H.kept _ hk).1; have := H.size; omega, World.alloc_heap_new w _⟩
    · exact ⟨(H.hids D hD).1, (hsz D (hlt hD)).trans (H.hids D hD).2⟩
  · exact List.nodup_cons.2 ⟨fun hD => Nat.lt_irrefl _ (hlt hD), H.nodup⟩
  · intro i o hi
    by_cases ha : o.alive = true
    · rw [hsz _ (H.lt hi ha)]; exact H.blk i o hi
    · cases o <;> simp [SO.alive] at ha
      trivial
  · intro i o hi ha hh
    rcases List.mem_cons.1 hh with e | hh
    · have := H.lt hi ha; omega
    · exact H.nohid i o hi ha hh
end

theorem ok_rangeFunc {C : Ctx} {O : Owe} {f : Nat} (ic : CallOk C O f) {g : Operand} {ps : Array Tmp} {asg body : Code} {cur : Nat} {ro : Nat} {rd : Option Nat} {st : St} {Q : (Nat → Int) → X × St → Prop}
    {w0 : World} {kp : Nat → Prop} {hid : List Nat} {n : En} {a : Act} {w : World} {r : Option Nat} {k : Nat}
    (hC : CtxOk C n.Φ O) (hr : rd = none → r = none) (H : Rel w0 kp hid ro rd n st a w) (hE : (exec C (f + 1) ro cur rd (.rangeFunc g ps asg body) st).Ev n.Φ O n.ρ Q) :
    (Code.rangeFunc g ps asg body).wpIn (fenAt r) k C.P (Post C w0 kp hid ro rd n st Q) a w := by
  simp only [exec] at hE
  split at hE
  rotate_left
  · exact hE.elim
  rename_i g' first cap hg
  split at hE
  · exact hE.elim
  rename_i hrd
  have hrdn : rd = none := by cases rd <;> simp_all
  subst hrdn
  have hrn := hr rfl; subst hrn
  rw [T.Ev_bind] at hE
  obtain ⟨hgok, hge⟩ := eval_ok H.tr hg
  obtain ⟨fn0, b0, hf0, hb0⟩ := call_there hC hE
  obtain ⟨hc, hd, _, hH⟩ := H.hr
  refine wpIn_rangeFunc fun fn hfn => ?_
  have hent := run_enterLoop_outer (P := C.P) (w := w) fn a.tmps ps asg body
  -- the world with both blocks
  have hH1 := hH.hide
  have hH2 := hH1.alloc (.loop .ready none cur st.tmps ps.toList asg body) (.loop { state := .ready, pending := none, fn, tmps := a.tmps, params := ps, assign := asg, body, defers := w.heap.size }) 0
    ⟨_, rfl, rfl, rfl, rfl, rfl, rfl, H.tr.mono (Nat.le_succ _) (Nat.le_refl _) (En.bind_agree _ _ _ _ _)⟩
  have hsize : (w.alloc (.deferred (some []))).heap.size = w.heap.size + 1 := by simp
  generalize hn' : n.bind st.heap.length (w.alloc (.deferred (some []))).heap.size 0 = n' at hH2
  have hε : n'.ε st.heap.length = w.heap.size + 1 := by rw [← hn', En.bind_ε_same, hsize]
  have hag : En.Agree st.heap.length st.nv n n' := hn' ▸ En.bind_agree _ _ _ _ _
  have hρ : n'.ρ = n.ρ := by rw [← hn']; rfl
  have hΦ : n'.Φ = n.Φ := by rw [← hn']; rfl
  have hok : SV.OkL (st.heap ++ [SO.loop .ready none cur st.tmps ps.toList asg body]).length st.nv (first ++ [.yield st.heap.length] ++ cap) := by
    refine okL_append.2 ⟨okL_append.2 ⟨SV.OkL_mono (by simp) (Nat.le_refl _) _ hgok.1, ⟨by simp [SV.Ok], trivial⟩⟩, SV.OkL_mono (by simp) (Nat.le_refl _) _ hgok.2⟩
  have hvals : (SV.reL n' (first ++ [.yield st.heap.length] ++ cap)).toArray = (SV.reL n first).toArray ++ #[Value.func (.yield (w.heap.size + 1)) #[] #[]] ++ (SV.reL n cap).toArray := by
    rw [reL_append, reL_append, ← SV.reL_agree hag first hgok.1, ← SV.reL_agree hag cap hgok.2]
    simp [SV.reL, SV.re, hε]
  have hcalls := ic ro g' (first ++ [.yield st.heap.length] ++ cap) _ st.nv _ w0 kp (w.heap.size :: (hc ++ hid)) n' _ (hΦ.symm ▸ hC) hH2 (by simp; have := H.low; omega) hok (by rw [hΦ, hρ]; exact hE)
  refine ⟨w.heap.size + 1, [{ target := .collected w.heap.size, args := #[] }], ((w.alloc (.deferred (some []))).alloc (.loop { state := .ready, pending := none, fn, tmps := a.tmps, params := ps, assign := asg, body, defers := w.heap.size })), { target := .fn (.func g') (SV.reL n cap).toArray, args := (SV.reL n first).toArray ++ #[Value.func (.yield (w.heap.size + 1)) #[] #[]] }, ((w.alloc (.deferred (some []))).alloc (.loop { state := .ready, pending := none, fn, tmps := a.tmps, params := ps, assign := asg, body, defers := w.heap.size })), g', (SV.reL n' (first ++ [.yield st.heap.length] ++ cap)).toArray, ((w.alloc (.deferred (some []))).alloc (.loop { state := .ready, pending := none, fn, tmps := a.tmps, params := ps, assign := asg, body, defers := w.heap.size })), hent, ?_, ?_, ?_, ?_, ?_⟩
  · simp only [resolve, rangeCall, hge, SV.re, Deferred.ofValue, Sem.run_pure]
    simp [Act.eval]
  · exact fun _ _ => trivial
  · simp only [invoke]
    rw [run_callFunc hf0 hb0 (hC.noGo g' fn0 hf0), hvals]
  · intro h; simp [fenAt, Fence.wide] at h
  refine CallsIn.mono (callsIn_wide.2 hcalls) ?_
  rintro e w3 ⟨n3, v3, h3, nv3, hq, rfl, _, hH3, hg3⟩
  simp only at hq
  split at hq
  rotate_left
  · exact hq.elim
  rename_i s pend fn' tms' ps' a' b' hl
  split at hq
  · exact hq.elim
  rename_i hs
  have hlen : st.heap.length < (st.heap ++ [SO.loop .ready none cur st.tmps ps.toList asg body]).length := by simp
  have hε3 : n3.ε st.heap.length = w.heap.size + 1 := by rw [← hg3.ag.ε _ hlen, hε]
  obtain ⟨lp, hlp, hst, hpend, hps, hasg, hbody, htms, hput⟩ := hH3.record hl H.low
  rw [hε3] at hlp hput
  have hput' := hput .exhausted lp.pending
  rw [hpend] at hput'
  have hgr : Gr n n3 st.heap (h3.set st.heap.length (.loop .exhausted pend fn' tms' ps' a' b')) st.nv nv3 := by
    refine ⟨hag.trans (hg3.ag.mono (by simp) (Nat.le_refl _)), ?_, hg3.nv⟩
    have := hg3.len; simp at this ⊢; omega
  have hRel : Rel w0 kp hid ro none n3 { tmps := st.tmps, heap := h3.set st.heap.length (.loop .exhausted pend fn' tms' ps' a' b'), nv := nv3 }
      { a with defers := [{ target := .collected w.heap.size, args := #[] }] ++ a.defers } (w3.putObj (w.heap.size + 1) (.loop { lp with state := .exhausted, pending := pend })) :=
    ⟨⟨w.heap.size :: hc, by rw [hd]; rfl, fun h => absurd rfl h, hput'⟩, H.tr.mono hgr.len hgr.nv hgr.ag, Nat.le_trans H.low hgr.len⟩
  have hend := run_endLoop (P := C.P) hlp (by rw [hst]; exact hs)
  rw [hpend] at hend
  refine ⟨_, _, hend, ?_⟩
  split at hq
  · exact ⟨n3, .norm, _, hq, rfl, hRel, hgr⟩
  · exact wpIn_ret ⟨n3, .ret, _, hq, rfl, hRel, hgr⟩
  · rename_i i
    exact wpIn_exit ⟨n3, .exit i, _, hq, rfl, hRel, hgr⟩
  · rename_i i
    exact wpIn_goto ⟨n3, .goto i, _, hq, rfl, hRel, hgr⟩
  · exact hq.elim

end Go.Sx

/- The symbolic run is sound: a loop that is summed up. -/
namespace Go.Sx
open Go.RowKit

/-- What is told at a loop's head is well-formed. -/
def St.OkAt (N m : Nat) (st : St) : Prop := (∀ (i : Nat) (o : SO), st.heap[i]? = some o → o.Ok N m) ∧ ∀ (i : Nat) (v : SV), st.tmps[i]? = some (some v) → v.Ok N m

section
variable {w0 w : World} {kp : Nat → Prop} {hid : List Nat} {ro : Nat} {n : En} {st : St} {a : Act} {rd : Option Nat}

theorem Rel.okAt (H : Rel w0 kp hid ro rd n st a w) : st.OkAt st.heap.length st.nv := by
  obtain ⟨hc, _, _, hH⟩ := H.hr
  exact ⟨fun i o hi => (hH.blk i o hi).ok, fun i v hi => (H.tr.2 i v hi).1⟩

/-- A frame at a loop's head. -/
theorem Rel.head (H : Rel w0 kp hid ro rd n st a w) {base : Nat} {vs : List (K × E)} {G : St} (hN : G.heap.length ≤ st.heap.length) (ht : sameTmps base vs G.tmps st.tmps = true) (hh : sameHeap base vs G.heap (st.heap.take G.heap.length) = true)
    (hok : G.OkAt G.heap.length (base + vs.length)) (hnv : G.nv = base + vs.length) (hlow : ro ≤ G.heap.length) {n' : En} (hag : En.Agree G.heap.length (base + vs.length) (n.head base vs) n') : Rel w0 kp hid ro rd n' G a w := by
  obtain ⟨hc, hd, hrd, hH⟩ := H.hr
  obtain ⟨_, hget⟩ := sameHeap_get hh
  obtain ⟨htl, htget⟩ := sameTmps_get ht
  have hswap : HR w0 kp (hc ++ hid) ro (n.head base vs) (base + vs.length) G.heap w := by
    refine hH.swap (fun _ _ _ _ => rfl) fun i o hi ha => ?_
    obtain ⟨o', ho', hs⟩ := hget i o hi
    have ho2 : st.heap[i]? = some o' := by
      rw [List.getElem?_take] at ho'
      split at ho'
      · exact ho'
      · cases ho'
    obtain ⟨h1, h2⟩ := sameSO_or (n := n) hs ha (hH.blk i o' ho2)
    refine ⟨o', ho2, h1, fun x hx => ?_⟩
    exact (sameSO_or (n := n) hs ha hx).2.ok' (hok.1 i o hi)
  refine ⟨⟨hc, hd, hrd, by rw [hnv]; exact hswap.agree (Nat.le_refl _) hag⟩, ?_, hlow⟩
  rw [hnv]
  refine ⟨by rw [H.tr.1]; exact htl.symm, fun i v hi => ?_⟩
  obtain ⟨v', hv', hs⟩ := htget i v hi
  obtain ⟨h1, h2⟩ := H.tr.2 i v' hv'
  refine ⟨hok.2 i v hi, ?_⟩
  rw [h2, ← sameSV_re (n := n) _ _ hs, SV.re_agree hag v (hok.2 i v hi)]
end

theorem setPlaces_heap : ∀ (base : Nat) (ps : List (K × Place)) (i : Nat) (st st' : St), setPlaces base ps i st = some st' → st'.heap.length = st.heap.length
  | base, [], i, st, st', h => by simp only [setPlaces, Option.some.injEq] at h; subst h; rfl
  | base, (k, .tmp t) :: r, i, st, st', h => by
    simp only [setPlaces] at h
    have := setPlaces_heap base r (i + 1) _ st' h
    simpa using this
  | base, (k, .cell b o) :: r, i, st, st', h => by
    simp only [setPlaces] at h
    split at h
    · split at h
      · split at h
        · have := setPlaces_heap base r (i + 1) _ st' h
          simpa using this
        · cases h
      · cases h
    · cases h

theorem foldl_dead_length : ∀ (l : List Nat) (h : List SO), (l.foldl (fun l b => l.set b SO.dead) h).length = h.length
  | [], h => rfl
  | b :: l, h => by rw [List.foldl_cons, foldl_dead_length l]; simp

theorem absSt_facts {a : LoopAnn} {st H : St} (h : absSt a st = some H) : H.heap.length = st.heap.length ∧ H.nv = a.base + a.places.length := by
  unfold absSt at h
  simp only [Option.map_eq_some_iff] at h
  obtain ⟨st', h1, rfl⟩ := h
  exact ⟨by simp only [foldl_dead_length]; exact setPlaces_heap _ _ _ _ _ h1, rfl⟩

theorem mapM_length {α β : Type} {f : α → Option β} : ∀ {l : List α} {r : List β}, l.mapM f = some r → r.length = l.length
  | [], r, h => by simp at h; subst h; rfl
  | x :: l, r, h => by
    simp only [List.mapM_cons, Option.bind_eq_bind, Option.bind_eq_some_iff] at h
    obtain ⟨y, _, ys, hys, hr⟩ := h
    simp only [Option.pure_def, Option.some.injEq] at hr
    subst hr
    simp [mapM_length hys]

theorem cur_upd {ρ ρ' : Nat → Int} {base : Nat} {v : List Int} (h : ∀ i, i < base + v.length → upd ρ base v i = ρ' i) : cur ρ' base v.length = v := by
  refine List.ext_getElem? fun i => ?_
  show ((List.range v.length).map fun i => ρ' (base + i))[i]? = v[i]?
  rw [List.getElem?_map]
  by_cases hi : i < v.length
  · rw [List.getElem?_range hi, Option.map_some, ← h (base + i) (by omega), upd_ge ρ (by omega) (x := v[i]) (by rw [Nat.add_sub_cancel_left]; exact List.getElem?_eq_getElem hi)]
    exact (List.getElem?_eq_getElem hi).symm
  · rw [List.getElem?_eq_none (by simp; omega), List.getElem?_eq_none (by omega)]
    rfl

theorem ok_sumLoop {C : Ctx} {O : Owe} {f : Nat} (ih : ExecOk C O f) {id : Nat} {b : Code} {cur : Nat} {ro : Nat} {rd : Option Nat} {st : St} {Q : (Nat → Int) → X × St → Prop}
    {w0 : World} {kp : Nat → Prop} {hid : List Nat} {n : En} {a : Act} {w : World} {r : Option Nat} {k : Nat} {an : LoopAnn} {init : List (K × E)} {G : St}
    (hC : CtxOk C n.Φ O) (hr : rd = none → r = none) (H : Rel w0 kp hid ro rd n st a w) (hinit : an.places.mapM (fun p => readPlace st p) = some init) (habs : absSt an st = some G) (hnv : st.nv ≤ an.base) (hsame : sameSt an.base init G st = true)
    (hE : (T.loop an.base init an.base ((exec C f ro cur rd b G).bind fun (x, st') => match x with
              | .norm => match an.places.mapM (fun p => readPlace st' p) with
                | some es => if sameSt an.base es G { st' with heap := st'.heap.take G.heap.length } then .again an.base es else .fail "again"
                | none => .fail "again: places"
              | .exit i => if i = id then .leaf (.norm, st') else .leaf (.exit i, st')
              | x => .leaf (x, st'))).Ev n.Φ O n.ρ Q) :
    (Code.block id (.loop b)).wpIn (fenAt r) k C.P (Post C w0 kp hid ro rd n st Q) a w := by
  obtain ⟨hGl, hGnv⟩ := absSt_facts habs
  have hlen := mapM_length hinit
  obtain ⟨hinv, hstep⟩ := hE
  simp only [sameSt, Bool.and_eq_true] at hsame
  have hGnv' : G.nv = an.base + init.length := by rw [hGnv, hlen]
  -- what is told at the head is well-formed
  have hokG : G.OkAt G.heap.length (an.base + init.length) := by
    obtain ⟨hc, _, _, hH⟩ := H.hr
    obtain ⟨_, hget⟩ := sameHeap_get hsame.2
    obtain ⟨_, htget⟩ := sameTmps_get hsame.1
    rw [hGl]
    refine ⟨fun i o hi => ?_, fun i v hi => ?_⟩
    · by_cases ha : o.alive = true
      · obtain ⟨o', ho', hs⟩ := hget i o hi
        exact (sameSO_or (n := n) hs ha (hH.blk i o' ho')).2.ok
      · cases o <;> simp [SO.alive] at ha
        trivial
    · obtain ⟨v', hv', hs⟩ := htget i v hi
      exact sameSV_ok _ _ hs (H.tr.2 i v' hv').1
  have hv0 : (E.denL n.Φ n.ρ init).length = init.length := denL_length _ _ _
  have hag0 : En.Agree st.heap.length st.nv n (n.head an.base init) := ⟨rfl, fun i hi => (upd_lt _ _ (by omega)).symm, fun _ _ => rfl, fun _ _ => rfl⟩
  have hR0 : Rel w0 kp hid ro rd (n.head an.base init) G a w := by
    refine H.head (Nat.le_of_eq hGl) hsame.1 ?_ hokG hGnv' (by rw [hGl]; exact H.low) (En.Agree.refl _ _ _)
    rw [hGl, List.take_length]; exact hsame.2
  -- round by round
  have key : ∀ (M : Nat) (v : List Int) (n1 : En) (a1 : Act) (w1 : World), v.length = init.length → O.inv an.base v → O.mu an.base v < M → n1.ρ = upd n.ρ an.base v → Rel w0 kp hid ro rd n1 G a1 w1 → Gr n n1 st.heap G.heap st.nv G.nv →
      Code.roundsIn (fenAt r) k C.P b (Exit.inBlock id (Post C w0 kp hid ro rd n st Q)) M a1 w1 := by
    intro M
    induction M with
    | zero => intro v n1 a1 w1 _ _ hm; omega
    | succ M IH =>
      intro v n1 a1 w1 hvl hv hm hρ1 hR1 hg1
      have hΦ : n1.Φ = n.Φ := hg1.ag.Φ.symm
      have hE1 := hstep v hvl hv
      rw [T.Ev_bind, ← hΦ, ← hρ1] at hE1
      refine wpIn_mono (ih ro cur rd b G _ w0 kp hid n1 a1 w1 r k (hΦ ▸ hC) hr hR1 hE1) ?_
      rintro e a2 w2 ⟨n2, x, st2, hq, hx, hR2, hg2⟩
      have hgr : Gr n n2 st.heap st2.heap st.nv st2.nv := hg1.trans hg2
      have hΦ2 : n2.Φ = n1.Φ := hg2.ag.Φ.symm
      cases x with
      | norm =>
        simp only [xIs] at hx; subst hx
        simp only at hq
        split at hq
        rotate_left
        · exact hq.elim
        rename_i es hes
        split at hq
        rotate_left
        · exact hq.elim
        rename_i hs2
        obtain ⟨hinv2, hmu2⟩ := hq
        simp only [sameSt, Bool.and_eq_true] at hs2
        have hesl : es.length = init.length := by rw [mapM_length hes, hlen]
        have hρ2 : ∀ i, i < an.base + v.length → upd n.ρ an.base v i = n2.ρ i := by
          intro i hi
          rw [← hρ1]
          exact hg2.ag.ρ i (by rw [hGnv', ← hvl]; exact hi)
        have hcur : Sx.cur n2.ρ an.base es.length = v := by
          rw [hesl, ← hvl]; exact cur_upd hρ2
        rw [hcur, ← hΦ2] at hmu2
        rw [← hΦ2] at hinv2
        let n3 : En := { n2 with ρ := upd n.ρ an.base (E.denL n2.Φ n2.ρ es) }
        have hel : (E.denL n2.Φ n2.ρ es).length = es.length := denL_length _ _ _
        have hag3 : En.Agree G.heap.length (an.base + es.length) (n2.head an.base es) n3 := by
          refine ⟨rfl, fun i hi => ?_, fun _ _ => rfl, fun _ _ => rfl⟩
          show upd n2.ρ an.base (E.denL n2.Φ n2.ρ es) i = upd n.ρ an.base (E.denL n2.Φ n2.ρ es) i
          by_cases hb : an.base ≤ i
          · have hlt : i - an.base < (E.denL n2.Φ n2.ρ es).length := by omega
            rw [upd_ge _ hb (List.getElem?_eq_getElem hlt), upd_ge _ hb (List.getElem?_eq_getElem hlt)]
          · rw [upd_lt _ _ (by omega), upd_lt _ _ (by omega), ← hρ2 i (by omega), upd_lt _ _ (by omega)]
        have hR3 : Rel w0 kp hid ro rd n3 G a2 w2 :=
          hR2.head hg2.len hs2.1 hs2.2 (by rw [hesl]; exact hokG) (by rw [hesl]; exact hGnv') (by rw [hGl]; exact H.low) hag3
        refine IH (E.denL n2.Φ n2.ρ es) n3 a2 w2 (by rw [hel, hesl]) hinv2 (by omega) rfl hR3 ⟨?_, by omega, by omega⟩
        refine ⟨hgr.ag.Φ, fun i hi => ?_, hgr.ag.ε, hgr.ag.κ⟩
        show n.ρ i = upd n.ρ an.base _ i
        rw [upd_lt _ _ (by omega)]
      | exit i =>
        simp only [xIs] at hx; subst hx
        simp only at hq
        by_cases hi : i = id
        · rw [if_pos hi] at hq
          show Exit.inBlock id _ (.exit i) a2 w2
          simp only [Exit.inBlock]
          rw [if_pos hi]
          exact ⟨n2, .norm, st2, hq, rfl, hR2, hgr⟩
        · rw [if_neg hi] at hq
          show Exit.inBlock id _ (.exit i) a2 w2
          simp only [Exit.inBlock]
          rw [if_neg hi]
          exact ⟨n2, .exit i, st2, hq, rfl, hR2, hgr⟩
      | goto i => simp only [xIs] at hx; subst hx; exact ⟨n2, .goto i, st2, hq, rfl, hR2, hgr⟩
      | ret => simp only [xIs] at hx; subst hx; exact ⟨n2, .ret, st2, hq, rfl, hR2, hgr⟩
  refine wpIn_block (wpIn_loop_rounds (O.mu an.base (E.denL n.Φ n.ρ init) + 1) ?_)
  exact key _ _ (n.head an.base init) a w hv0 hinv (Nat.lt_succ_self _) rfl hR0 ⟨hag0, Nat.le_of_eq hGl.symm, by omega⟩

end Go.Sx
