/-
  Frames, runs and regions: how a function of the program is stepped through.
-/
import Derived.WalkKit
import Derived.WalkSpells
set_option linter.unusedVariables false
namespace Go.SK
open Go.RowKit

/-! frames -/
structure Base where
  fn : FuncId
  n : Nat
  defers : List Deferred
  kind : CallKind
  ro : Option Nat

def tm (n : Nat) (f : Nat → Value) : Array Value := Array.ofFn (n := n) fun i => f i.1

def Base.fr (b : Base) (k : List Item) (f : Nat → Value) : Frame :=
  { fn := b.fn, tmps := tm b.n f, todo := k, defers := b.defers, mode := .run, kind := b.kind, roundOf := b.ro }

def ev (n : Nat) (f : Nat → Value) : Operand → Value
  | .tmp t => bif Nat.blt t n then f t else undef
  | .const v => v
  | .global g => .pointer (some ⟨g, 0, none⟩)
  | .func g => .func (.func g) #[] #[]

def upd (f : Nat → Value) (d : Nat) (v : Value) : Nat → Value := fun t => bif Nat.beq t d then v else f t
def putF (f : Nat → Value) : Option Tmp → Value → (Nat → Value)
  | some d, v => upd f d v
  | none, _ => f

theorem upd_same (f : Nat → Value) (d : Nat) (v : Value) : upd f d v d = v := by simp [upd]
theorem upd_ne (f : Nat → Value) {d t : Nat} (v : Value) (h : t ≠ d) : upd f d v t = f t := by
  have : Nat.beq t d = false := by
    cases hb : Nat.beq t d with
    | false => rfl
    | true => exact absurd (Nat.eq_of_beq_eq_true hb) h
  simp [upd, this]

theorem tm_size (n : Nat) (f : Nat → Value) : (tm n f).size = n := by simp [tm]
theorem tm_getD (n : Nat) (f : Nat → Value) (t : Nat) : (tm n f).getD t undef = ev n f (.tmp t) := by
  by_cases h : t < n
  · have : Nat.blt t n = true := by simpa using h
    simp [tm, ev, this, h]
  · have : Nat.blt t n = false := by
      cases hb : Nat.blt t n with
      | false => rfl
      | true => exact absurd (by simpa using hb) h
    simp [tm, ev, this, h]
theorem tm_get? (n : Nat) (f : Nat → Value) (t : Nat) : (tm n f)[t]? = if t < n then some (f t) else none := by
  by_cases h : t < n <;> simp [tm, h]
theorem tm_upd (n : Nat) (f : Nat → Value) (d : Nat) (v : Value) : tm n (upd f d v) = (tm n f).setIfInBounds d v := by
  apply Array.ext
  · simp [tm]
  · intro i h1 h2
    simp only [tm, Array.size_ofFn] at h1
    by_cases h : d = i
    · subst h; simp [tm, upd_same]
    · rw [Array.getElem_setIfInBounds_ne _ h]
      · simp [tm, upd_ne _ v (Ne.symm h)]
      · simpa [tm] using h1

theorem fr_eval (b : Base) (k : List Item) (f : Nat → Value) : (b.fr k f).eval = ev b.n f := by
  funext x
  cases x with
  | tmp t => exact tm_getD b.n f t
  | _ => rfl

/-! a run of one frame -/
def Run (P : Program) (b : Base) (k : List Item) (f : Nat → Value) (w : World) (E : Frame → World → Prop) : Prop :=
  ∀ cs, ∃ fr w', Steps P (lone (b.fr k f) cs w) (lone fr cs w') ∧ E fr w'

section
variable {P : Program} {b : Base} {k : List Item} {f : Nat → Value} {w : World} {E : Frame → World → Prop}

theorem Run.step1 {k' : List Item} {f' : Nat → Value} {w' : World} (h : ∀ cs, step P (lone (b.fr k f) cs w) = .next (lone (b.fr k' f') cs w'))
    (hr : Run P b k' f' w' E) : Run P b k f w E := fun cs =>
  let ⟨fr, w2, hs, he⟩ := hr cs
  ⟨fr, w2, .head (h cs) hs, he⟩

theorem Run.mono {E' : Frame → World → Prop} (h : Run P b k f w E) (he : ∀ fr w, E fr w → E' fr w) : Run P b k f w E' := fun cs =>
  let ⟨fr, w2, hs, h⟩ := h cs
  ⟨fr, w2, hs, he _ _ h⟩

theorem run_skip (h : Run P b k f w E) : Run P b (.code .skip :: k) f w E :=
  Run.step1 (fun cs => step_lone_go (by simp [stepG, stepG.exec, Base.fr])) h
theorem run_label {l : Nat} (h : Run P b k f w E) : Run P b (.code (.label l) :: k) f w E :=
  Run.step1 (fun cs => step_lone_go (by simp [stepG, stepG.exec, Base.fr])) h
theorem run_inBlock {id : Nat} (h : Run P b k f w E) : Run P b (.inBlock id :: k) f w E :=
  Run.step1 (fun cs => step_lone_go (by simp [stepG, stepG.exec, Base.fr])) h
theorem run_inScope {c : Code} (h : Run P b k f w E) : Run P b (.inScope c :: k) f w E :=
  Run.step1 (fun cs => step_lone_go (by simp [stepG, stepG.exec, Base.fr])) h
theorem run_seq {x y : Code} (h : Run P b (.code x :: .code y :: k) f w E) : Run P b (.code (.seq x y) :: k) f w E :=
  Run.step1 (fun cs => step_lone_go (by simp [stepG, stepG.exec, Base.fr])) h
theorem run_block {id : Nat} {c : Code} (h : Run P b (.code c :: .inBlock id :: k) f w E) : Run P b (.code (.block id c) :: k) f w E :=
  Run.step1 (fun cs => step_lone_go (by simp [stepG, stepG.exec, Base.fr])) h
theorem run_scope {c : Code} (h : Run P b (.code c :: .inScope c :: k) f w E) : Run P b (.code (.scope c) :: k) f w E :=
  Run.step1 (fun cs => step_lone_go (by simp [stepG, stepG.exec, Base.fr])) h
theorem run_loop {c : Code} (h : Run P b (.code c :: .inLoop c :: k) f w E) : Run P b (.code (.loop c) :: k) f w E :=
  Run.step1 (fun cs => step_lone_go (by simp [stepG, stepG.exec, Base.fr])) h
theorem run_inLoop {c : Code} (h : Run P b (.code c :: .inLoop c :: k) f w E) : Run P b (.inLoop c :: k) f w E :=
  Run.step1 (fun cs => step_lone_go (by simp [stepG, stepG.exec, Base.fr])) h
theorem run_exit {id : Nat} {k' : List Item} (hx : exitTo id k = some k') (h : Run P b k' f w E) : Run P b (.code (.exit id) :: k) f w E :=
  Run.step1 (fun cs => step_lone_go (by simp [stepG, stepG.exec, Base.fr, hx])) h
theorem run_goto {l : Nat} {k' : List Item} (hx : gotoIn l k = some k') (h : Run P b k' f w E) : Run P b (.code (.goto l) :: k) f w E :=
  Run.step1 (fun cs => step_lone_go (by simp [stepG, stepG.exec, Base.fr, hx])) h
theorem run_cond {c : Operand} {x y : Code} {t : Bool} (hc : ev b.n f c = .bool t) (h : Run P b (.code (if t then x else y) :: k) f w E) : Run P b (.code (.cond c x y) :: k) f w E :=
  Run.step1 (fun cs => step_lone_go (by
    have := fr_eval b (.code (.cond c x y) :: k) f
    simp only [Base.fr] at this
    simp [stepG, stepG.exec, Base.fr, this, hc])) h
theorem run_cond_true {c : Operand} {x y : Code} (hc : ev b.n f c = .bool true) (h : Run P b (.code x :: k) f w E) : Run P b (.code (.cond c x y) :: k) f w E := run_cond hc h
theorem run_cond_false {c : Operand} {x y : Code} (hc : ev b.n f c = .bool false) (h : Run P b (.code y :: k) f w E) : Run P b (.code (.cond c x y) :: k) f w E := run_cond hc h
theorem run_cond_split {c : Operand} {x y : Code} {t : Bool} (hc : ev b.n f c = .bool t) (h1 : t = true → Run P b (.code x :: k) f w E) (h2 : t = false → Run P b (.code y :: k) f w E) :
    Run P b (.code (.cond c x y) :: k) f w E := by
  cases t with
  | true => exact run_cond hc (h1 rfl)
  | false => exact run_cond hc (h2 rfl)

/-! regions -/
def RunL (P : Program) (b : Base) (ops : Array Oper) (l : List Oper) (k : List Item) (f : Nat → Value) (w : World) (E : Frame → World → Prop) : Prop :=
  ∀ idxs : List Nat, idxs.map (ops[·]?) = l.map some → Run P b (.inRegion ops idxs :: k) f w E

theorem run_region {id : Nat} {l : List Oper} (h : RunL P b l.toArray l k f w E) : Run P b (.code (.region id l.toArray false) :: k) f w E := by
  have hh := h (List.range l.length) (by
    apply List.ext_getElem
    · simp
    · intro i h1 h2
      simp at h1
      simp [h1])
  exact Run.step1 (fun cs => step_lone_go (by simp [stepG, stepG.exec, Base.fr])) hh

theorem RunL.nil {ops : Array Oper} (h : Run P b k f w E) : RunL P b ops [] k f w E := by
  intro idxs hi
  have : idxs = [] := by simpa using hi
  subst this
  exact Run.step1 (fun cs => step_lone_go (by simp [stepG, stepG.exec, Base.fr])) h
end

def headOk : List Item → Bool
  | .inRegion _ _ :: _ | .inRangeFunc _ :: _ | .beginRound :: _ => true
  | _ => false

/-- What an operation's computation gives, whatever the frame: a value, and on. -/
def Inv (P : Program) (s : Sem Next) (w : World) (C : Value → World → Prop) : Prop :=
  ∀ (fr : Frame) (cs : List Frame), headOk fr.todo = true →
    (stepG P true { frame := fr, callers := cs, status := .running, dying := none } w).bare = (stepG.apply P true fr cs none s w).bare →
    ∃ v w', C v w' ∧ Steps P (lone fr cs w) (lone (fr.finish v) cs w')

def Ret (P : Program) (g : FuncId) (args : Array Value) (w : World) (C : Value → World → Prop) : Prop :=
  Calls P g args w fun e w' => ∃ v, e = .returned v ∧ C v w'

section
variable {P : Program} {s : Sem Next} {w : World} {C : Value → World → Prop}

theorem Ret.mono {g : FuncId} {args : Array Value} {C' : Value → World → Prop} (h : Ret P g args w C) (hc : ∀ v w, C v w → C' v w) : Ret P g args w C' :=
  Calls.mono h fun e w' ⟨v, he, h⟩ => ⟨v, he, hc v w' h⟩

theorem Inv.mono {C' : Value → World → Prop} (h : Inv P s w C) (hc : ∀ v w, C v w → C' v w) : Inv P s w C' :=
  fun fr cs h1 h3 => let ⟨v, w', c, st⟩ := h fr cs h1 h3; ⟨v, w', hc _ _ c, st⟩

theorem Inv.value {v : Value} {w' : World} (hr : s.run P w = .ok (.value v) w') (hc : C v w') : Inv P s w C := fun fr cs _ h =>
  ⟨v, w', hc, .one (step_lone_go (by rw [h]; simp only [stepG.apply, Sem.runT_eq, hr, GStep.bare_after, if_true]; rfl))⟩

theorem Inv.skip {w' : World} (hr : s.run P w = .ok .skip w') (hc : C undef w') : Inv P s w C := fun fr cs _ h =>
  ⟨undef, w', hc, .one (step_lone_go (by rw [h]; simp only [stepG.apply, Sem.runT_eq, hr, GStep.bare_after, if_true]; rfl))⟩

theorem Inv.enter {g : FuncId} {args : Array Value} {w' : World} (hr : s.run P w = .ok (.enter g args) w') (hc : Ret P g args w' C) : Inv P s w C := fun fr cs hn1 h => by
  obtain ⟨e, w2, fr2, ⟨v, rfl, hC⟩, hcomes, hfn, hleave⟩ := hc (fr :: cs)
  refine ⟨v, w2, hC, .head (m₁ := lone (Frame.enter P g args .normal) (fr :: cs) w') (step_lone_go ?_) (hcomes.trans (.one (step_leave_returned hleave)))⟩
  rw [h]
  simp only [stepG.apply, Sem.runT_eq, hr, GStep.bare_after, if_true]
  cases ht : fr.todo with
  | nil => rfl
  | cons x k => cases x <;> first | rfl | (rw [ht] at hn1; simp [headOk] at hn1)
end

def Op1 (P : Program) (op : Op) (ty : TypeId) (ρ : Operand → Value) (w : World) (C : Value → World → Prop) : Prop :=
  Inv P (execOp ρ ⟨none, op, ty, "", #[], none⟩) w C

theorem execOp_eq (ρ : Operand → Value) (o : Oper) : execOp ρ o = execOp ρ ⟨none, o.op, o.type, "", #[], none⟩ := by
  cases o with
  | mk d op ty pos aft g => cases op <;> rfl

def isDefer : Op → Bool
  | .defer _ => true
  | _ => false

section
variable {P : Program} {b : Base} {k : List Item} {f : Nat → Value} {w : World} {E : Frame → World → Prop} {ops : Array Oper} {l : List Oper}

theorem finish_fr (b : Base) (ops : Array Oper) (i : Nat) (rest : List Nat) (k : List Item) (f : Nat → Value) (v : Value) :
    (b.fr (.inRegion ops (i :: rest) :: k) f).finish v = b.fr (.inRegion ops rest :: k) (putF f ((ops[i]?).bind (·.dst)) v) := by
  cases h : (ops[i]?).bind (·.dst) with
  | none => simp [Frame.finish, Base.fr, h, putF]
  | some d => simp [Frame.finish, Base.fr, h, putF, tm_upd]

theorem op_step {i : Nat} {rest : List Nat} {o : Oper} (ho : ops[i]? = some o) (hw : Region.wanted o (yielded ops (tm b.n f)) = true) (hd : isDefer o.op = false) (cs : List Frame) :
    (stepG P true { frame := b.fr (.inRegion ops (i :: rest) :: k) f, callers := cs, status := .running, dying := none } w).bare =
      (stepG.apply P true (b.fr (.inRegion ops (i :: rest) :: k) f) cs none (execOp (ev b.n f) o) w).bare := by
  have he := fr_eval b (.inRegion ops (i :: rest) :: k) f
  simp only [Base.fr] at he
  cases o with
  | mk d op ty pos aft g =>
    cases op <;> first | (simp [isDefer] at hd; done) | (simp [stepG, stepG.exec, stepG.oper, Frame.oper?, Base.fr, ho, hw, he]; try (cases b.ro <;> rfl))

theorem op_skip {i : Nat} {rest : List Nat} (h : ((ops[i]?).map (Region.wanted · (yielded ops (tm b.n f)))).getD false = false) (cs : List Frame) :
    step P (lone (b.fr (.inRegion ops (i :: rest) :: k) f) cs w) = .next (lone (b.fr (.inRegion ops rest :: k) (putF f ((ops[i]?).bind (·.dst)) undef)) cs w) := by
  rw [← finish_fr]
  refine step_lone_go ?_
  have h' := h
  simp only [Base.fr] at *
  simp [stepG, stepG.exec, h']

theorem RunL.step {o : Oper} (hw : Region.wanted o (yielded ops (tm b.n f)) = true) (hd : isDefer o.op = false)
    (h : Op1 P o.op o.type (ev b.n f) w (fun v w' => RunL P b ops l k (putF f o.dst v) w' E)) : RunL P b ops (o :: l) k f w E := by
  intro idxs hi cs
  cases idxs with
  | nil => simp at hi
  | cons i rest =>
    simp only [List.map_cons, List.cons.injEq] at hi
    obtain ⟨ho, hrest⟩ := hi
    have hs := op_step (P := P) (k := k) (w := w) (rest := rest) ho hw hd cs
    rw [execOp_eq] at hs
    obtain ⟨v, w', hC, hsteps⟩ := h (b.fr (.inRegion ops (i :: rest) :: k) f) cs rfl hs
    rw [finish_fr, ho] at hsteps
    obtain ⟨fr, w2, hs2, he⟩ := hC rest hrest cs
    exact ⟨fr, w2, hsteps.trans hs2, he⟩

/-- An operation without a guard. -/
theorem RunL.cons {d : Option Tmp} {op : Op} {ty : TypeId} {pos : String} {aft : Array Edge} (h : Op1 P op ty (ev b.n f) w (fun v w' => RunL P b ops l k (putF f d v) w' E))
    (hd : isDefer op = false := by rfl) : RunL P b ops (⟨d, op, ty, pos, aft, none⟩ :: l) k f w E :=
  RunL.step (by rfl) hd h

theorem yielded_tm {j t : Nat} {c : Bool} (hj : (ops[j]?).bind (·.dst) = some t) (hv : ev b.n f (.tmp t) = .bool c) : yielded ops (tm b.n f) j = some c := by
  have ht : t < b.n := by
    rcases Nat.lt_or_ge t b.n with h | h
    · exact h
    · have : Nat.blt t b.n = false := by
        cases hb : Nat.blt t b.n with
        | false => rfl
        | true => exact absurd (by simpa using hb) (by omega)
      simp [ev, this, undef] at hv
  have hb : Nat.blt t b.n = true := by simpa using ht
  simp only [ev, hb, cond_true] at hv
  simp [yielded, hj, tm_get?, ht, hv]

/-- A guarded operation whose guard is decided. -/
theorem RunL.take {d : Option Tmp} {op : Op} {ty : TypeId} {pos : String} {aft : Array Edge} {j t : Nat} {c : Bool} (hj : (ops[j]?).bind (·.dst) = some t) (hv : ev b.n f (.tmp t) = .bool c)
    (h : Op1 P op ty (ev b.n f) w (fun v w' => RunL P b ops l k (putF f d v) w' E))
    (hd : isDefer op = false := by rfl) : RunL P b ops (⟨d, op, ty, pos, aft, some (j, c)⟩ :: l) k f w E :=
  RunL.step (by simp [Region.wanted, yielded_tm hj hv]) hd h

theorem yielded_undef {j t : Nat} (hj : (ops[j]?).bind (·.dst) = some t) (hv : ev b.n f (.tmp t) = undef) : yielded ops (tm b.n f) j = none := by
  by_cases ht : t < b.n
  · have hb : Nat.blt t b.n = true := by simpa using ht
    simp only [ev, hb, cond_true] at hv
    simp [yielded, hj, tm_get?, ht, hv, undef]
  · simp [yielded, hj, tm_get?, ht]
/-- a guarded operation whose guard was itself left out -/
theorem RunL.omitU {d : Option Tmp} {op : Op} {ty : TypeId} {pos : String} {aft : Array Edge} {j t : Nat} {c : Bool} (hj : (ops[j]?).bind (·.dst) = some t) (hv : ev b.n f (.tmp t) = undef)
    (h : RunL P b ops l k (putF f d undef) w E) : RunL P b ops (⟨d, op, ty, pos, aft, some (j, c)⟩ :: l) k f w E := by
  intro idxs hi
  cases idxs with
  | nil => simp at hi
  | cons i rest =>
    simp only [List.map_cons, List.cons.injEq] at hi
    obtain ⟨ho, hrest⟩ := hi
    have hs := fun cs => op_skip (P := P) (k := k) (w := w) (b := b) (f := f) (ops := ops) (i := i) (rest := rest) (by
      simp [ho, Region.wanted, yielded_undef hj hv]) cs
    refine Run.step1 hs ?_
    rw [ho]
    exact h rest hrest
theorem RunL.omit {d : Option Tmp} {op : Op} {ty : TypeId} {pos : String} {aft : Array Edge} {j t : Nat} {c c' : Bool} (hj : (ops[j]?).bind (·.dst) = some t) (hv : ev b.n f (.tmp t) = .bool c')
    (hne : c' = !c) (h : RunL P b ops l k (putF f d undef) w E) : RunL P b ops (⟨d, op, ty, pos, aft, some (j, c)⟩ :: l) k f w E := by
  intro idxs hi
  cases idxs with
  | nil => simp at hi
  | cons i rest =>
    simp only [List.map_cons, List.cons.injEq] at hi
    obtain ⟨ho, hrest⟩ := hi
    have hs := fun cs => op_skip (P := P) (k := k) (w := w) (b := b) (f := f) (ops := ops) (i := i) (rest := rest) (by
      subst hne
      cases c <;> simp [ho, Region.wanted, yielded_tm hj hv]) cs
    refine Run.step1 hs ?_
    rw [ho]
    exact h rest hrest
end

/-! entering and leaving a function -/
def Leaves (P : Program) (fid : FuncId) (C : Value → World → Prop) : Frame → World → Prop :=
  fun fr w' => ∃ v, fr.fn = fid ∧ fr.leaving P w' (.returned v) ∧ C v w'

def argF : List Value → Nat → (Nat → Value)
  | [], _ => fun _ => undef
  | v :: l, i => upd (argF l (i + 1)) i v

theorem argF_apply (l : List Value) : ∀ (i t : Nat), argF l i t = if i ≤ t then l.getD (t - i) undef else undef := by
  induction l with
  | nil => intro i t; simp [argF]
  | cons v l ih =>
    intro i t
    by_cases h : t = i
    · subst h; simp [argF, upd_same]
    · simp only [argF]
      rw [upd_ne _ v h, ih]
      by_cases h2 : i ≤ t
      · rw [if_pos (by omega), if_pos h2]
        obtain ⟨m, hm⟩ : ∃ m, t - i = m + 1 := ⟨t - i - 1, by omega⟩
        have hm2 : t - (i + 1) = m := by omega
        rw [hm, hm2]; rfl
      · rw [if_neg (by omega), if_neg h2]

def fbase (fid : FuncId) (n : Nat) (ds : List Deferred) : Base := ⟨fid, n, ds, .normal, none⟩

theorem Ret.enter {P : Program} {fid : FuncId} {fn : Func} {c : Code} {args : List Value} {w : World} {C : Value → World → Prop} {n : Nat}
    (hf : P.funcs[fid]? = some fn) (hb : fn.body = some c) (hn : fn.ntmps = n) (ha : Nat.ble args.length n = true)
    (h : Run P (fbase fid n []) [.code c] (argF args 0) w (Leaves P fid C)) : Ret P fid args.toArray w C := by
  intro cs
  obtain ⟨fr, w', hs, v, hfn, hl, hC⟩ := h cs
  refine ⟨.returned v, w', fr, ⟨v, rfl, hC⟩, ?_, hfn, hl⟩
  have he : Frame.enter P fid args.toArray .normal = (fbase fid n []).fr [.code c] (argF args 0) := by
    have ha' : args.length ≤ n := Nat.le_of_ble_eq_true ha
    simp only [Frame.enter, fbase, Base.fr, hf, hb, Option.map_some, Option.bind_some, Option.getD_some, hn]
    congr 1
    apply Array.ext
    · simp [tm]; omega
    · intro i h1 h2
      simp only [tm, Array.getElem_ofFn, argF_apply, Nat.zero_le, if_true, Nat.sub_zero]
      by_cases hi : i < args.length
      · simp [hi]
      · simp [Array.getElem_append, hi]
  rw [he]
  exact hs


def rvSem (tmps : Array Value) : ResultVar → Sem Value
  | .tmp t => pure (tmps.getD t undef)
  | .cell a t => do loadVar t (← asAddr (tmps.getD a undef))

def tup : List Value → Value
  | [v] => v
  | vs => .tuple vs.toArray

theorem results_eq (fn : Func) (tmps : Array Value) : results fn tmps = (do let vs ← fn.results.mapM (rvSem tmps); pure (if h : vs.size = 1 then vs[0] else .tuple vs)) := by
  unfold results
  congr 1

section
variable {P : Program} {fn : Func} {tmps : Array Value} {w : World} {r1 r2 r3 r4 : ResultVar} {v1 v2 v3 v4 : Value}
theorem res0 (h : fn.results = #[]) : (results fn tmps).run P w = .ok (.tuple #[]) w := by
  rw [results_eq]; simp [h]
theorem res1 (h : fn.results = #[r1]) (h1 : (rvSem tmps r1).run P w = .ok v1 w) : (results fn tmps).run P w = .ok v1 w := by
  rw [results_eq]; simp [h, h1]
theorem res2 (h : fn.results = #[r1, r2]) (h1 : (rvSem tmps r1).run P w = .ok v1 w) (h2 : (rvSem tmps r2).run P w = .ok v2 w) : (results fn tmps).run P w = .ok (.tuple #[v1, v2]) w := by
  rw [results_eq]; simp [h, Sem.run_bind, h1, h2]
theorem res3 (h : fn.results = #[r1, r2, r3]) (h1 : (rvSem tmps r1).run P w = .ok v1 w) (h2 : (rvSem tmps r2).run P w = .ok v2 w) (h3 : (rvSem tmps r3).run P w = .ok v3 w) : (results fn tmps).run P w = .ok (.tuple #[v1, v2, v3]) w := by
  rw [results_eq]; simp [h, Sem.run_bind, h1, h2, h3]
end

/-- What a result variable holds. -/
def RV (P : Program) (n : Nat) (f : Nat → Value) (w : World) (r : ResultVar) (v : Value) : Prop := (rvSem (tm n f) r).run P w = .ok v w
theorem RV.tmp {P : Program} {n : Nat} {f : Nat → Value} {w : World} {t : Tmp} {v : Value} (h : ev n f (.tmp t) = v) : RV P n f w (.tmp t) v := by
  simp only [RV, rvSem, tm_getD, h]; rfl

theorem leave_of {P : Program} {fid : FuncId} {fn : Func} {n : Nat} {f : Nat → Value} {k : List Item} {w : World} {v : Value} {C : Value → World → Prop}
    (hf : P.funcs[fid]? = some fn) (hr : (results fn (tm n f)).run P w = .ok v w) (hC : C v w) :
    Leaves P fid C { (fbase fid n []).fr k f with mode := .returning } w :=
  ⟨v, rfl, ⟨rfl, rfl, rfl, fn, hf, hr⟩, hC⟩

theorem run_ret_of {P : Program} {fid : FuncId} {fn : Func} {n : Nat} {f : Nat → Value} {k : List Item} {w : World} {v : Value} {C : Value → World → Prop}
    (hf : P.funcs[fid]? = some fn) (hr : (results fn (tm n f)).run P w = .ok v w) (hC : C v w) : Run P (fbase fid n []) (.code .ret :: k) f w (Leaves P fid C) := fun cs =>
  ⟨_, w, .one (step_lone_go (fr' := { (fbase fid n []).fr (.code .ret :: k) f with mode := .returning }) (by simp [stepG, stepG.exec, Base.fr, fbase])), leave_of hf hr hC⟩

theorem run_end_of {P : Program} {fid : FuncId} {fn : Func} {n : Nat} {f : Nat → Value} {w : World} {v : Value} {C : Value → World → Prop}
    (hf : P.funcs[fid]? = some fn) (hr : (results fn (tm n f)).run P w = .ok v w) (hC : C v w) : Run P (fbase fid n []) [] f w (Leaves P fid C) := fun cs =>
  ⟨_, w, .one (step_lone_go (fr' := { (fbase fid n []).fr [] f with mode := .returning }) (by simp [stepG, stepG.exec, Base.fr, fbase])), leave_of hf hr hC⟩

section
variable {P : Program} {fid : FuncId} {fn : Func} {n : Nat} {f : Nat → Value} {k : List Item} {w : World} {C : Value → World → Prop} {r1 r2 r3 : ResultVar} {v1 v2 v3 : Value}
theorem run_ret0 (hf : P.funcs[fid]? = some fn) (h : fn.results = #[]) (hC : C (.tuple #[]) w) : Run P (fbase fid n []) (.code .ret :: k) f w (Leaves P fid C) :=
  run_ret_of hf (res0 h) hC
theorem run_end0 (hf : P.funcs[fid]? = some fn) (h : fn.results = #[]) (hC : C (.tuple #[]) w) : Run P (fbase fid n []) [] f w (Leaves P fid C) :=
  run_end_of hf (res0 h) hC
theorem run_ret1 (hf : P.funcs[fid]? = some fn) (h : fn.results = #[r1]) (h1 : RV P n f w r1 v1) (hC : C v1 w) : Run P (fbase fid n []) (.code .ret :: k) f w (Leaves P fid C) :=
  run_ret_of hf (res1 h h1) hC
theorem run_end1 (hf : P.funcs[fid]? = some fn) (h : fn.results = #[r1]) (h1 : RV P n f w r1 v1) (hC : C v1 w) : Run P (fbase fid n []) [] f w (Leaves P fid C) :=
  run_end_of hf (res1 h h1) hC
theorem run_end2 (hf : P.funcs[fid]? = some fn) (h : fn.results = #[r1, r2]) (h1 : RV P n f w r1 v1) (h2 : RV P n f w r2 v2) (hC : C (.tuple #[v1, v2]) w) : Run P (fbase fid n []) [] f w (Leaves P fid C) :=
  run_end_of hf (res2 h h1 h2) hC
theorem run_ret2 (hf : P.funcs[fid]? = some fn) (h : fn.results = #[r1, r2]) (h1 : RV P n f w r1 v1) (h2 : RV P n f w r2 v2) (hC : C (.tuple #[v1, v2]) w) : Run P (fbase fid n []) (.code .ret :: k) f w (Leaves P fid C) :=
  run_ret_of hf (res2 h h1 h2) hC
theorem run_ret3 (hf : P.funcs[fid]? = some fn) (h : fn.results = #[r1, r2, r3]) (h1 : RV P n f w r1 v1) (h2 : RV P n f w r2 v2) (h3 : RV P n f w r3 v3) (hC : C (.tuple #[v1, v2, v3]) w) :
    Run P (fbase fid n []) (.code .ret :: k) f w (Leaves P fid C) :=
  run_ret_of hf (res3 h h1 h2 h3) hC
end

/-! plain operations -/
section
variable {P : Program} {ty : TypeId} {ρ : Operand → Value} {w : World} {C : Value → World → Prop}

theorem Op1.of {op : Op} {v : Value} {w' : World} (h : (execOp ρ ⟨none, op, ty, "", #[], none⟩).run P w = .ok (.value v) w') (hc : C v w') : Op1 P op ty ρ w C := Inv.value h hc

theorem Op1.move {x : Operand} {v : Value} (hx : ρ x = v) (h : C v w) : Op1 P (.move x) ty ρ w C := Inv.value (by simp [execOp, hx]) h
theorem Op1.assign {x : Operand} {v : Value} (hx : ρ x = v) (h : C v w) : Op1 P (.assign x) ty ρ w C := Inv.value (by simp [execOp, hx]) h
theorem Op1.pick {c x y : Operand} {t : Bool} {u v : Value} (hc : ρ c = .bool t) (hx : ρ x = u) (hy : ρ y = v) (h : C (if t then u else v) w) : Op1 P (.pick c x y) ty ρ w C :=
  Inv.value (v := if t then u else v) (w' := w) (by cases t <;> simp [execOp, hc, hx, hy, asBool]) h
theorem Op1.pickT {c x y : Operand} {u : Value} (hc : ρ c = .bool true) (hx : ρ x = u) (h : C u w) : Op1 P (.pick c x y) ty ρ w C :=
  Inv.value (by simp [execOp, hc, hx, asBool]) h
theorem Op1.pickF {c x y : Operand} {u : Value} (hc : ρ c = .bool false) (hx : ρ y = u) (h : C u w) : Op1 P (.pick c x y) ty ρ w C :=
  Inv.value (by simp [execOp, hc, hx, asBool]) h
theorem Op1.not {x : Operand} {t : Bool} {T : TypeId} (hx : ρ x = .bool t) (h : C (.bool (!t)) w) : Op1 P (.unOp .not T x) ty ρ w C :=
  Inv.value (v := .bool (!t)) (w' := w) (by simp [execOp, hx, Op.unary]) h
end

end Go.SK
