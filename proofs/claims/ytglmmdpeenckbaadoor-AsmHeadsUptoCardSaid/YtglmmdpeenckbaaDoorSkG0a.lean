/-
  Steps of functions, plain law, and walks of functions: what the laws rest on.
-/
import Derived.WalkKit
import Derived.WalkSpells
import Derived.KernelRfl
import Derived.ProofKit
import Derived.OpenShut
import Derived.ShutString
import Derived.ChangeOld
import Derived.Below
import Derived.Laws.MakeOwn
import Derived.ArgAppend
import Derived.SizedLaws
import Derived.Laws.BytesArg
import Derived.Laws.StandIn
import Derived.Lib.ConvBytes
import Derived.Shelf.Strings.OnBuilder
import Derived.Shelf.Strconv.Itoa2
import Derived.Shelf.Strconv.Itoa1
import Derived.Shelf.Strconv.ToError
import Derived.Shelf.Strings.Search2
import Derived.Shelf.Pu.ErrVarParseUint
import Derived.Shelf.Small.Strs
import Derived.Shelf.Small.Wraps
import Derived.Shelf.Strconv.Lower
import Derived.Test.YtglmmdpeenckbaaDoorProg
import Derived.Test.YtglmmdpeenckbaaDoorCards
import Derived.Test.YtglmmdpeenckbaaDoorTie
import Derived.Deep.DeepHandedRow
import Derived.Deep.DeepWitnessRowRef
import Derived.Lib.LaidTab
import Derived.Stop.LaidErr
import Derived.LaidMore
import Derived.ChangeMaps5
set_option linter.unusedVariables false
set_option linter.unusedSimpArgs false
set_option linter.unusedSectionVars false
namespace Go.SK
open Go.RowKit
structure Base where
  fn : FuncId
  n : Nat
  defers : List Deferred
  kind : CallKind
  ro : Option Nat
def tm (n : Nat) (f : Nat → Value) : Array Value := Array.ofFn (n := n) fun i => f i.1
def Base.fr (b : Base) (k : List Item) (f : Nat → Value) : Frame :=
  { fn := b.fn, tmps := tm b.n f, todo := k, defers := b.defers, mode := .run, kind := b.kind, roundOf := b.ro }
def ev (n : Nat) (f : Nat → Value) : Operand → Value
  | .tmp t => bif Nat.blt t n then f t else undef
  | .const v => v
  | .global g => .pointer (some ⟨g, 0, none⟩)
  | .func g => .func (.func g) #[] #[]
def upd (f : Nat → Value) (d : Nat) (v : Value) : Nat → Value := fun t => bif Nat.beq t d then v else f t
def putF (f : Nat → Value) : Option Tmp → Value → (Nat → Value)
  | some d, v => upd f d v
  | none, _ => f
theorem upd_same (f : Nat → Value) (d : Nat) (v : Value) : upd f d v d = v := by simp [upd]
theorem upd_ne (f : Nat → Value) {d t : Nat} (v : Value) (h : t ≠ d) : upd f d v t = f t := by
  have : Nat.beq t d = false := by
    cases hb : Nat.beq t d with
    | false => rfl
    | true => exact absurd (Nat.eq_of_beq_eq_true hb) h
  simp [upd, this]
theorem tm_getD (n : Nat) (f : Nat → Value) (t : Nat) : (tm n f).getD t undef = ev n f (.tmp t) := by
  by_cases h : t < n
  · have : Nat.blt t n = true := by simpa using h
    simp [tm, ev, this, h]
  · have : Nat.blt t n = false := by
      cases hb : Nat.blt t n with
      | false => rfl
      | true => exact absurd (by simpa using hb) h
    simp [tm, ev, this, h]
theorem tm_get? (n : Nat) (f : Nat → Value) (t : Nat) : (tm n f)[t]? = if t < n then some (f t) else none := by
  by_cases h : t < n <;> simp [tm, h]
theorem tm_upd (n : Nat) (f : Nat → Value) (d : Nat) (v : Value) : tm n (upd f d v) = (tm n f).setIfInBounds d v := by
  apply Array.ext
  · simp [tm]
  · intro i h1 h2
    simp only [tm, Array.size_ofFn] at h1
    by_cases h : d = i
    · subst h; simp [tm, upd_same]
    · rw [Array.getElem_setIfInBounds_ne _ h]
      · simp [tm, upd_ne _ v (Ne.symm h)]
      · simpa [tm] using h1
theorem fr_eval (b : Base) (k : List Item) (f : Nat → Value) : (b.fr k f).eval = ev b.n f := by
  funext x
  cases x with
  | tmp t => exact tm_getD b.n f t
  | _ => rfl
def Run (P : Program) (b : Base) (k : List Item) (f : Nat → Value) (w : World) (E : Frame → World → Prop) : Prop :=
  ∀ cs, ∃ fr w', Steps P (lone (b.fr k f) cs w) (lone fr cs w') ∧ E fr w'
section
variable {P : Program} {b : Base} {k : List Item} {f : Nat → Value} {w : World} {E : Frame → World → Prop}
theorem Run.step1 {k' : List Item} {f' : Nat → Value} {w' : World} (h : ∀ cs, step P (lone (b.fr k f) cs w) = .next (lone (b.fr k' f') cs w'))
    (hr : Run P b k' f' w' E) : Run P b k f w E := fun cs =>
  let ⟨fr, w2, hs, he⟩ := hr cs
  ⟨fr, w2, .head (h cs) hs, he⟩
theorem Run.mono {E' : Frame → World → Prop} (h : Run P b k f w E) (he : ∀ fr w, E fr w → E' fr w) : Run P b k f w E' := fun cs =>
  let ⟨fr, w2, hs, h⟩ := h cs
  ⟨fr, w2, hs, he _ _ h⟩
theorem run_skip (h : Run P b k f w E) : Run P b (.code .skip :: k) f w E :=
  Run.step1 (fun cs => step_lone_go (by simp [stepG, stepG.exec, Base.fr])) h
theorem run_label {l : Nat} (h : Run P b k f w E) : Run P b (.code (.label l) :: k) f w E :=
  Run.step1 (fun cs => step_lone_go (by simp [stepG, stepG.exec, Base.fr])) h
theorem run_inBlock {id : Nat} (h : Run P b k f w E) : Run P b (.inBlock id :: k) f w E :=
  Run.step1 (fun cs => step_lone_go (by simp [stepG, stepG.exec, Base.fr])) h
theorem run_seq {x y : Code} (h : Run P b (.code x :: .code y :: k) f w E) : Run P b (.code (.seq x y) :: k) f w E :=
  Run.step1 (fun cs => step_lone_go (by simp [stepG, stepG.exec, Base.fr])) h
theorem run_block {id : Nat} {c : Code} (h : Run P b (.code c :: .inBlock id :: k) f w E) : Run P b (.code (.block id c) :: k) f w E :=
  Run.step1 (fun cs => step_lone_go (by simp [stepG, stepG.exec, Base.fr])) h
theorem run_scope {c : Code} (h : Run P b (.code c :: .inScope c :: k) f w E) : Run P b (.code (.scope c) :: k) f w E :=
  Run.step1 (fun cs => step_lone_go (by simp [stepG, stepG.exec, Base.fr])) h
theorem run_loop {c : Code} (h : Run P b (.code c :: .inLoop c :: k) f w E) : Run P b (.code (.loop c) :: k) f w E :=
  Run.step1 (fun cs => step_lone_go (by simp [stepG, stepG.exec, Base.fr])) h
theorem run_inLoop {c : Code} (h : Run P b (.code c :: .inLoop c :: k) f w E) : Run P b (.inLoop c :: k) f w E :=
  Run.step1 (fun cs => step_lone_go (by simp [stepG, stepG.exec, Base.fr])) h
theorem run_exit {id : Nat} {k' : List Item} (hx : exitTo id k = some k') (h : Run P b k' f w E) : Run P b (.code (.exit id) :: k) f w E :=
  Run.step1 (fun cs => step_lone_go (by simp [stepG, stepG.exec, Base.fr, hx])) h
theorem run_goto {l : Nat} {k' : List Item} (hx : gotoIn l k = some k') (h : Run P b k' f w E) : Run P b (.code (.goto l) :: k) f w E :=
  Run.step1 (fun cs => step_lone_go (by simp [stepG, stepG.exec, Base.fr, hx])) h
theorem run_cond {c : Operand} {x y : Code} {t : Bool} (hc : ev b.n f c = .bool t) (h : Run P b (.code (if t then x else y) :: k) f w E) : Run P b (.code (.cond c x y) :: k) f w E :=
  Run.step1 (fun cs => step_lone_go (by
    have := fr_eval b (.code (.cond c x y) :: k) f
    simp only [Base.fr] at this
    simp [stepG, stepG.exec, Base.fr, this, hc])) h
theorem run_cond_true {c : Operand} {x y : Code} (hc : ev b.n f c = .bool true) (h : Run P b (.code x :: k) f w E) : Run P b (.code (.cond c x y) :: k) f w E := run_cond hc h
theorem run_cond_false {c : Operand} {x y : Code} (hc : ev b.n f c = .bool false) (h : Run P b (.code y :: k) f w E) : Run P b (.code (.cond c x y) :: k) f w E := run_cond hc h
theorem run_cond_split {c : Operand} {x y : Code} {t : Bool} (hc : ev b.n f c = .bool t) (h1 : t = true → Run P b (.code x :: k) f w E) (h2 : t = false → Run P b (.code y :: k) f w E) :
    Run P b (.code (.cond c x y) :: k) f w E := by
  cases t with
  | true => exact run_cond hc (h1 rfl)
  | false => exact run_cond hc (h2 rfl)
def RunL (P : Program) (b : Base) (ops : Array Oper) (l : List Oper) (k : List Item) (f : Nat → Value) (w : World) (E : Frame → World → Prop) : Prop :=
  ∀ idxs : List Nat, idxs.map (ops[·]?) = l.map some → Run P b (.inRegion ops idxs :: k) f w E
theorem run_region {id : Nat} {l : List Oper} (h : RunL P b l.toArray l k f w E) : Run P b (.code (.region id l.toArray false) :: k) f w E := by
  have hh := h (List.range l.length) (by
    apply List.ext_getElem
    · simp
    · intro i h1 h2
      simp at h1
      simp [h1])
  exact Run.step1 (fun cs => step_lone_go (by simp [stepG, stepG.exec, Base.fr])) hh
theorem RunL.nil {ops : Array Oper} (h : Run P b k f w E) : RunL P b ops [] k f w E := by
  intro idxs hi
  have : idxs = [] := by simpa using hi
  subst this
  exact Run.step1 (fun cs => step_lone_go (by simp [stepG, stepG.exec, Base.fr])) h
end
def headOk : List Item → Bool
  | .inRegion _ _ :: _ | .inRangeFunc _ :: _ | .beginRound :: _ => true
  | _ => false
def Inv (P : Program) (s : Sem Next) (w : World) (C : Value → World → Prop) : Prop :=
  ∀ (fr : Frame) (cs : List Frame), headOk fr.todo = true →
    (stepG P true { frame := fr, callers := cs, status := .running, dying := none } w).bare = (stepG.apply P true fr cs none s w).bare →
    ∃ v w', C v w' ∧ Steps P (lone fr cs w) (lone (fr.finish v) cs w')
def Ret (P : Program) (g : FuncId) (args : Array Value) (w : World) (C : Value → World → Prop) : Prop :=
  Calls P g args w fun e w' => ∃ v, e = .returned v ∧ C v w'
section
variable {P : Program} {s : Sem Next} {w : World} {C : Value → World → Prop}
theorem Ret.mono {g : FuncId} {args : Array Value} {C' : Value → World → Prop} (h : Ret P g args w C) (hc : ∀ v w, C v w → C' v w) : Ret P g args w C' :=
  Calls.mono h fun e w' ⟨v, he, h⟩ => ⟨v, he, hc v w' h⟩
theorem Inv.mono {C' : Value → World → Prop} (h : Inv P s w C) (hc : ∀ v w, C v w → C' v w) : Inv P s w C' :=
  fun fr cs h1 h3 => let ⟨v, w', c, st⟩ := h fr cs h1 h3; ⟨v, w', hc _ _ c, st⟩
theorem Inv.value {v : Value} {w' : World} (hr : s.run P w = .ok (.value v) w') (hc : C v w') : Inv P s w C := fun fr cs _ h =>
  ⟨v, w', hc, .one (step_lone_go (by rw [h]; simp only [stepG.apply, Sem.runT_eq, hr, GStep.bare_after, if_true]; rfl))⟩
theorem Inv.skip {w' : World} (hr : s.run P w = .ok .skip w') (hc : C undef w') : Inv P s w C := fun fr cs _ h =>
  ⟨undef, w', hc, .one (step_lone_go (by rw [h]; simp only [stepG.apply, Sem.runT_eq, hr, GStep.bare_after, if_true]; rfl))⟩
theorem Inv.enter {g : FuncId} {args : Array Value} {w' : World} (hr : s.run P w = .ok (.enter g args) w') (hc : Ret P g args w' C) : Inv P s w C := fun fr cs hn1 h => by
  obtain ⟨e, w2, fr2, ⟨v, rfl, hC⟩, hcomes, hfn, hleave⟩ := hc (fr :: cs)
  refine ⟨v, w2, hC, .head (m₁ := lone (Frame.enter P g args .normal) (fr :: cs) w') (step_lone_go ?_) (hcomes.trans (.one (step_leave_returned hleave)))⟩
  rw [h]
  simp only [stepG.apply, Sem.runT_eq, hr, GStep.bare_after, if_true]
  cases ht : fr.todo with
  | nil => rfl
  | cons x k => cases x <;> first | rfl | (rw [ht] at hn1; simp [headOk] at hn1)
end
def Op1 (P : Program) (op : Op) (ty : TypeId) (ρ : Operand → Value) (w : World) (C : Value → World → Prop) : Prop :=
  Inv P (execOp ρ ⟨none, op, ty, "", #[], none⟩) w C
theorem execOp_eq (ρ : Operand → Value) (o : Oper) : execOp ρ o = execOp ρ ⟨none, o.op, o.type, "", #[], none⟩ := by
  cases o with
  | mk d op ty pos aft g => cases op <;> rfl
def isDefer : Op → Bool
  | .defer _ => true
  | _ => false
section
variable {P : Program} {b : Base} {k : List Item} {f : Nat → Value} {w : World} {E : Frame → World → Prop} {ops : Array Oper} {l : List Oper}
theorem finish_fr (b : Base) (ops : Array Oper) (i : Nat) (rest : List Nat) (k : List Item) (f : Nat → Value) (v : Value) :
    (b.fr (.inRegion ops (i :: rest) :: k) f).finish v = b.fr (.inRegion ops rest :: k) (putF f ((ops[i]?).bind (·.dst)) v) := by
  cases h : (ops[i]?).bind (·.dst) with
  | none => simp [Frame.finish, Base.fr, h, putF]
  | some d => simp [Frame.finish, Base.fr, h, putF, tm_upd]
theorem op_step {i : Nat} {rest : List Nat} {o : Oper} (ho : ops[i]? = some o) (hw : Region.wanted o (yielded ops (tm b.n f)) = true) (hd : isDefer o.op = false) (cs : List Frame) :
    (stepG P true { frame := b.fr (.inRegion ops (i :: rest) :: k) f, callers := cs, status := .running, dying := none } w).bare =
      (stepG.apply P true (b.fr (.inRegion ops (i :: rest) :: k) f) cs none (execOp (ev b.n f) o) w).bare := by
  have he := fr_eval b (.inRegion ops (i :: rest) :: k) f
  simp only [Base.fr] at he
  cases o with
  | mk d op ty pos aft g =>
    cases op <;> first | (simp [isDefer] at hd; done) | (simp [stepG, stepG.exec, stepG.oper, Frame.oper?, Base.fr, ho, hw, he]; try (cases b.ro <;> rfl))
theorem op_skip {i : Nat} {rest : List Nat} (h : ((ops[i]?).map (Region.wanted · (yielded ops (tm b.n f)))).getD false = false) (cs : List Frame) :
    step P (lone (b.fr (.inRegion ops (i :: rest) :: k) f) cs w) = .next (lone (b.fr (.inRegion ops rest :: k) (putF f ((ops[i]?).bind (·.dst)) undef)) cs w) := by
  rw [← finish_fr]
  refine step_lone_go ?_
  have h' := h
  simp only [Base.fr] at *
  simp [stepG, stepG.exec, h']
theorem RunL.step {o : Oper} (hw : Region.wanted o (yielded ops (tm b.n f)) = true) (hd : isDefer o.op = false)
    (h : Op1 P o.op o.type (ev b.n f) w (fun v w' => RunL P b ops l k (putF f o.dst v) w' E)) : RunL P b ops (o :: l) k f w E := by
  intro idxs hi cs
  cases idxs with
  | nil => simp at hi
  | cons i rest =>
    simp only [List.map_cons, List.cons.injEq] at hi
    obtain ⟨ho, hrest⟩ := hi
    have hs := op_step (P := P) (k := k) (w := w) (rest := rest) ho hw hd cs
    rw [execOp_eq] at hs
    obtain ⟨v, w', hC, hsteps⟩ := h (b.fr (.inRegion ops (i :: rest) :: k) f) cs rfl hs
    rw [finish_fr, ho] at hsteps
    obtain ⟨fr, w2, hs2, he⟩ := hC rest hrest cs
    exact ⟨fr, w2, hsteps.trans hs2, he⟩
theorem RunL.cons {d : Option Tmp} {op : Op} {ty : TypeId} {pos : String} {aft : Array Edge} (h : Op1 P op ty (ev b.n f) w (fun v w' => RunL P b ops l k (putF f d v) w' E))
    (hd : isDefer op = false := by rfl) : RunL P b ops (⟨d, op, ty, pos, aft, none⟩ :: l) k f w E :=
  RunL.step (by rfl) hd h
theorem yielded_tm {j t : Nat} {c : Bool} (hj : (ops[j]?).bind (·.dst) = some t) (hv : ev b.n f (.tmp t) = .bool c) : yielded ops (tm b.n f) j = some c := by
  have ht : t < b.n := by
    rcases Nat.lt_or_ge t b.n with h | h
    · exact h
    · have : Nat.blt t b.n = false := by
        cases hb : Nat.blt t b.n with
        | false => rfl
        | true => exact absurd (by simpa using hb) (by omega)
      simp [ev, this, undef] at hv
  have hb : Nat.blt t b.n = true := by simpa using ht
  simp only [ev, hb, cond_true] at hv
  simp [yielded, hj, tm_get?, ht, hv]
theorem RunL.take {d : Option Tmp} {op : Op} {ty : TypeId} {pos : String} {aft : Array Edge} {j t : Nat} {c : Bool} (hj : (ops[j]?).bind (·.dst) = some t) (hv : ev b.n f (.tmp t) = .bool c)
    (h : Op1 P op ty (ev b.n f) w (fun v w' => RunL P b ops l k (putF f d v) w' E))
    (hd : isDefer op = false := by rfl) : RunL P b ops (⟨d, op, ty, pos, aft, some (j, c)⟩ :: l) k f w E :=
  RunL.step (by simp [Region.wanted, yielded_tm hj hv]) hd h
theorem yielded_undef {j t : Nat} (hj : (ops[j]?).bind (·.dst) = some t) (hv : ev b.n f (.tmp t) = undef) : yielded ops (tm b.n f) j = none := by
  by_cases ht : t < b.n
  · have hb : Nat.blt t b.n = true := by simpa using ht
    simp only [ev, hb, cond_true] at hv
    simp [yielded, hj, tm_get?, ht, hv, undef]
  · simp [yielded, hj, tm_get?, ht]
theorem RunL.omitU {d : Option Tmp} {op : Op} {ty : TypeId} {pos : String} {aft : Array Edge} {j t : Nat} {c : Bool} (hj : (ops[j]?).bind (·.dst) = some t) (hv : ev b.n f (.tmp t) = undef)
    (h : RunL P b ops l k (putF f d undef) w E) : RunL P b ops (⟨d, op, ty, pos, aft, some (j, c)⟩ :: l) k f w E := by
  intro idxs hi
  cases idxs with
  | nil => simp at hi
  | cons i rest =>
    simp only [List.map_cons, List.cons.injEq] at hi
    obtain ⟨ho, hrest⟩ := hi
    have hs := fun cs => op_skip (P := P) (k := k) (w := w) (b := b) (f := f) (ops := ops) (i := i) (rest := rest) (by
      simp [ho, Region.wanted, yielded_undef hj hv]) cs
    refine Run.step1 hs ?_
    rw [ho]
    exact h rest hrest
theorem RunL.omit {d : Option Tmp} {op : Op} {ty : TypeId} {pos : String} {aft : Array Edge} {j t : Nat} {c c' : Bool} (hj : (ops[j]?).bind (·.dst) = some t) (hv : ev b.n f (.tmp t) = .bool c')
    (hne : c' = !c) (h : RunL P b ops l k (putF f d undef) w E) : RunL P b ops (⟨d, op, ty, pos, aft, some (j, c)⟩ :: l) k f w E := by
  intro idxs hi
  cases idxs with
  | nil => simp at hi
  | cons i rest =>
    simp only [List.map_cons, List.cons.injEq] at hi
    obtain ⟨ho, hrest⟩ := hi
    have hs := fun cs => op_skip (P := P) (k := k) (w := w) (b := b) (f := f) (ops := ops) (i := i) (rest := rest) (by
      subst hne
      cases c <;> simp [ho, Region.wanted, yielded_tm hj hv]) cs
    refine Run.step1 hs ?_
    rw [ho]
    exact h rest hrest
end
def Leaves (P : Program) (fid : FuncId) (C : Value → World → Prop) : Frame → World → Prop :=
  fun fr w' => ∃ v, fr.fn = fid ∧ fr.leaving P w' (.returned v) ∧ C v w'
def argF : List Value → Nat → (Nat → Value)
  | [], _ => fun _ => undef
  | v :: l, i => upd (argF l (i + 1)) i v
theorem argF_apply (l : List Value) : ∀ (i t : Nat), argF l i t = if i ≤ t then l.getD (t - i) undef else undef := by
  induction l with
  | nil => intro i t; simp [argF]
  | cons v l ih =>
    intro i t
    by_cases h : t = i
    · subst h; simp [argF, upd_same]
    · simp only [argF]
      rw [upd_ne _ v h, ih]
      by_cases h2 : i ≤ t
      · rw [if_pos (by omega), if_pos h2]
        obtain ⟨m, hm⟩ : ∃ m, t - i = m + 1 := ⟨t - i - 1, by omega⟩
        have hm2 : t - (i + 1) = m := by omega
        rw [hm, hm2]; rfl
      · rw [if_neg (by omega), if_neg h2]
def fbase (fid : FuncId) (n : Nat) (ds : List Deferred) : Base := ⟨fid, n, ds, .normal, none⟩
theorem Ret.enter {P : Program} {fid : FuncId} {fn : Func} {c : Code} {args : List Value} {w : World} {C : Value → World → Prop} {n : Nat}
    (hf : P.funcs[fid]? = some fn) (hb : fn.body = some c) (hn : fn.ntmps = n) (ha : Nat.ble args.length n = true)
    (h : Run P (fbase fid n []) [.code c] (argF args 0) w (Leaves P fid C)) : Ret P fid args.toArray w C := by
  intro cs
  obtain ⟨fr, w', hs, v, hfn, hl, hC⟩ := h cs
  refine ⟨.returned v, w', fr, ⟨v, rfl, hC⟩, ?_, hfn, hl⟩
  have he : Frame.enter P fid args.toArray .normal = (fbase fid n []).fr [.code c] (argF args 0) := by
    have ha' : args.length ≤ n := Nat.le_of_ble_eq_true ha
    simp only [Frame.enter, fbase, Base.fr, hf, hb, Option.map_some, Option.bind_some, Option.getD_some, hn]
    congr 1
    apply Array.ext
    · simp [tm]; omega
    · intro i h1 h2
      simp only [tm, Array.getElem_ofFn, argF_apply, Nat.zero_le, if_true, Nat.sub_zero]
      by_cases hi : i < args.length
      · simp [hi]
      · simp [Array.getElem_append, hi]
  rw [he]
  exact hs
def rvSem (tmps : Array Value) : ResultVar → Sem Value
  | .tmp t => pure (tmps.getD t undef)
  | .cell a t => do loadVar t (← asAddr (tmps.getD a undef))
theorem results_eq (fn : Func) (tmps : Array Value) : results fn tmps = (do let vs ← fn.results.mapM (rvSem tmps); pure (if h : vs.size = 1 then vs[0] else .tuple vs)) := by
  unfold results
  congr 1
section
variable {P : Program} {fn : Func} {tmps : Array Value} {w : World} {r1 r2 r3 r4 : ResultVar} {v1 v2 v3 v4 : Value}
theorem res1 (h : fn.results = #[r1]) (h1 : (rvSem tmps r1).run P w = .ok v1 w) : (results fn tmps).run P w = .ok v1 w := by
  rw [results_eq]; simp [h, h1]
theorem res2 (h : fn.results = #[r1, r2]) (h1 : (rvSem tmps r1).run P w = .ok v1 w) (h2 : (rvSem tmps r2).run P w = .ok v2 w) : (results fn tmps).run P w = .ok (.tuple #[v1, v2]) w := by
  rw [results_eq]; simp [h, Sem.run_bind, h1, h2]
theorem res3 (h : fn.results = #[r1, r2, r3]) (h1 : (rvSem tmps r1).run P w = .ok v1 w) (h2 : (rvSem tmps r2).run P w = .ok v2 w) (h3 : (rvSem tmps r3).run P w = .ok v3 w) : (results fn tmps).run P w = .ok (.tuple #[v1, v2, v3]) w := by
  rw [results_eq]; simp [h, Sem.run_bind, h1, h2, h3]
end
def RV (P : Program) (n : Nat) (f : Nat → Value) (w : World) (r : ResultVar) (v : Value) : Prop := (rvSem (tm n f) r).run P w = .ok v w
theorem RV.tmp {P : Program} {n : Nat} {f : Nat → Value} {w : World} {t : Tmp} {v : Value} (h : ev n f (.tmp t) = v) : RV P n f w (.tmp t) v := by
  simp only [RV, rvSem, tm_getD, h]; rfl
theorem leave_of {P : Program} {fid : FuncId} {fn : Func} {n : Nat} {f : Nat → Value} {k : List Item} {w : World} {v : Value} {C : Value → World → Prop}
    (hf : P.funcs[fid]? = some fn) (hr : (results fn (tm n f)).run P w = .ok v w) (hC : C v w) :
    Leaves P fid C { (fbase fid n []).fr k f with mode := .returning } w :=
  ⟨v, rfl, ⟨rfl, rfl, rfl, fn, hf, hr⟩, hC⟩
theorem run_ret_of {P : Program} {fid : FuncId} {fn : Func} {n : Nat} {f : Nat → Value} {k : List Item} {w : World} {v : Value} {C : Value → World → Prop}
    (hf : P.funcs[fid]? = some fn) (hr : (results fn (tm n f)).run P w = .ok v w) (hC : C v w) : Run P (fbase fid n []) (.code .ret :: k) f w (Leaves P fid C) := fun cs =>
  ⟨_, w, .one (step_lone_go (fr' := { (fbase fid n []).fr (.code .ret :: k) f with mode := .returning }) (by simp [stepG, stepG.exec, Base.fr, fbase])), leave_of hf hr hC⟩
section
variable {P : Program} {fid : FuncId} {fn : Func} {n : Nat} {f : Nat → Value} {k : List Item} {w : World} {C : Value → World → Prop} {r1 r2 r3 : ResultVar} {v1 v2 v3 : Value}
theorem run_ret1 (hf : P.funcs[fid]? = some fn) (h : fn.results = #[r1]) (h1 : RV P n f w r1 v1) (hC : C v1 w) : Run P (fbase fid n []) (.code .ret :: k) f w (Leaves P fid C) :=
  run_ret_of hf (res1 h h1) hC
theorem run_ret2 (hf : P.funcs[fid]? = some fn) (h : fn.results = #[r1, r2]) (h1 : RV P n f w r1 v1) (h2 : RV P n f w r2 v2) (hC : C (.tuple #[v1, v2]) w) : Run P (fbase fid n []) (.code .ret :: k) f w (Leaves P fid C) :=
  run_ret_of hf (res2 h h1 h2) hC
theorem run_ret3 (hf : P.funcs[fid]? = some fn) (h : fn.results = #[r1, r2, r3]) (h1 : RV P n f w r1 v1) (h2 : RV P n f w r2 v2) (h3 : RV P n f w r3 v3) (hC : C (.tuple #[v1, v2, v3]) w) :
    Run P (fbase fid n []) (.code .ret :: k) f w (Leaves P fid C) :=
  run_ret_of hf (res3 h h1 h2 h3) hC
end
section
variable {P : Program} {ty : TypeId} {ρ : Operand → Value} {w : World} {C : Value → World → Prop}
theorem Op1.of {op : Op} {v : Value} {w' : World} (h : (execOp ρ ⟨none, op, ty, "", #[], none⟩).run P w = .ok (.value v) w') (hc : C v w') : Op1 P op ty ρ w C := Inv.value h hc
theorem Op1.move {x : Operand} {v : Value} (hx : ρ x = v) (h : C v w) : Op1 P (.move x) ty ρ w C := Inv.value (by simp [execOp, hx]) h
theorem Op1.assign {x : Operand} {v : Value} (hx : ρ x = v) (h : C v w) : Op1 P (.assign x) ty ρ w C := Inv.value (by simp [execOp, hx]) h
theorem Op1.pick {c x y : Operand} {t : Bool} {u v : Value} (hc : ρ c = .bool t) (hx : ρ x = u) (hy : ρ y = v) (h : C (if t then u else v) w) : Op1 P (.pick c x y) ty ρ w C :=
  Inv.value (v := if t then u else v) (w' := w) (by cases t <;> simp [execOp, hc, hx, hy, asBool]) h
theorem Op1.pickT {c x y : Operand} {u : Value} (hc : ρ c = .bool true) (hx : ρ x = u) (h : C u w) : Op1 P (.pick c x y) ty ρ w C :=
  Inv.value (by simp [execOp, hc, hx, asBool]) h
theorem Op1.pickF {c x y : Operand} {u : Value} (hc : ρ c = .bool false) (hx : ρ y = u) (h : C u w) : Op1 P (.pick c x y) ty ρ w C :=
  Inv.value (by simp [execOp, hc, hx, asBool]) h
theorem Op1.not {x : Operand} {t : Bool} {T : TypeId} (hx : ρ x = .bool t) (h : C (.bool (!t)) w) : Op1 P (.unOp .not T x) ty ρ w C :=
  Inv.value (v := .bool (!t)) (w' := w) (by simp [execOp, hx, Op.unary]) h
end
end Go.SK
namespace Go.SK
open Go.RowKit
structure Res where
  foot : Nat → Prop
  holds : World → Prop
  stable : ∀ w w' : World, (∀ b, foot b → w'.heap[b]? = w.heap[b]?) → holds w → holds w'
  inb : ∀ w, holds w → ∀ b, foot b → b < w.heap.size
def Res.obj (b : Nat) (o : Obj) : Res :=
  ⟨(· = b), fun w => w.heap[b]? = some o, fun w w' h hh => by rw [h b rfl]; exact hh, fun w h c hc => by subst hc; exact (Array.getElem?_eq_some_iff.1 h).1⟩
abbrev Res.row (b : Nat) (T : TypeId) (l : List Value) : Res := Res.obj b (.cells l.toArray T (0, 0))
structure Kept (M : Nat → Prop) (w w' : World) : Prop where
  os : w'.os = w.os
  tape : w'.tape = w.tape
  output : w'.output = w.output
  size : w.heap.size ≤ w'.heap.size
  block : ∀ b, b < w.heap.size → ¬ M b → w'.heap[b]? = w.heap[b]?
def NoM : Nat → Prop := fun _ => False
theorem Kept.refl (M : Nat → Prop) (w : World) : Kept M w w := ⟨rfl, rfl, rfl, Nat.le_refl _, fun _ _ _ => rfl⟩
theorem Kept.trans {M N : Nat → Prop} {a b c : World} (h : Kept M a b) (k : Kept N b c) (hN : ∀ x, x < a.heap.size → N x → M x) : Kept M a c :=
  ⟨k.os.trans h.os, k.tape.trans h.tape, k.output.trans h.output, Nat.le_trans h.size k.size,
    fun x hx hm => (k.block x (Nat.lt_of_lt_of_le hx h.size) (fun hn => hm (hN x hx hn))).trans (h.block x hx hm)⟩
theorem Kept.mono {M N : Nat → Prop} {a b : World} (h : Kept M a b) (hN : ∀ x, x < a.heap.size → M x → N x) : Kept N a b :=
  ⟨h.os, h.tape, h.output, h.size, fun x hx hn => h.block x hx (fun hm => hn (hN x hx hm))⟩
theorem Kept.below {w w' : World} (h : Kept NoM w w') : Below w.heap.size w w' := ⟨h.os, h.tape, h.output, h.size, fun k hk => h.block k hk id⟩
theorem Kept.of_below {w w' : World} (h : Below w.heap.size w w') : Kept NoM w w' := ⟨h.os, h.tape, h.output, h.size, fun k hk _ => h.block k hk⟩
theorem Kept.alloc (M : Nat → Prop) (w : World) (o : Obj) : Kept M w (w.alloc o) := ⟨rfl, rfl, rfl, by simp, fun b hb _ => Below.heap_alloc w o b hb⟩
theorem Kept.drawn (M : Nat → Prop) (w : World) (n : Nat) : Kept M w { w with drawn := n } := ⟨rfl, rfl, rfl, Nat.le_refl _, fun _ _ _ => rfl⟩
theorem Kept.put (w : World) (b : Nat) (o : Obj) : Kept (· = b) w { w with heap := w.heap.setIfInBounds b o } :=
  ⟨rfl, rfl, rfl, by simp, fun c hc hne => by simp [Array.getElem?_setIfInBounds, show b ≠ c from fun h => hne h.symm]⟩
def Apart (r s : Res) : Prop := ∀ b, r.foot b → ¬ s.foot b
structure St (w0 : World) (M : Nat → Prop) (L D : List Res) (w : World) : Prop where
  kept : Kept M w0 w
  hL : ∀ r ∈ L, r.holds w
  hD : ∀ r ∈ D, r.holds w
  new : ∀ r ∈ L, ∀ b, r.foot b → w0.heap.size ≤ b ∨ M b
  sep : L.Pairwise Apart
  sepD : ∀ r ∈ L, ∀ d ∈ D, Apart r d
inductive Sel (r r' : Res) : List Res → List Res → Prop
  | here {L : List Res} : Sel r r' (r :: L) (r' :: L)
  | there {s : Res} {L L' : List Res} : Sel r r' L L' → Sel r r' (s :: L) (s :: L')
inductive Rem (r : Res) : List Res → List Res → Prop
  | here {L : List Res} : Rem r (r :: L) L
  | there {s : Res} {L L' : List Res} : Rem r L L' → Rem r (s :: L) (s :: L')
theorem Sel.mem {r r' : Res} {L L' : List Res} (h : Sel r r' L L') : r ∈ L := by
  induction h with
  | here => exact .head _
  | there _ ih => exact .tail _ ih
theorem Sel.mem' {r r' s : Res} {L L' : List Res} (h : Sel r r' L L') (hs : s ∈ L') : s = r' ∨ s ∈ L := by
  induction h with
  | here => cases hs with
    | head => exact .inl rfl
    | tail _ h => exact .inr (.tail _ h)
  | there _ ih => cases hs with
    | head => exact .inr (.head _)
    | tail _ h => exact (ih h).imp id (.tail _)
theorem Apart.symm {r s : Res} (h : Apart r s) : Apart s r := fun b hs hr => h b hr hs
theorem Sel.other {r r' : Res} {L L' : List Res} (h : Sel r r' L L') (hp : L.Pairwise Apart) {w w' : World} (hL : ∀ s ∈ L, s.holds w) (hr' : r'.holds w') (hk : Kept r.foot w w') :
    ∀ s ∈ L', s.holds w' := by
  induction h with
  | here =>
    intro s hs
    cases hs with
    | head => exact hr'
    | tail _ hs =>
      have ha : Apart r s := (List.pairwise_cons.1 hp).1 s hs
      have hh := hL s (.tail _ hs)
      exact s.stable w w' (fun b hb => hk.block b (s.inb w hh b hb) (fun hr => ha b hr hb)) hh
  | @there s0 L L' h ih =>
    intro s hs
    have hp' := List.pairwise_cons.1 hp
    cases hs with
    | head =>
      have ha : Apart s0 r := hp'.1 r h.mem
      have hh := hL s0 (.head _)
      exact s0.stable w w' (fun b hb => hk.block b (s0.inb w hh b hb) (fun hr => ha b hb hr)) hh
    | tail _ hs => exact ih hp'.2 (fun s hs => hL s (.tail _ hs)) s hs
theorem Sel.pair {r r' : Res} {L L' : List Res} (h : Sel r r' L L') (hp : L.Pairwise Apart) {w : World} (hL : ∀ s ∈ L, s.holds w) (hf : ∀ b, r'.foot b → r.foot b ∨ w.heap.size ≤ b) : L'.Pairwise Apart := by
  have key : ∀ s ∈ L, Apart r s → Apart r' s := fun s hs ha b hb hsb => by
    rcases hf b hb with hr | hge
    · exact ha b hr hsb
    · exact absurd (s.inb w (hL s hs) b hsb) (by omega)
  induction h with
  | here =>
    have hp' := List.pairwise_cons.1 hp
    exact List.pairwise_cons.2 ⟨fun s hs => key s (.tail _ hs) (hp'.1 s hs), hp'.2⟩
  | @there s0 L L' h ih =>
    have hp' := List.pairwise_cons.1 hp
    refine List.pairwise_cons.2 ⟨fun s hs => ?_, ih hp'.2 (fun s hs => hL s (.tail _ hs)) (fun s hs => key s (.tail _ hs))⟩
    rcases h.mem' hs with rfl | hs
    · exact (key s0 (.head _) (hp'.1 r h.mem).symm).symm
    · exact hp'.1 s hs
section
variable {w0 w w' : World} {M : Nat → Prop} {L L' D : List Res} {r r' : Res}
theorem St.init (w : World) : St w NoM [] [] w := ⟨Kept.refl _ _, by simp, by simp, by simp, .nil, by simp⟩
theorem St.upd (h : St w0 M L D w) (hs : Sel r r' L L') (hk : Kept r.foot w w') (hr' : r'.holds w') (hf : ∀ b, r'.foot b → r.foot b ∨ w.heap.size ≤ b) : St w0 M L' D w' where
  kept := h.kept.trans hk fun b hb hr => (h.new r hs.mem b hr).resolve_left (by omega)
  hL := hs.other h.sep h.hL hr' hk
  hD := fun d hd => d.stable w w' (fun b hb => hk.block b (d.inb w (h.hD d hd) b hb) (fun hr => h.sepD r hs.mem d hd b hr hb)) (h.hD d hd)
  new := fun s hm b hb => by
    rcases hs.mem' hm with rfl | hm
    · rcases hf b hb with hr | hge
      · exact h.new r hs.mem b hr
      · exact .inl (Nat.le_trans h.kept.size hge)
    · exact h.new s hm b hb
  sep := hs.pair h.sep h.hL hf
  sepD := fun s hm d hd b hb hdb => by
    rcases hs.mem' hm with rfl | hm
    · rcases hf b hb with hr | hge
      · exact h.sepD r hs.mem d hd b hr hdb
      · exact absurd (d.inb w (h.hD d hd) b hdb) (by omega)
    · exact h.sepD s hm d hd b hb hdb
theorem St.keep (h : St w0 M L D w) (hk : Kept NoM w w') : St w0 M L D w' where
  kept := h.kept.trans hk (fun _ _ hf => hf.elim)
  hL := fun s hs => s.stable w w' (fun b hb => hk.block b (s.inb w (h.hL s hs) b hb) id) (h.hL s hs)
  hD := fun s hs => s.stable w w' (fun b hb => hk.block b (s.inb w (h.hD s hs) b hb) id) (h.hD s hs)
  new := h.new
  sep := h.sep
  sepD := h.sepD
theorem St.push (h : St w0 M L D w) (hk : Kept NoM w w') (hr' : r'.holds w') (hf : ∀ b, r'.foot b → w.heap.size ≤ b) : St w0 M (r' :: L) D w' where
  kept := h.kept.trans hk (fun _ _ hf => hf.elim)
  hL := fun s hs => by
    cases hs with
    | head => exact hr'
    | tail _ hs => exact (h.keep hk).hL s hs
  hD := (h.keep hk).hD
  new := fun s hs b hb => by
    cases hs with
    | head => exact .inl (Nat.le_trans h.kept.size (hf b hb))
    | tail _ hs => exact h.new s hs b hb
  sep := List.pairwise_cons.2 ⟨fun s hs b hb hsb => absurd (s.inb w (h.hL s hs) b hsb) (by have := hf b hb; omega), h.sep⟩
  sepD := fun s hs d hd b hb hdb => by
    cases hs with
    | head => exact absurd (d.inb w (h.hD d hd) b hdb) (by have := hf b hb; omega)
    | tail _ hs => exact h.sepD s hs d hd b hb hdb
theorem St.call {L1 L2 Lc : List Res} {Mc : Nat → Prop} (h : St w0 M (L1 ++ L2) D w) (hc : St w Mc Lc [] w') (hM : ∀ b, Mc b → ∃ r ∈ L1, r.foot b) : St w0 M (Lc ++ L2) D w' := by
  have old2 : ∀ s ∈ L2, s.holds w' := fun s hs => s.stable w w' (fun b hb => hc.kept.block b (s.inb w (h.hL s (List.mem_append_right _ hs)) b hb) (fun hm => by
    obtain ⟨r, hr, hrb⟩ := hM b hm
    exact (List.pairwise_append.1 h.sep).2.2 r hr s hs b hrb hb)) (h.hL s (List.mem_append_right _ hs))
  have oldD : ∀ d ∈ D, d.holds w' := fun d hd => d.stable w w' (fun b hb => hc.kept.block b (d.inb w (h.hD d hd) b hb) (fun hm => by
    obtain ⟨r, hr, hrb⟩ := hM b hm
    exact h.sepD r (List.mem_append_left _ hr) d hd b hrb hb)) (h.hD d hd)
  refine ⟨h.kept.trans hc.kept fun b hb hm => ?_, ?_, oldD, ?_, ?_, ?_⟩
  · obtain ⟨r, hr, hrb⟩ := hM b hm
    exact (h.new r (List.mem_append_left _ hr) b hrb).resolve_left (by omega)
  · intro s hs
    rcases List.mem_append.1 hs with hs | hs
    · exact hc.hL s hs
    · exact old2 s hs
  · intro s hs b hb
    rcases List.mem_append.1 hs with hs | hs
    · rcases hc.new s hs b hb with hge | hm
      · exact .inl (Nat.le_trans h.kept.size hge)
      · obtain ⟨r, hr, hrb⟩ := hM b hm
        exact h.new r (List.mem_append_left _ hr) b hrb
    · exact h.new s (List.mem_append_right _ hs) b hb
  · refine List.pairwise_append.2 ⟨hc.sep, (List.pairwise_append.1 h.sep).2.1, fun s hs t ht b hsb htb => ?_⟩
    rcases hc.new s hs b hsb with hge | hm
    · exact absurd (t.inb w (h.hL t (List.mem_append_right _ ht)) b htb) (by omega)
    · obtain ⟨r, hr, hrb⟩ := hM b hm
      exact (List.pairwise_append.1 h.sep).2.2 r hr t ht b hrb htb
  · intro s hs d hd b hsb hdb
    rcases List.mem_append.1 hs with hs | hs
    · rcases hc.new s hs b hsb with hge | hm
      · exact absurd (d.inb w (h.hD d hd) b hdb) (by omega)
      · obtain ⟨r, hr, hrb⟩ := hM b hm
        exact h.sepD r (List.mem_append_left _ hr) d hd b hrb hdb
    · exact h.sepD s (List.mem_append_right _ hs) d hd b hsb hdb
theorem St.call0 {Lc : List Res} (h : St w0 M L D w) (hc : St w NoM Lc [] w') : St w0 M (Lc ++ L) D w' :=
  St.call (L1 := []) h hc (fun _ hf => hf.elim)
theorem Rem.mem (h : Rem r L L') : r ∈ L := by
  induction h with
  | here => exact .head _
  | there _ ih => exact .tail _ ih
theorem Rem.sub (h : Rem r L L') : ∀ s ∈ L', s ∈ L := by
  induction h with
  | here => exact fun s hs => .tail _ hs
  | there _ ih => intro s hs; cases hs with
    | head => exact .head _
    | tail _ hs => exact .tail _ (ih s hs)
theorem Rem.apart (h : Rem r L L') (hp : L.Pairwise Apart) : L'.Pairwise Apart ∧ ∀ s ∈ L', Apart r s := by
  induction h with
  | here => exact ⟨(List.pairwise_cons.1 hp).2, (List.pairwise_cons.1 hp).1⟩
  | @there s0 L L' h ih =>
    have hp' := List.pairwise_cons.1 hp
    obtain ⟨h1, h2⟩ := ih hp'.2
    refine ⟨List.pairwise_cons.2 ⟨fun s hs => hp'.1 s (h.sub s hs), h1⟩, fun s hs => ?_⟩
    cases hs with
    | head => exact (hp'.1 r h.mem).symm
    | tail _ hs => exact h2 s hs
theorem St.front (h : St w0 M L D w) (hr : Rem r L L') : St w0 M (r :: L') D w where
  kept := h.kept
  hL := fun s hs => by cases hs with
    | head => exact h.hL r hr.mem
    | tail _ hs => exact h.hL s (hr.sub s hs)
  hD := h.hD
  new := fun s hs => by cases hs with
    | head => exact h.new r hr.mem
    | tail _ hs => exact h.new s (hr.sub s hs)
  sep := List.pairwise_cons.2 ⟨(hr.apart h.sep).2, (hr.apart h.sep).1⟩
  sepD := fun s hs => by cases hs with
    | head => exact h.sepD r hr.mem
    | tail _ hs => exact h.sepD s (hr.sub s hs)
theorem St.drop (h : St w0 M L D w) (hr : Rem r L L') : St w0 M L' D w where
  kept := h.kept
  hL := fun s hs => h.hL s (hr.sub s hs)
  hD := h.hD
  new := fun s hs => h.new s (hr.sub s hs)
  sep := (hr.apart h.sep).1
  sepD := fun s hs d hd => h.sepD s (hr.sub s hs) d hd
theorem St.nil (h : St w0 M L D w) : St w0 M [] [] w := ⟨h.kept, by simp, by simp, by simp, .nil, by simp⟩
theorem St.noD (h : St w0 M L D w) : St w0 M L [] w := ⟨h.kept, h.hL, by simp, h.new, h.sep, by simp⟩
end
end Go.SK
namespace Go.SK
open Go.RowKit
structure TyF (P : Program) (T : TypeId) (d : TypeDesc) (sz bytes : Nat) (zs : List Value) : Prop where
  info : ∃ i z, P.info? T = some i ∧ i.size = sz ∧ i.bytes = bytes ∧ i.zero = some z ∧ z.cells = zs.toArray
  und : P.underlying T = some d
def aggB : TypeDesc → Bool
  | .struct _ | .array _ _ => true
  | _ => false
section
variable {P : Program} {T : TypeId} {d : TypeDesc} {sz bytes : Nat} {zs : List Value} {w : World}
theorem TyF.run_und (h : TyF P T d sz bytes zs) (w : World) : (underlying T).run P w = .ok d w := run_underlying h.und w
theorem TyF.run_size (h : TyF P T d sz bytes zs) (w : World) : (sizeOf T).run P w = .ok sz w := by
  obtain ⟨i, z, h1, h2, h3, h4, h5⟩ := h.info
  simp [sizeOf, typeInfo, h1, h2]
theorem TyF.run_zero (h : TyF P T d sz bytes zs) (w : World) : ∃ z, (zeroValue T).run P w = .ok z w ∧ z.cells = zs.toArray := by
  obtain ⟨i, z, h1, h2, h3, h4, h5⟩ := h.info
  exact ⟨z, by simp [zeroValue, typeInfo, h1, h4], h5⟩
theorem TyF.run_isAgg (h : TyF P T d sz bytes zs) (w : World) : (isAgg T).run P w = .ok (aggB d) w := by
  simp only [isAgg, Sem.run_bind, h.run_und, Result.andThen]
  cases d <;> rfl
end
theorem addr_add (b off n : Nat) : (⟨b, off, none⟩ : Addr).add n = ⟨b, off + n, none⟩ := by
  unfold Addr.add; split <;> simp_all
theorem St.cellL {w0 w : World} {M : Nat → Prop} {L D : List Res} {b : Nat} {T : TypeId} {l : List Value} {fr : Nat × Nat} {off : Nat} {v : Value} (h : St w0 M L D w)
    (hm : Res.obj b (.cells l.toArray T fr) ∈ L) (hv : l[off]? = some v) : w.cell? ⟨b, off, none⟩ = some v := by
  have := h.hL _ hm
  simp only [Res.obj] at this
  simp [World.cell?, this, hv]
theorem St.objL {w0 w : World} {M : Nat → Prop} {L D : List Res} {b : Nat} {o : Obj} (h : St w0 M L D w) (hm : Res.obj b o ∈ L) : w.heap[b]? = some o := h.hL _ hm
def Cells (w : World) (b off : Nat) (vs : List Value) : Prop := ∀ i v, vs[i]? = some v → w.cell? ⟨b, off + i, none⟩ = some v
theorem cells_of_obj {w : World} {b off n : Nat} {T : TypeId} {l : List Value} {fr : Nat × Nat} (h : w.heap[b]? = some (.cells l.toArray T fr)) (vs : List Value) (hv : (l.drop off).take n = vs) :
    Cells w b off vs := by
  subst hv
  intro i v hi
  rw [List.getElem?_take] at hi
  split at hi
  · rw [List.getElem?_drop] at hi
    simp [World.cell?, h, hi]
  · simp at hi
theorem run_loadCellsFrom {P : Program} {w : World} {b off : Nat} : ∀ (vs : List Value) (i : Nat) (acc : Array Value), (∀ j v, vs[j]? = some v → w.cell? ⟨b, off + (i + j), none⟩ = some v) →
    (loadCellsFrom ⟨b, off, none⟩ i vs.length acc).run P w = .ok (acc ++ vs.toArray) w
  | [], i, acc, h => by simp [loadCellsFrom]
  | v :: vs, i, acc, h => by
    have h0 : w.cell? ⟨b, off + i, none⟩ = some v := by simpa using h 0 v (by simp)
    have ih := run_loadCellsFrom (P := P) vs (i + 1) (acc.push v) (fun j u hj => by
      have := h (j + 1) u (by simpa using hj)
      rw [show i + 1 + j = i + (j + 1) by omega]; exact this)
    simp only [List.length_cons, loadCellsFrom, Sem.run_bind, addr_add]
    have hl : (load ⟨b, off + i, none⟩).run P w = .ok v w := by simp [load, Sem.run, h0]
    rw [hl]
    simp only [Result.andThen]
    rw [ih]
    simp
theorem run_loadCells {P : Program} {w : World} {b off : Nat} {vs : List Value} (h : Cells w b off vs) : (loadCells ⟨b, off, none⟩ vs.length).run P w = .ok vs.toArray w := by
  have := run_loadCellsFrom (P := P) (w := w) (b := b) (off := off) vs 0 #[] (fun j v hj => by simpa using h j v hj)
  simpa [loadCells] using this
theorem run_loadVar1 {P : Program} {T : TypeId} {d : TypeDesc} {sz bytes : Nat} {zs : List Value} {w : World} {a : Addr} {v : Value} (hT : TyF P T d sz bytes zs) (hd : aggB d = false) (hc : w.cell? a = some v) :
    (loadVar T a).run P w = .ok v w := by
  simp only [loadVar, Sem.run_bind, hT.run_isAgg, hd, Result.andThen]
  simp [load, Sem.run, hc]
theorem run_loadVarA {P : Program} {T : TypeId} {d : TypeDesc} {sz bytes : Nat} {zs : List Value} {w : World} {b off : Nat} {vs : List Value} (hT : TyF P T d sz bytes zs) (hd : aggB d = true)
    (hn : vs.length = sz) (hc : Cells w b off vs) : (loadVar T ⟨b, off, none⟩).run P w = .ok (.agg vs.toArray) w := by
  subst hn
  simp only [loadVar, Sem.run_bind, hT.run_isAgg, hd, Result.andThen, if_true, hT.run_size, run_loadCells hc]
  rfl
theorem RV.cellA {P : Program} {n : Nat} {f : Nat → Value} {w : World} {p : Tmp} {T : TypeId} {d : TypeDesc} {sz bytes : Nat} {zs : List Value} {b off : Nat} {vs : List Value} (hp : ev n f (.tmp p) = .pointer (some ⟨b, off, none⟩))
    (hT : TyF P T d sz bytes zs) (hd : aggB d = true) (hn : vs.length = sz) (hc : Cells w b off vs) : RV P n f w (.cell p T) (.agg vs.toArray) := by
  simp only [RV, rvSem, tm_getD, hp, Sem.run_bind]
  simp [asAddr, run_loadVarA hT hd hn hc]
def setSeg (l : List Value) (off : Nat) : List Value → List Value
  | [] => l
  | v :: vs => setSeg (l.set off v) (off + 1) vs
inductive Put : List Value → Nat → List Value → List Value → Prop
  | nil {l : List Value} {n : Nat} : Put l n [] l
  | put {x v : Value} {l vs l' : List Value} : Put l 0 vs l' → Put (x :: l) 0 (v :: vs) (v :: l')
  | skip {x : Value} {n : Nat} {l vs l' : List Value} : Put l n vs l' → Put (x :: l) (n + 1) vs (x :: l')
theorem setSeg_cons (x : Value) (l : List Value) (n : Nat) (vs : List Value) : setSeg (x :: l) (n + 1) vs = x :: setSeg l n vs := by
  induction vs generalizing l n with
  | nil => rfl
  | cons v vs ih => simp [setSeg, ih]
theorem Put.eq {l vs l' : List Value} {n : Nat} (h : Put l n vs l') : setSeg l n vs = l' ∧ (n + vs.length ≤ l.length ∨ vs = []) := by
  induction h with
  | nil => exact ⟨rfl, .inr rfl⟩
  | @put x v l vs l' h ih =>
    refine ⟨?_, ?_⟩
    · simp only [setSeg, List.set_cons_zero, Nat.zero_add]
      rw [show (1 : Nat) = 0 + 1 from rfl, setSeg_cons, ih.1]
    · left
      rcases ih.2 with h | h
      · simp at h ⊢; omega
      · subst h; simp
  | @skip x n l vs l' h ih =>
    refine ⟨by rw [setSeg_cons, ih.1], ih.2.imp (fun h => by simp; omega) id⟩
def okCell : Value → Bool
  | .agg _ | .tuple _ => false
  | _ => true
theorem setCell_row {w : World} {b off : Nat} {T : TypeId} {l : List Value} (v : Value) (h : w.heap[b]? = some (.cells l.toArray T (0, 0))) :
    (w.setCell ⟨b, off, none⟩ v).heap[b]? = some (.cells (l.set off v).toArray T (0, 0)) ∧ Kept (· = b) w (w.setCell ⟨b, off, none⟩ v) := by
  refine ⟨?_, ⟨rfl, rfl, rfl, by simp [World.setCell], fun c hc hne => ?_⟩⟩
  · simp [World.setCell, Array.getElem?_modify, h]
  · simp only [World.setCell, Array.getElem?_modify]
    rw [if_neg (fun e => hne e.symm)]
theorem run_storeCells {P : Program} {b : Nat} {T : TypeId} {off : Nat} : ∀ (vs : List Value) (i : Nat) (l : List Value) (w : World), vs.all okCell = true → off + i + vs.length ≤ l.length →
    w.heap[b]? = some (.cells l.toArray T (0, 0)) →
    ∃ w', (storeCells ⟨b, off, none⟩ vs i).run P w = .ok () w' ∧ w'.heap[b]? = some (.cells (setSeg l (off + i) vs).toArray T (0, 0)) ∧ Kept (· = b) w w'
  | [], i, l, w, _, _, h => ⟨w, by simp [storeCells], h, Kept.refl _ _⟩
  | v :: vs, i, l, w, hok, hl, h => by
    simp only [List.length_cons] at hl
    simp only [List.all_cons, Bool.and_eq_true] at hok
    obtain ⟨h1, h2⟩ := setCell_row (off := off + i) v h
    have hc : w.cell? ⟨b, off + i, none⟩ = some l[off + i] := by simp [World.cell?, h]
    have hfz : w.frozen? ⟨b, off + i, none⟩ = false := by simp [World.frozen?, h]
    obtain ⟨w', hr, hb, hk⟩ := run_storeCells (P := P) (off := off) vs (i + 1) (l.set (off + i) v) _ hok.2 (by rw [List.length_set]; omega) h1
    refine ⟨w', ?_, by simpa [setSeg, Nat.add_assoc] using hb, h2.trans hk (fun _ _ h => h)⟩
    simp only [storeCells, Sem.run_bind, addr_add]
    have hs : (store ⟨b, off + i, none⟩ v).run P w = .ok () (w.setCell ⟨b, off + i, none⟩ v) := by
      have := hok.1
      cases v <;> simp [okCell] at this <;> simp [store, Sem.run, hc, hfz]
    rw [hs]
    exact hr
theorem run_storeVar {P : Program} {T T' : TypeId} {d : TypeDesc} {sz bytes : Nat} {zs : List Value} {w : World} {b off : Nat} {l vs : List Value} {v : Value} (hT : TyF P T d sz bytes zs)
    (hv : v.cells = vs.toArray) (hn : vs.length = sz) (hok : vs.all okCell = true) (h : w.heap[b]? = some (.cells l.toArray T' (0, 0))) (hl : vs = [] ∨ off + vs.length ≤ l.length) :
    ∃ w', (storeVar T ⟨b, off, none⟩ v).run P w = .ok () w' ∧ w'.heap[b]? = some (.cells (setSeg l off vs).toArray T' (0, 0)) ∧ Kept (· = b) w w' := by
  rcases hl with rfl | hl
  · refine ⟨w, ?_, h, Kept.refl _ _⟩
    have : v.cells.size = sz := by rw [hv, ← hn]; simp
    simp only [storeVar, Sem.run_bind, hT.run_size, Result.andThen, this]
    simp [hv, storeCells]
  · obtain ⟨w', hr, hb, hk⟩ := run_storeCells (P := P) (b := b) (T := T') (off := off) vs 0 l w hok (by omega) h
    refine ⟨w', ?_, by simpa using hb, hk⟩
    have : v.cells.size = sz := by rw [hv, ← hn]; simp
    simp only [storeVar, Sem.run_bind, hT.run_size, Result.andThen, this]
    simp [hv, hr]
theorem alloc_new (w : World) (o : Obj) : (w.alloc o).heap[w.heap.size]? = some o := by
  show (w.heap.push o)[w.heap.size]? = some o
  simp
section
variable {P : Program} {ty : TypeId} {ρ : Operand → Value} {w0 w : World} {C : Value → World → Prop} {M : Nat → Prop} {L L' D : List Res}
variable {T T' : TypeId} {d : TypeDesc} {sz bytes : Nat} {zs : List Value}
theorem Op1.alloc (hst : St w0 M L D w) (hT : TyF P T d sz bytes zs) (h : ∀ (w' : World) (b : Nat), St w0 M (Res.row b T zs :: L) D w' → C (.pointer (some ⟨b, 0, none⟩)) w') : Op1 P (.alloc T) ty ρ w C := by
  obtain ⟨z, hz, hzs⟩ := hT.run_zero w
  refine Inv.value (v := .pointer (some ⟨w.heap.size, 0, none⟩)) (w' := w.alloc (.cells z.cells T)) ?_ (h _ _ ?_)
  · simp [execOp, Instr.alloc, Sem.run_bind, hz, newVar, newRow, Result.andThen]
  · refine hst.push (Kept.alloc _ _ _) ?_ ?_
    · simp only [Res.obj]; rw [alloc_new, hzs]
    · intro b hb; exact Nat.le_of_eq hb.symm
theorem Op1.box {x : Operand} {v : Value} {vs : List Value} (hst : St w0 M L D w) (hx : ρ x = v) (hv : v.cells = vs.toArray) (h : ∀ (w' : World) (b : Nat), St w0 M (Res.row b T vs :: L) D w' → C (.pointer (some ⟨b, 0, none⟩)) w') :
    Op1 P (.box T x) ty ρ w C := by
  refine Inv.value (v := .pointer (some ⟨w.heap.size, 0, none⟩)) (w' := w.alloc (.cells v.cells T)) ?_ (h _ _ ?_)
  · simp [execOp, Instr.box, hx, newVar, newRow, Result.andThen]
  · refine hst.push (Kept.alloc _ _ _) ?_ ?_
    · simp only [Res.obj]; rw [alloc_new, hv]
    · intro b hb; exact Nat.le_of_eq hb.symm
theorem Op1.load1 {x : Operand} {a : Addr} {v : Value} (hT : TyF P T d sz bytes zs) (hd : aggB d = false) (hx : ρ x = .pointer (some a)) (hc : w.cell? a = some v) (h : C v w) : Op1 P (.load T x) ty ρ w C :=
  Inv.value (by simp [execOp, Instr.loadAt, hx, Instr.sureAddr, run_loadVar1 hT hd hc]) h
theorem Op1.loadA {x : Operand} {b off : Nat} {vs : List Value} (hT : TyF P T d sz bytes zs) (hd : aggB d = true) (hx : ρ x = .pointer (some ⟨b, off, none⟩)) (hn : vs.length = sz) (hc : Cells w b off vs) (h : C (.agg vs.toArray) w) :
    Op1 P (.load T x) ty ρ w C :=
  Inv.value (by simp [execOp, Instr.loadAt, hx, Instr.sureAddr, run_loadVarA hT hd hn hc]) h
theorem Op1.store {x y : Operand} {b off : Nat} {v : Value} {l vs l' : List Value} (hst : St w0 M L D w) (hT : TyF P T d sz bytes zs) (hx : ρ x = .pointer (some ⟨b, off, none⟩)) (hy : ρ y = v) (hv : v.cells = vs.toArray)
    (hn : vs.length = sz) (hok : vs.all okCell = true) (hs : Sel (Res.row b T' l) (Res.row b T' l') L L') (hp : Put l off vs l') (h : ∀ w' : World, St w0 M L' D w' → C undef w') : Op1 P (.store T x y) ty ρ w C := by
  have hb := hst.hL _ hs.mem
  simp only [Res.obj] at hb
  obtain ⟨w', hr, hb', hk⟩ := run_storeVar (P := P) (T' := T') (off := off) (l := l) hT hv hn hok hb (hp.eq.2.symm)
  refine Inv.skip (w' := w') ?_ (h w' (hst.upd hs hk ?_ (fun c hc => .inl hc)))
  · simp [execOp, Instr.storeAt, hx, hy, Instr.sureAddr, hr]
  · simpa [Res.obj, hp.eq.1] using hb'
theorem Op1.storeAt {x y : Operand} {b off : Nat} {v : Value} {l vs : List Value} (hst : St w0 M L D w) (hT : TyF P T d sz bytes zs) (hx : ρ x = .pointer (some ⟨b, off, none⟩)) (hy : ρ y = v) (hv : v.cells = vs.toArray)
    (hn : vs.length = sz) (hok : vs.all okCell = true) (hs : Sel (Res.row b T' l) (Res.row b T' (setSeg l off vs)) L L') (hl : off + vs.length ≤ l.length) (h : ∀ w' : World, St w0 M L' D w' → C undef w') : Op1 P (.store T x y) ty ρ w C := by
  have hb := hst.hL _ hs.mem
  simp only [Res.obj] at hb
  obtain ⟨w', hr, hb', hk⟩ := run_storeVar (P := P) (T' := T') (off := off) (l := l) hT hv hn hok hb (.inr hl)
  refine Inv.skip (w' := w') ?_ (h w' (hst.upd hs hk (by simpa [Res.obj] using hb') (fun c hc => .inl hc)))
  simp [execOp, Instr.storeAt, hx, hy, Instr.sureAddr, hr]
def FldF (P : Program) (S i o : Nat) : Prop := ∃ fs fd inf, P.underlying S = some (.struct fs) ∧ fs[i]? = some fd ∧ fd.offset = o ∧ P.info? fd.type = some inf ∧ inf.size ≠ 0
theorem Op1.fieldAddr {S i o : Nat} {x : Operand} {b off : Nat} (hf : FldF P S i o) (hx : ρ x = .pointer (some ⟨b, off, none⟩)) (h : C (.pointer (some ⟨b, off + o, none⟩)) w) : Op1 P (.fieldAddr S x i) ty ρ w C := by
  obtain ⟨fs, fd, inf, h1, h2, rfl, h4, h5⟩ := hf
  refine Inv.value (v := .pointer (some ⟨b, off + fd.offset, none⟩)) (w' := w) ?_ h
  simp [execOp, Instr.fieldAt, hx, Sem.run_bind, run_underlying h1, h2, Instr.sureAddr, fieldPlace, sizeOf, typeInfo, h4, h5, addr_add, Result.andThen]
theorem Op1.indexSl {e : TypeId} {de : TypeDesc} {es eb : Nat} {ez : List Value} {x y : Operand} {b off len cap : Nat} {k : IntKind} {i : Int} (hT : TyF P T (.slice e) sz bytes zs) (he : TyF P e de es eb ez)
    (hx : ρ x = .slice (some ⟨b, off, none⟩) len cap) (hy : ρ y = .int k i) (h0 : 0 ≤ i) (h1 : i < len) (h : C (.pointer (some ⟨b, off + i.toNat * es, none⟩)) w) : Op1 P (.indexAddr T x y) ty ρ w C := by
  refine Inv.value (v := .pointer (some ⟨b, off + i.toNat * es, none⟩)) (w' := w) ?_ h
  simp [execOp, Instr.indexAt, hx, hy, asIntOf, Sem.run_bind, hT.run_und, Instr.sureAddr, he.run_size, addr_add, Result.andThen, h0, h1]
inductive Fills (ρ : Operand → Value) (place : Nat → Option (Nat × Nat)) : List Value → List (Nat × Operand) → List Value → Prop
  | nil {l : List Value} : Fills ρ place l [] l
  | cons {l vs l1 l' : List Value} {i : Nat} {x : Operand} {off size : Nat} {v : Value} {rest : List (Nat × Operand)} (hp : place i = some (off, size)) (hx : ρ x = v) (hv : v.cells = vs.toArray) (hn : vs.length = size) (hs : Nat.ble 1 size = true) (hput : Put l off vs l1)
      (h : Fills ρ place l1 rest l') : Fills ρ place l ((i, x) :: rest) l'
theorem foldl_seg : ∀ (vs : List Value) (l : List Value) (off k : Nat), (vs.zipIdx k).foldl (fun (cs : Array Value) (p : Value × Nat) => cs.setIfInBounds (off + p.2) p.1) l.toArray = (setSeg l (off + k) vs).toArray
  | [], l, off, k => rfl
  | v :: vs, l, off, k => by
    simp only [List.zipIdx_cons, List.foldl_cons, List.setIfInBounds_toArray, setSeg]
    exact foldl_seg vs _ off (k + 1)
theorem Fills.fill {place : Nat → Option (Nat × Nat)} {l l' : List Value} {parts : List (Nat × Operand)} (h : Fills ρ place l parts l') : Instr.fill place l.toArray (parts.map fun p => (p.1, ρ p.2)) = some l'.toArray := by
  induction h with
  | nil => rfl
  | @cons l vs l1 l' i x off size v rest hp hx hv hn hs hput h ih =>
    have h2 := hput.eq
    have hf : (vs.toArray.zipIdx).foldl (fun (cs : Array Value) (p : Value × Nat) => cs.setIfInBounds (off + p.2) p.1) l.toArray = l1.toArray := by
      rw [← h2.1]
      have := foldl_seg vs l off 0
      simpa [← Array.foldl_toList] using this
    simp only [List.map_cons, Instr.fill, hp, hx, hv]
    rw [if_neg]
    · rw [← ih, ← hf]
    · rcases h2.2 with h | h
      · simp; omega
      · subst h; simp at hn; subst hn; simp at hs
theorem Fills.build {place : Nat → Option (Nat × Nat)} {l l' : List Value} {parts : List (Nat × Operand)} (h : Fills ρ place l parts l') :
    Instr.fill place l.toArray (parts.toArray.map fun p => (p.1, ρ p.2)).toList = some l'.toArray := by
  have := h.fill
  simpa using this
def arrPlace (es : Nat) : Nat → Option (Nat × Nat) := fun i => some (i * es, es)
def StructF (P : Program) (S : TypeId) (pl : List (Nat × Nat)) : Prop :=
  ∃ fs : Array Field, P.underlying S = some (.struct fs) ∧ ∀ w : World, (fs.mapM fun f => do pure (f.offset, ← sizeOf f.type) : Sem (Array (Nat × Nat))).run P w = .ok pl.toArray w
theorem Op1.buildStruct {pl : List (Nat × Nat)} {parts : List (Nat × Operand)} {l' : List Value} (hT : TyF P T d sz bytes zs) (hS : StructF P T pl)
    (hf : Fills ρ (fun i => pl[i]?) zs parts l') (h : C (.agg l'.toArray) w) : Op1 P (.build T parts.toArray) ty ρ w C := by
  obtain ⟨z, hz, hzs⟩ := hT.run_zero w
  obtain ⟨fs, h1, h2⟩ := hS
  have hb := hf.build
  have hr : (Instr.build T (parts.toArray.map fun p => (p.1, ρ p.2))).run P w = .ok (.agg l'.toArray) w := by
    unfold Instr.build
    simp only [Sem.run_bind, hz, Result.andThen, run_underlying h1, hzs]
    have e := h2 w
    rw [e]
    simp only [List.getElem?_toArray]
    rw [hb]
    rfl
  refine Inv.value (v := .agg l'.toArray) (w' := w) ?_ h
  simp only [execOp, Sem.run_bind]
  rw [hr]
  rfl
end
end Go.SK
namespace Go.SK
open Go.RowKit
def str (l : List UInt8) : Value := .string ⟨l.toArray⟩
theorem str_of (s : ByteArray) : Value.string s = str s.data.toList := by cases s; simp [str]
theorem toList_data (s : ByteArray) : s.toList = s.data.toList := ByteArray.toList_eq s
section
variable {P : Program} {ty : TypeId} {ρ : Operand → Value} {w : World} {C : Value → World → Prop} {T T2 : TypeId} {x y : Operand} {k : IntKind} {a b : Int}
theorem Op1.arith {op : BinOp} {v : Value} (hx : ρ x = .int k a) (hy : ρ y = .int k b) (h0 : (op matches .eql | .neq) = false) (hr : (binOp op T (.int k a) (.int k b)).run P w = .ok v w) (h : C v w) : Op1 P (.binOp op T x y T2) ty ρ w C := by
  refine Inv.value (v := v) (w' := w) ?_ h
  simp only [execOp, hx, hy]
  cases op <;> simp at h0 <;> simp [eqGuard, hr]
theorem Op1.add (hx : ρ x = .int k a) (hy : ρ y = .int k b) (h : C (.int k (k.wrap (a + b))) w) : Op1 P (.binOp .add T x y T2) ty ρ w C :=
  Op1.arith hx hy rfl (by simp [binOp, Op.intArith]) h
theorem Op1.sub (hx : ρ x = .int k a) (hy : ρ y = .int k b) (h : C (.int k (k.wrap (a - b))) w) : Op1 P (.binOp .sub T x y T2) ty ρ w C :=
  Op1.arith hx hy rfl (by simp [binOp, Op.intArith]) h
theorem Op1.mul (hx : ρ x = .int k a) (hy : ρ y = .int k b) (h : C (.int k (k.wrap (a * b))) w) : Op1 P (.binOp .mul T x y T2) ty ρ w C :=
  Op1.arith hx hy rfl (by simp [binOp, Op.intArith]) h
theorem Op1.addN {c : Int} (hx : ρ x = .int k a) (hy : ρ y = .int k b) (hc : a + b = c) (hw : k.wrap c = c) (h : C (.int k c) w) : Op1 P (.binOp .add T x y T2) ty ρ w C :=
  Op1.arith hx hy rfl (by simp [binOp, Op.intArith, hc, hw]) h
theorem Op1.subN {c : Int} (hx : ρ x = .int k a) (hy : ρ y = .int k b) (hc : a - b = c) (hw : k.wrap c = c) (h : C (.int k c) w) : Op1 P (.binOp .sub T x y T2) ty ρ w C :=
  Op1.arith hx hy rfl (by simp [binOp, Op.intArith, hc, hw]) h
theorem Op1.mulN {c : Int} (hx : ρ x = .int k a) (hy : ρ y = .int k b) (hc : a * b = c) (hw : k.wrap c = c) (h : C (.int k c) w) : Op1 P (.binOp .mul T x y T2) ty ρ w C :=
  Op1.arith hx hy rfl (by simp [binOp, Op.intArith, hc, hw]) h
theorem Op1.quo (hx : ρ x = .int k a) (hy : ρ y = .int k b) (h0 : b ≠ 0) (h : C (.int k (k.wrap (a.tdiv b))) w) : Op1 P (.binOp .quo T x y T2) ty ρ w C :=
  Op1.arith hx hy rfl (by simp [binOp, Op.intDiv, h0]) h
theorem Op1.quoN {c : Int} (hx : ρ x = .int k a) (hy : ρ y = .int k b) (ha : 0 ≤ a) (h0 : 0 < b) (hc : a / b = c) (hw : k.wrap c = c) (h : C (.int k c) w) : Op1 P (.binOp .quo T x y T2) ty ρ w C :=
  Op1.arith hx hy rfl (by simp [binOp, Op.intDiv, show b ≠ 0 by omega, Int.tdiv_eq_ediv_of_nonneg ha, hc, hw]) h
theorem Op1.lss (hx : ρ x = .int k a) (hy : ρ y = .int k b) (h : C (.bool (decide (a < b))) w) : Op1 P (.binOp .lss T x y T2) ty ρ w C :=
  Op1.arith hx hy rfl (by simp [binOp, Op.intCmp]) h
theorem Op1.leq (hx : ρ x = .int k a) (hy : ρ y = .int k b) (h : C (.bool (decide (a ≤ b))) w) : Op1 P (.binOp .leq T x y T2) ty ρ w C :=
  Op1.arith hx hy rfl (by simp [binOp, Op.intCmp]) h
theorem Op1.gtr (hx : ρ x = .int k a) (hy : ρ y = .int k b) (h : C (.bool (decide (b < a))) w) : Op1 P (.binOp .gtr T x y T2) ty ρ w C :=
  Op1.arith hx hy rfl (by simp [binOp, Op.intCmp]) h
theorem Op1.geq (hx : ρ x = .int k a) (hy : ρ y = .int k b) (h : C (.bool (decide (b ≤ a))) w) : Op1 P (.binOp .geq T x y T2) ty ρ w C :=
  Op1.arith hx hy rfl (by simp [binOp, Op.intCmp]) h
theorem Op1.eql (hx : ρ x = .int k a) (hy : ρ y = .int k b) (h : C (.bool (decide (a = b))) w) : Op1 P (.binOp .eql T x y T2) ty ρ w C := by
  refine Inv.value (v := .bool (decide (a = b))) (w' := w) ?_ h
  simp only [execOp, hx, hy, eqGuard]
  simp [binOp, Op.intCmp]
  rfl
theorem Op1.neq (hx : ρ x = .int k a) (hy : ρ y = .int k b) (h : C (.bool (decide (a ≠ b))) w) : Op1 P (.binOp .neq T x y T2) ty ρ w C := by
  refine Inv.value (v := .bool (decide (a ≠ b))) (w' := w) ?_ h
  simp only [execOp, hx, hy, eqGuard]
  simp [binOp, Op.intCmp]
  rfl
theorem Op1.shlC {k2 : IntKind} {n : Nat} {c : Int} (hx : ρ x = .int k a) (hy : ρ y = .int k2 (n : Int)) (hn : n ≤ k.bits) (hc : k.wrap (a * 2 ^ n) = c) (h : C (.int k c) w) : Op1 P (.binOp .shl T x y T2) ty ρ w C := by
  refine Op1.of (v := .int k c) (w' := w) ?_ h
  simp only [execOp, hx, hy, eqGuard]
  have h0 : ¬ ((n : Int) < 0) := by omega
  simp [binOp, Op.shift, Nat.min_eq_left hn, hc, h0]
theorem Op1.bits {op : BinOp} {v : Value} (hx : ρ x = .int k a) (hy : ρ y = .int k b) (ho : (op matches .and | .or | .xor | .andNot) = true) (hr : (Op.intBits op k a b).run P w = .ok v w) (h : C v w) : Op1 P (.binOp op T x y T2) ty ρ w C := by
  refine Op1.of (v := v) (w' := w) ?_ h
  simp only [execOp, hx, hy]
  cases op <;> simp at ho <;> simp [eqGuard, binOp, hr]
theorem Op1.neg (hx : ρ x = .int k a) (h : C (.int k (k.wrap (0 - a))) w) : Op1 P (.unOp .neg T x) ty ρ w C :=
  Op1.of (by simp [execOp, hx, Op.unary, Op.intArith]) h
theorem Op1.negN {c : Int} (hx : ρ x = .int k a) (hc : -a = c) (hw : k.wrap c = c) (h : C (.int k c) w) : Op1 P (.unOp .neg T x) ty ρ w C :=
  Op1.of (v := .int k c) (w' := w) (by simp [execOp, hx, Op.unary, Op.intArith, hc, hw]) h
theorem Op1.conv {S D : TypeId} {k' : IntKind} {ds : TypeDesc} {sz bytes sz' bytes' : Nat} {zs zs' : List Value} (hS : TyF P S ds sz bytes zs) (hD : TyF P D (.int k') sz' bytes' zs') (hx : ρ x = .int k a) (h : C (.int k' (k'.wrap a)) w) : Op1 P (.convert S D x) ty ρ w C := by
  refine Inv.value (v := .int k' (k'.wrap a)) (w' := w) ?_ h
  simp only [execOp, hx, convert, Sem.run_bind, hS.run_und, hD.run_und, Result.andThen]
  cases ds <;> simp [Conv.intToInt]
theorem Op1.convN {S D : TypeId} {k' : IntKind} {ds : TypeDesc} {sz bytes sz' bytes' : Nat} {zs zs' : List Value} (hS : TyF P S ds sz bytes zs) (hD : TyF P D (.int k') sz' bytes' zs') (hx : ρ x = .int k a) (hw : k'.wrap a = a) (h : C (.int k' a) w) : Op1 P (.convert S D x) ty ρ w C :=
  Op1.conv hS hD hx (by rw [hw]; exact h)
theorem Op1.eqlS {s t : List UInt8} (hx : ρ x = str s) (hy : ρ y = str t) (h : C (.bool (decide (s = t))) w) : Op1 P (.binOp .eql T x y T2) ty ρ w C := by
  refine Op1.of (v := .bool (decide (s = t))) (w' := w) ?_ h
  have e : (s == t) = decide (s = t) := by by_cases h : s = t <;> simp [h]
  simp only [execOp, hx, hy, eqGuard, str]
  simp [binOp, Op.stringOp, toList_data, e]
theorem Op1.neqS {s t : List UInt8} (hx : ρ x = str s) (hy : ρ y = str t) (h : C (.bool (decide (s ≠ t))) w) : Op1 P (.binOp .neq T x y T2) ty ρ w C := by
  refine Op1.of (v := .bool (decide (s ≠ t))) (w' := w) ?_ h
  have e : (s == t) = decide (s = t) := by by_cases h : s = t <;> simp [h]
  simp only [execOp, hx, hy, eqGuard, str]
  simp [binOp, Op.stringOp, toList_data, e]
theorem Op1.addS {s t : List UInt8} (hx : ρ x = str s) (hy : ρ y = str t) (hl : s.length + t.length ≤ 9223372036854775807) (h : C (str (s ++ t)) w) : Op1 P (.binOp .add T x y T2) ty ρ w C := by
  refine Op1.of (v := str (s ++ t)) (w' := w) ?_ h
  simp only [execOp, hx, hy, eqGuard, str]
  have h1 : ¬ (((ByteArray.mk s.toArray).size + (ByteArray.mk t.toArray).size : Nat) : Int) > IntKind.i64.max := by
    simp only [ByteArray.size, List.size_toArray]
    have : IntKind.i64.max = 9223372036854775807 := by decide
    omega
  have h2 : (ByteArray.mk s.toArray) ++ (ByteArray.mk t.toArray) = ⟨(s ++ t).toArray⟩ := by
    apply ByteArray.ext
    simp [ByteArray.data_append]
  simp only [binOp, Op.stringOp, if_neg h1, h2]
  rfl
end
theorem wrap_i64 {n : Int} (h1 : -9223372036854775808 ≤ n) (h2 : n ≤ 9223372036854775807) : IntKind.i64.wrap n = n := by
  simp [IntKind.wrap, IntKind.bits, IntKind.signed]; omega
theorem wrap_u8 {n : Int} (h1 : 0 ≤ n) (h2 : n ≤ 255) : IntKind.u8.wrap n = n := by
  simp [IntKind.wrap, IntKind.bits, IntKind.signed]; omega
theorem wrap_u32 {n : Int} (h1 : 0 ≤ n) (h2 : n ≤ 4294967295) : IntKind.u32.wrap n = n := by
  simp [IntKind.wrap, IntKind.bits, IntKind.signed]; omega
theorem wrap_u64 {n : Int} (h1 : 0 ≤ n) (h2 : n ≤ 18446744073709551615) : IntKind.u64.wrap n = n := by
  simp [IntKind.wrap, IntKind.bits, IntKind.signed]; omega
def Enters (P : Program) (g : FuncId) : Prop := ∃ fn c, P.funcs[g]? = some fn ∧ (fn.name == "runtime.NumGoroutine") = false ∧ fn.body = some c
def CallV (P : Program) (fv : Value) (args : List Value) (w : World) (C : Value → World → Prop) : Prop :=
  Inv P (do let d ← Deferred.ofValue fv args.toArray; invoke d.target d.args) w C
theorem CallV.func {P : Program} {g : FuncId} {args : List Value} {cap : List Value} {w : World} {C : Value → World → Prop} (hg : Enters P g) (hc : Ret P g (args ++ cap).toArray w C) :
    CallV P (.func (.func g) #[] cap.toArray) args w C := by
  obtain ⟨fn, c, h1, h2, h3⟩ := hg
  have h2' : fn.name ≠ "runtime.NumGoroutine" := by simpa using h2
  refine Inv.enter (g := g) (args := (args ++ cap).toArray) (w' := w) ?_ hc
  simp [Deferred.ofValue, invoke, callFunc, Sem.run_bind, program, Sem.run, h1, h2', h3, Result.andThen]
section
variable {P : Program} {ty : TypeId} {ρ : Operand → Value} {w : World} {C : Value → World → Prop} {g : FuncId} {tys : Array TypeId}
theorem Op1.callV {c : Operand} {args : List Operand} {fv : Value} {vs : List Value} (hf : ρ c = fv) (ha : args.map ρ = vs) (hc : CallV P fv vs w C) : Op1 P (.call ⟨.value c, args.toArray, tys⟩) ty ρ w C := by
  subst hf; subst ha
  intro fr cs h1 h3
  refine hc fr cs h1 ?_
  rw [h3]
  simp [execOp, resolve]
theorem Op1.callF {args : List Operand} {vs : List Value} (hg : Enters P g) (hf : ρ (.func g) = .func (.func g) #[] #[]) (ha : args.map ρ = vs) (hc : Ret P g vs.toArray w C) : Op1 P (.call ⟨.value (.func g), args.toArray, tys⟩) ty ρ w C :=
  Op1.callV hf ha (CallV.func (cap := []) hg (by simpa using hc))
variable {a1 a2 a3 a4 a5 : Operand} {v1 v2 v3 v4 v5 : Value}
theorem Op1.call0 (hg : Enters P g) (hf : ρ (.func g) = .func (.func g) #[] #[]) (hc : Ret P g #[] w C) : Op1 P (.call ⟨.value (.func g), #[], tys⟩) ty ρ w C :=
  Op1.callF (args := []) hg hf rfl hc
theorem Op1.call1 (hg : Enters P g) (hf : ρ (.func g) = .func (.func g) #[] #[]) (h1 : ρ a1 = v1) (hc : Ret P g #[v1] w C) : Op1 P (.call ⟨.value (.func g), #[a1], tys⟩) ty ρ w C :=
  Op1.callF (args := [a1]) (vs := [v1]) hg hf (by simp [h1]) hc
theorem Op1.call2 (hg : Enters P g) (hf : ρ (.func g) = .func (.func g) #[] #[]) (h1 : ρ a1 = v1) (h2 : ρ a2 = v2) (hc : Ret P g #[v1, v2] w C) : Op1 P (.call ⟨.value (.func g), #[a1, a2], tys⟩) ty ρ w C :=
  Op1.callF (args := [a1, a2]) (vs := [v1, v2]) hg hf (by simp [h1, h2]) hc
theorem Op1.call3 (hg : Enters P g) (hf : ρ (.func g) = .func (.func g) #[] #[]) (h1 : ρ a1 = v1) (h2 : ρ a2 = v2) (h3 : ρ a3 = v3) (hc : Ret P g #[v1, v2, v3] w C) : Op1 P (.call ⟨.value (.func g), #[a1, a2, a3], tys⟩) ty ρ w C :=
  Op1.callF (args := [a1, a2, a3]) (vs := [v1, v2, v3]) hg hf (by simp [h1, h2, h3]) hc
theorem Op1.call5 (hg : Enters P g) (hf : ρ (.func g) = .func (.func g) #[] #[]) (h1 : ρ a1 = v1) (h2 : ρ a2 = v2) (h3 : ρ a3 = v3) (h4 : ρ a4 = v4) (h5 : ρ a5 = v5) (hc : Ret P g #[v1, v2, v3, v4, v5] w C) : Op1 P (.call ⟨.value (.func g), #[a1, a2, a3, a4, a5], tys⟩) ty ρ w C :=
  Op1.callF (args := [a1, a2, a3, a4, a5]) (vs := [v1, v2, v3, v4, v5]) hg hf (by simp [h1, h2, h3, h4, h5]) hc
theorem Op1.builtin {b : Builtin} {args : List Operand} {v : Value} {w' : World} (h : ∀ cs, (builtin b tys ty cs (args.map ρ).toArray).run P w = .ok (.value v) w') (hc : C v w') : Op1 P (.call ⟨.builtin b, args.toArray, tys⟩) ty ρ w C := by
  refine Op1.of (v := v) (w' := w') ?_ hc
  simp [execOp, resolve, invoke, Sem.run_bind, Result.andThen, h]
variable {T : TypeId} {d : TypeDesc} {sz bytes : Nat} {zs : List Value} {k : IntKind} {a b : Int}
theorem Op1.lenS {s : List UInt8} {rest : List TypeId} (hT : TyF P T .string sz bytes zs) (h1 : ρ a1 = str s) (hc : C (.int .i64 s.length) w) : Op1 P (.call ⟨.builtin .len, #[a1], (T :: rest).toArray⟩) ty ρ w C :=
  Op1.builtin (args := [a1]) (fun cs => by
    have hz : (ByteArray.mk s.toArray).size = s.length := by simp [ByteArray.size]
    simp [h1, Go.builtin, Builtin.len_, str, Sem.run_bind, hT.run_und, Result.andThen, goInt, hz]) hc
theorem Op1.lenSl {e : TypeId} {ad : Option Addr} {n c : Nat} {rest : List TypeId} (hT : TyF P T (.slice e) sz bytes zs) (h1 : ρ a1 = .slice ad n c) (hc : C (.int .i64 n) w) : Op1 P (.call ⟨.builtin .len, #[a1], (T :: rest).toArray⟩) ty ρ w C :=
  Op1.builtin (args := [a1]) (fun cs => by simp [h1, Go.builtin, Builtin.len_, Sem.run_bind, hT.run_und, Result.andThen, goInt]) hc
theorem Op1.indexS {x y : Operand} {s : List UInt8} {i : Int} (hT : TyF P T .string sz bytes zs) (hx : ρ x = str s) (hy : ρ y = .int k i) (h0 : 0 ≤ i) (h1 : i < s.length) (hc : C (.int .u8 (s.getD i.toNat 0).toNat) w) :
    Op1 P (.index T x y) ty ρ w C := by
  have hi : i.toNat < s.length := by omega
  refine Op1.of (v := .int .u8 (s.getD i.toNat 0).toNat) (w' := w) ?_ hc
  have hb : (ByteArray.mk s.toArray)[i.toNat]? = some (s.getD i.toNat 0) := by
    have hs : i.toNat < (ByteArray.mk s.toArray).size := by simpa [ByteArray.size] using hi
    rw [getElem?_pos (ByteArray.mk s.toArray) i.toNat hs]
    have : (ByteArray.mk s.toArray)[i.toNat] = s.toArray[i.toNat]'(by simpa using hi) := rfl
    rw [this]
    simp [hi]
  simp [execOp, Instr.index, hx, hy, str, asIntOf, Sem.run_bind, hT.run_und, Result.andThen, h0, hb]
theorem extract_mk (s : List UInt8) (l h : Nat) : (ByteArray.mk s.toArray).extract l h = ⟨((s.drop l).take (h - l)).toArray⟩ := by
  apply ByteArray.ext
  simp [ByteArray.data_extract]
theorem Op1.sliceFrom {x y : Operand} {s : List UInt8} {a : Int} (hT : TyF P T .string sz bytes zs) (hx : ρ x = str s) (hy : ρ y = .int k a) (h0 : 0 ≤ a) (h1 : a ≤ s.length)
    (hc : C (str (s.drop a.toNat)) w) : Op1 P (.slice T x (some y) none none) ty ρ w C := by
  refine Op1.of (v := str (s.drop a.toNat)) (w' := w) ?_ hc
  have hz : (ByteArray.mk s.toArray).size = s.length := by simp [ByteArray.size]
  simp [execOp, Instr.sliceAt, Instr.slice, Instr.sliceBounds, Instr.sliceBound, asIntOf, hx, hy, str, Sem.run_bind, hT.run_und, Result.andThen, hz, extract_mk, h0, h1]
  rw [List.take_of_length_le (by simp)]
theorem Op1.sliceTo {x y : Operand} {s : List UInt8} {a : Int} (hT : TyF P T .string sz bytes zs) (hx : ρ x = str s) (hy : ρ y = .int k a) (h0 : 0 ≤ a) (h1 : a ≤ s.length)
    (hc : C (str (s.take a.toNat)) w) : Op1 P (.slice T x none (some y) none) ty ρ w C := by
  refine Op1.of (v := str (s.take a.toNat)) (w' := w) ?_ hc
  have hz : (ByteArray.mk s.toArray).size = s.length := by simp [ByteArray.size]
  simp [execOp, Instr.sliceAt, Instr.slice, Instr.sliceBounds, Instr.sliceBound, asIntOf, hx, hy, str, Sem.run_bind, hT.run_und, Result.andThen, hz, extract_mk, h0, h1]
theorem Op1.sliceMid {x y z : Operand} {s : List UInt8} {k2 : IntKind} {a b : Int} (hT : TyF P T .string sz bytes zs) (hx : ρ x = str s) (hy : ρ y = .int k a) (hz : ρ z = .int k2 b) (h0 : 0 ≤ a) (h1 : a ≤ b) (h2 : b ≤ s.length)
    (hc : C (str ((s.drop a.toNat).take (b.toNat - a.toNat))) w) : Op1 P (.slice T x (some y) (some z) none) ty ρ w C := by
  refine Op1.of (v := str ((s.drop a.toNat).take (b.toNat - a.toNat))) (w' := w) ?_ hc
  have hs : (ByteArray.mk s.toArray).size = s.length := by simp [ByteArray.size]
  have h3 : 0 ≤ b := by omega
  have h4 : max b 0 = b := by omega
  simp [execOp, Instr.sliceAt, Instr.slice, Instr.sliceBounds, Instr.sliceBound, asIntOf, hx, hy, hz, str, Sem.run_bind, hT.run_und, Result.andThen, hs, extract_mk, h0, h1, h2, h3, h4]
theorem Op1.extract {x : Operand} {i : Nat} {vs : List Value} {v : Value} (hx : ρ x = .tuple vs.toArray) (hv : vs[i]? = some v) (hc : C v w) : Op1 P (.extract x i) ty ρ w C :=
  Op1.of (by simp [execOp, Instr.extract, hx, hv]) hc
theorem Op1.nilCheckP {x : Operand} {ad : Addr} (hx : ρ x = .pointer (some ad)) (hc : C (.pointer (some ad)) w) : Op1 P (.nilCheck x) ty ρ w C :=
  Op1.of (v := .pointer (some ad)) (w' := w) (by simp [execOp, hx]) hc
end
end Go.SK
namespace Go.SK
open Go.RowKit
theorem St.perm {w0 w : World} {M : Nat → Prop} {L L' D : List Res} (h : St w0 M L D w) (hp : L.Perm L') : St w0 M L' D w where
  kept := h.kept
  hL := fun r hr => h.hL r (hp.mem_iff.2 hr)
  hD := h.hD
  new := fun r hr => h.new r (hp.mem_iff.2 hr)
  sep := (hp.pairwise_iff (fun {a b} hab => hab.symm)).1 h.sep
  sepD := fun r hr => h.sepD r (hp.mem_iff.2 hr)
def waits (ops : Array Oper) (i j : Nat) : Bool := ((Region.before ops).getD i 0).testBit j
def dstOf (ops : Array Oper) (i : Nat) : Option Nat := (ops[i]?).bind (·.dst)
abbrev PWord := Value → List Res → Prop
abbrev Word := (Nat → Value) → Value → List Res → Prop
abbrev cw (p : PWord) : Word := fun _ => p
def mask (ops : Array Oper) (j : Nat) (f : Nat → Value) : Nat → Value := fun t => if (List.range ops.size).any (fun l => waits ops j l && dstOf ops l == some t) then f t else undef
theorem mask_eq {ops : Array Oper} {j : Nat} {f1 f2 : Nat → Value} (h : ∀ l t, waits ops j l = true → dstOf ops l = some t → f1 t = f2 t) : mask ops j f1 = mask ops j f2 := by
  funext t
  unfold mask
  by_cases hb : (List.range ops.size).any (fun l => waits ops j l && dstOf ops l == some t) = true
  · rw [if_pos hb, if_pos hb]
    obtain ⟨l, _, hl⟩ := List.any_eq_true.1 hb
    simp only [Bool.and_eq_true, beq_iff_eq] at hl
    exact h l t hl.1 hl.2
  · rw [if_neg hb, if_neg hb]
theorem mask_get {ops : Array Oper} {j l t : Nat} (f : Nat → Value) (hw : waits ops j l = true) (hd : dstOf ops l = some t) : mask ops j f t = f t := by
  unfold mask
  rw [if_pos]
  refine List.any_eq_true.2 ⟨l, List.mem_range.2 ?_, by simp [hw, hd]⟩
  simp only [dstOf] at hd
  rcases Nat.lt_or_ge l ops.size with h | h
  · exact h
  · rw [Array.getElem?_eq_none h] at hd; cases hd
abbrev det (v : Value) : PWord := fun u rs => u = v ∧ rs = []
abbrev Pend := List (Nat × Res × Res)
def pendOf (pd : Pend) (done : Array Bool) : List Res := pd.map fun p => if done[p.1]? = some true then p.2.2 else p.2.1
abbrev Takes := List (Nat × Nat)
def takenBy (tk : Takes) (done : Array Bool) (j : Nat) : Bool := tk.any fun p => Nat.beq p.1 j && (done[p.2]? == some true)
def liveR (tk : Takes) (done : Array Bool) (R : Nat → List Res) (j : Nat) : List Res := if takenBy tk done j = true then [] else R j
def finR (tk : Takes) (R : Nat → List Res) (j : Nat) : List Res := if (tk.any fun p => Nat.beq p.1 j) = true then [] else R j
def tkFree (tk : Takes) (j i : Nat) : Bool := tk.all fun p => !(Nat.beq p.1 j) || Nat.beq p.2 i
structure Turn (pd : Pend) (tk : Takes) (i : Nat) (L' L'' : List Res) : Prop where
  own : ∀ r r', (i, r, r') ∈ pd → (∀ p ∈ tk, p.2 ≠ i) → Sel r r' L' L''
  same : (∀ p ∈ pd, p.1 ≠ i) → (∀ p ∈ tk, p.2 ≠ i) → L'' = L'
structure TkOk (tk : Takes) (pd : Pend) (ops : Array Oper) (m : Nat) : Prop where
  waits : ∀ p ∈ tk, waits ops p.2 p.1 = true
  src : ∀ p ∈ tk, ∀ q ∈ tk, p.1 = q.1 → p = q
  dst : ∀ p ∈ tk, ∀ q ∈ tk, p.2 = q.2 → p = q
  pend : ∀ p ∈ tk, ∀ q ∈ pd, q.1 ≠ p.2
  lt : ∀ p ∈ tk, p.1 < m ∧ p.2 < m
theorem takenBy_iff {tk : Takes} {done : Array Bool} {j : Nat} : takenBy tk done j = true ↔ ∃ p ∈ tk, p.1 = j ∧ done[p.2]? = some true := by
  unfold takenBy
  rw [List.any_eq_true]
  constructor
  · rintro ⟨p, hp, h⟩
    simp only [Bool.and_eq_true, beq_iff_eq] at h
    exact ⟨p, hp, Nat.eq_of_beq_eq_true h.1, h.2⟩
  · rintro ⟨p, hp, rfl, h⟩
    exact ⟨p, hp, by simp [h]⟩
theorem tkFree_spec {tk : Takes} {j i : Nat} (h : tkFree tk j i = true) : ∀ p ∈ tk, p.1 = j → p.2 = i := fun p hp e => by
  have := List.all_eq_true.1 h p hp
  simp only [Bool.or_eq_true, Bool.not_eq_true'] at this
  rcases this with h1 | h1
  · rw [e, Nat.beq_refl] at h1; cases h1
  · exact Nat.eq_of_beq_eq_true h1
theorem liveR_live {tk : Takes} {done : Array Bool} {R : Nat → List Res} {j : Nat} (h : ∀ p ∈ tk, p.1 = j → done[p.2]? ≠ some true) : liveR tk done R j = R j := by
  unfold liveR
  rw [if_neg]
  intro ht
  obtain ⟨p, hp, e, hd⟩ := takenBy_iff.1 ht
  exact h p hp e hd
theorem liveR_gone {tk : Takes} {done : Array Bool} {R : Nat → List Res} {j : Nat} {p : Nat × Nat} (hp : p ∈ tk) (e : p.1 = j) (hd : done[p.2]? = some true) : liveR tk done R j = [] := by
  unfold liveR; rw [if_pos (takenBy_iff.2 ⟨p, hp, e, hd⟩)]
theorem done_set {done : Array Bool} {i j : Nat} (hi : i < done.size) : (done.setIfInBounds i true)[j]? = some true ↔ j = i ∨ done[j]? = some true := by
  by_cases hj : j = i
  · subst hj; simp [hi]
  · rw [Array.getElem?_setIfInBounds_ne (Ne.symm hj)]; simp [hj]
theorem liveR_same {tk : Takes} {done : Array Bool} {R : Nat → List Res} {i : Nat} (hi : i < done.size) (hn : ∀ p ∈ tk, p.2 ≠ i) : liveR tk (done.setIfInBounds i true) R = liveR tk done R := by
  funext j
  unfold liveR
  have : takenBy tk (done.setIfInBounds i true) j = takenBy tk done j := by
    rw [Bool.eq_iff_iff, takenBy_iff, takenBy_iff]
    constructor
    · rintro ⟨p, hp, e, h⟩
      rcases (done_set hi).1 h with h | h
      · exact absurd h (hn p hp)
      · exact ⟨p, hp, e, h⟩
    · rintro ⟨p, hp, e, h⟩
      exact ⟨p, hp, e, (done_set hi).2 (.inr h)⟩
  rw [this]
theorem flat_take {f g : Nat → List Res} {j : Nat} (hg : g j = []) (hfg : ∀ x, x ≠ j → g x = f x) : ∀ (l : List Nat), l.Nodup → j ∈ l → (l.flatMap f).Perm (f j ++ l.flatMap g)
  | [], _, h => by cases h
  | a :: l, hn, h => by
    rw [List.nodup_cons] at hn
    rw [List.flatMap_cons, List.flatMap_cons]
    by_cases e : a = j
    · subst e
      rw [hg, List.nil_append]
      have : l.flatMap g = l.flatMap f := by
        simp only [List.flatMap]
        congr 1
        exact List.map_congr_left fun x hx => hfg x fun e => hn.1 (e ▸ hx)
      rw [this]
    · have hj : j ∈ l := by
        cases h with
        | head => exact absurd rfl e
        | tail _ h => exact h
      rw [hfg a e]
      have := flat_take hg hfg l hn.2 hj
      exact (List.Perm.append_left _ this).trans (by rw [← List.append_assoc, ← List.append_assoc]; exact List.Perm.append_right _ List.perm_append_comm)
theorem Sel.left {r r' : Res} {L L' : List Res} (h : Sel r r' L L') : ∀ A : List Res, Sel r r' (A ++ L) (A ++ L')
  | [] => h
  | _ :: A => .there (h.left A)
theorem Sel.right {r r' : Res} {L L' : List Res} (h : Sel r r' L L') (B : List Res) : Sel r r' (L ++ B) (L' ++ B) := by
  induction h with
  | here => exact .here
  | there _ ih => exact .there ih
theorem pendOf_set {pd : Pend} {tk : Takes} {done : Array Bool} {i : Nat} (hi : done[i]? = some false) (hn : (pd.map (·.1)).Nodup) (A A2 : List Res) (hA : (∀ p ∈ tk, p.2 ≠ i) → A2 = A) : Turn pd tk i (A ++ pendOf pd done) (A2 ++ pendOf pd (done.setIfInBounds i true)) := by
  have hlt : i < done.size := (Array.getElem?_eq_some_iff.1 hi).1
  have hget : ∀ j : Nat, j ≠ i → (done.setIfInBounds i true)[j]? = done[j]? := fun j hj => by simp [Array.getElem?_setIfInBounds, Ne.symm hj]
  have hsame : ∀ pd : Pend, (∀ p ∈ pd, p.1 ≠ i) → pendOf pd (done.setIfInBounds i true) = pendOf pd done := fun pd hp => by
    apply List.map_congr_left
    intro p hp'
    rw [hget _ (hp p hp')]
  refine ⟨fun r r' hm ht => ?_, fun hp ht => by rw [hsame pd hp, hA ht]⟩
  rw [hA ht]
  clear hA
  refine Sel.left ?_ A
  induction pd with
  | nil => cases hm
  | cons p pd ih =>
    rw [List.map_cons, List.nodup_cons] at hn
    simp only [pendOf, List.map_cons]
    cases hm with
    | head =>
      have hrest := hsame pd (fun q hq e => hn.1 (List.mem_map.2 ⟨q, hq, e⟩))
      simp only [pendOf] at hrest
      rw [hrest]
      simp only [hi, Array.getElem?_setIfInBounds_self_of_lt hlt]
      exact .here
    | tail _ hm =>
      have hne : p.1 ≠ i := fun e => hn.1 (List.mem_map.2 ⟨_, hm, e.symm⟩)
      rw [hget _ hne]
      exact .there (ih hn.2 hm)
structure Ctx (tk : Takes) (pd : Pend) (ops : Array Oper) (f : Nat → Value) (w0 : World) (M : Nat → Prop) (L D : List Res) (φ : Nat → Word) (i : Nat) (f' : Nat → Value) (L' L'' : List Res) (w' : World) : Prop where
  st : St w0 M (L' ++ L) D w'
  turn : Turn pd tk i L' L''
  slot : ∀ t, (∀ j, j < ops.size → dstOf ops j = some t → j = i ∨ waits ops j i = true) → f' t = f t
  dep : ∀ j t, waits ops i j = true → dstOf ops j = some t → ∃ rs, φ j (mask ops j f') (f' t) rs ∧ (tkFree tk j i = true → ∀ r ∈ rs, r ∈ L')
  took : ∀ j t, (j, i) ∈ tk → dstOf ops j = some t → ∃ rs, φ j (mask ops j f') (f' t) rs ∧ L'.Perm (rs ++ L'')
  later : ∀ p ∈ pd, waits ops p.1 i = true → p.2.1 ∈ L'
def Valid (tk : Takes) (pd : Pend) (P : Program) (n : Nat) (ops : Array Oper) (f : Nat → Value) (w0 : World) (M : Nat → Prop) (L D : List Res) (φ : Nat → Word) (i : Nat) : Prop :=
  ∀ o, ops[i]? = some o → ∀ f' L' L'' w', Ctx tk pd ops f w0 M L D φ i f' L' L'' w' →
    (Region.wanted o (yielded ops (tm n f')) = true ∧ isDefer o.op = false ∧
      Op1 P o.op o.type (ev n f') w' (fun v w'' => ∃ rs, φ i (mask ops i f') v rs ∧ St w0 M (rs ++ (L'' ++ L)) D w'')) ∨
    (Region.wanted o (yielded ops (tm n f')) = false ∧ φ i (mask ops i f') undef [] ∧ L'' = L')
structure Mid (tk : Takes) (pd : Pend) (ops : Array Oper) (f : Nat → Value) (w0 : World) (M : Nat → Prop) (L D : List Res) (φ : Nat → Word) (order : List Nat) (R : Nat → List Res) (done : Array Bool) (f' : Nat → Value) (w' : World) : Prop where
  st : St w0 M ((order.flatMap (liveR tk done R) ++ pendOf pd done) ++ L) D w'
  size : done.size = ops.size
  ord : ∀ j, j ∈ order ↔ done[j]? = some true
  nodup : order.Nodup
  down : ∀ i j, done[i]? = some true → waits ops i j = true → done[j]? = some true
  slot : ∀ t, (∀ j, dstOf ops j = some t → done[j]? ≠ some true) → f' t = f t
  dep : ∀ j t, done[j]? = some true → dstOf ops j = some t → φ j (mask ops j f') (f' t) (R j)
  res : ∀ j, done[j]? = some true → ∃ v, φ j (mask ops j f') v (R j)
def DstOnce (ops : Array Oper) : Prop := ∀ i j t, dstOf ops i = some t → dstOf ops j = some t → i = j
def EdgesOk (ops : Array Oper) : Prop := ∀ i j o, ops[i]? = some o → waits ops i j = true → ∃ e ∈ o.after, Region.binds .any e = true ∧ (e.on = j ∨ waits ops e.on j = true)
variable {P : Program} {b : Base} {k : List Item} {E : Frame → World → Prop} {ops : Array Oper} {f : Nat → Value} {w0 w : World} {M : Nat → Prop} {L D : List Res} {φ : Nat → Word} {pd : Pend} {tk : Takes}
theorem Mid.step {order : List Nat} {R : Nat → List Res} {done : Array Bool} {f' : Nat → Value} {w' w'' : World} {i : Nat} {v : Value} {rs : List Res} {o : Oper}
    (hone : DstOnce ops) (h : Mid tk pd ops f w0 M L D φ order R done f' w') (hi : done[i]? = some false) (ho : ops[i]? = some o) (hr : ∀ j, waits ops i j = true → done[j]? = some true)
    (htk : ∀ p ∈ tk, waits ops p.2 p.1 = true) (hv : φ i (mask ops i f') v rs) (hst : St w0 M (rs ++ ((order.flatMap (liveR tk (done.setIfInBounds i true) R) ++ pendOf pd (done.setIfInBounds i true)) ++ L)) D w'') :
    Mid tk pd ops f w0 M L D φ (i :: order) (fun j => if j = i then rs else R j) (done.setIfInBounds i true) (putF f' o.dst v) w'' := by
  have hlt : i < done.size := (Array.getElem?_eq_some_iff.1 hi).1
  have hni : i ∉ order := fun hm => by rw [(h.ord i).1 hm] at hi; simp at hi
  have hget : ∀ j : Nat, (done.setIfInBounds i true)[j]? = if j = i then some true else done[j]? := by
    intro j
    by_cases hj : j = i
    · subst hj; simp [hlt]
    · simp [Array.getElem?_setIfInBounds, hj, Ne.symm hj]
  have hd : dstOf ops i = o.dst := by simp [dstOf, ho]
  have hmask : ∀ j, (∀ l, waits ops j l = true → done[l]? = some true) → mask ops j (putF f' o.dst v) = mask ops j f' := fun j hj => mask_eq fun l t hw hl => by
    cases hdst : o.dst with
    | none => rfl
    | some d =>
      have : t ≠ d := fun e => by
        have hli : l = i := hone l i t hl (by rw [hd, hdst, e])
        rw [hli] at hw
        have := hj i hw
        rw [hi] at this; simp at this
      exact upd_ne _ _ this
  refine ⟨?_, by simpa using h.size, ?_, ?_, ?_, ?_, ?_, fun j hj => ?_⟩
  · have e : (i :: order).flatMap (liveR tk (done.setIfInBounds i true) (fun j => if j = i then rs else R j)) = rs ++ order.flatMap (liveR tk (done.setIfInBounds i true) R) := by
      have e1 : liveR tk (done.setIfInBounds i true) (fun j => if j = i then rs else R j) i = rs := by
        rw [liveR_live]
        · simp
        · intro p hp e hd
          rcases (done_set hlt).1 hd with h1 | h1
          · have h2 := htk p hp
            rw [e, h1] at h2
            have := hr i h2
            rw [hi] at this; simp at this
          · have h2 := htk p hp
            rw [e] at h2
            have := h.down p.2 i h1 h2
            rw [hi] at this; simp at this
      rw [List.flatMap_cons, e1]
      congr 1
      simp only [List.flatMap]
      congr 1
      apply List.map_congr_left
      intro j hj
      unfold liveR
      dsimp only
      rw [if_neg (fun (e : j = i) => hni (e ▸ hj))]
    rw [e, List.append_assoc rs, List.append_assoc rs]
    exact hst
  · intro j
    rw [hget, List.mem_cons, h.ord]
    by_cases hj : j = i <;> simp [hj]
  · exact List.nodup_cons.2 ⟨hni, h.nodup⟩
  · intro i' j hi' hw
    rw [hget] at hi' ⊢
    by_cases hj : j = i
    · simp [hj]
    · rw [if_neg hj]
      by_cases he : i' = i
      · subst he; exact hr j hw
      · rw [if_neg he] at hi'; exact h.down i' j hi' hw
  · intro t ht
    have hne : o.dst ≠ some t := fun e => ht i (hd.trans e) (by rw [hget]; simp)
    have : putF f' o.dst v t = f' t := by
      cases hdst : o.dst with
      | none => rfl
      | some d =>
        have : t ≠ d := fun e => hne (by rw [hdst, e])
        exact upd_ne _ _ this
    rw [this]
    refine h.slot t fun j hj hdone => ht j hj ?_
    rw [hget]; split
    · rfl
    · exact hdone
  · intro j t hj hdt
    rw [hget] at hj
    by_cases he : j = i
    · subst he
      rw [hd] at hdt
      have hm := hmask j hr
      simp only [hdt] at hm ⊢
      rw [hm]
      simp only [if_true, putF, upd_same]
      exact hv
    · rw [if_neg he] at hj
      have : putF f' o.dst v t = f' t := by
        cases hdst : o.dst with
        | none => rfl
        | some d =>
          have : t ≠ d := fun e => he (hone j i t hdt (by rw [hd, hdst, e]))
          exact upd_ne _ _ this
      rw [this, hmask j (fun l hw => h.down j l hj hw)]
      simp only [if_neg he]
      exact h.dep j t hj hdt
  · rw [hget] at hj
    by_cases he : j = i
    · subst he; exact ⟨v, by rw [hmask j hr]; simpa using hv⟩
    · rw [if_neg he] at hj
      simp only [if_neg he]
      rw [hmask j (fun l hw => h.down j l hj hw)]
      exact h.res j hj
theorem mem_ready {done : Array Bool} {i : Nat} (h : i ∈ Region.ready .any ops done) (hs : done.size = ops.size) :
    ∃ o, ops[i]? = some o ∧ done[i]? = some false ∧ ∀ e ∈ o.after, Region.binds .any e = true → done[e.on]? = some true := by
  simp only [Region.ready, List.mem_filter, List.mem_range, Bool.and_eq_true, Bool.not_eq_true'] at h
  obtain ⟨hlt, hnd, hall⟩ := h
  have hi : i < ops.size := hlt
  refine ⟨ops[i], by simp [hi], ?_, ?_⟩
  · have hd : i < done.size := by omega
    simp [hd] at hnd ⊢
    exact hnd
  · simp only [hi, getElem?_pos, Option.map_some, Option.getD_some, Array.all_eq_true, Bool.or_eq_true, Bool.not_eq_true'] at hall
    intro e he hb
    obtain ⟨m, hm, rfl⟩ := Array.mem_iff_getElem.1 he
    have := hall m hm
    rw [hb] at this
    simp at this
    by_cases hlt2 : ops[i].after[m].on < done.size
    · simp [hlt2] at this ⊢; exact this
    · simp [hlt2] at this
theorem ready_ne_nil {done : Array Bool} {order : List Nat} {R : Nat → List Res} {f' : Nat → Value} {w' : World} (h : Mid tk pd ops f w0 M L D φ order R done f' w')
    (hlow : ∀ i o, ops[i]? = some o → ∀ e ∈ o.after, Region.binds .any e = true → e.on < i) (hr : Region.ready .any ops done = []) : ∀ i, i < ops.size → done[i]? = some true := by
  intro i
  induction i using Nat.strongRecOn with
  | _ i ih =>
    intro hi
    by_cases hd : done[i]? = some true
    · exact hd
    · exfalso
      have hsz : i < done.size := by rw [h.size]; exact hi
      have hf : done[i] = false := by
        cases hc : done[i] with
        | false => rfl
        | true => exact absurd (by simp [hsz, hc]) hd
      have : i ∈ Region.ready .any ops done := by
        simp only [Region.ready, List.mem_filter, List.mem_range, Bool.and_eq_true, Bool.not_eq_true']
        refine ⟨hi, by simp [hsz, hf], ?_⟩
        simp only [hi, getElem?_pos, Option.map_some, Option.getD_some, Array.all_eq_true, Bool.or_eq_true, Bool.not_eq_true']
        intro m hm
        cases hb : Region.binds .any ops[i].after[m] with
        | false => exact .inl rfl
        | true =>
          right
          have hlt := hlow i ops[i] (by simp [hi]) ops[i].after[m] (Array.getElem_mem hm) hb
          have := ih _ hlt (by omega)
          have h2 : ops[i].after[m].on < done.size := by rw [h.size]; omega
          simp [h2] at this ⊢
          exact this
      rw [hr] at this
      cases this
theorem waits_below (hedges : EdgesOk ops) (hlow : ∀ i o, ops[i]? = some o → ∀ e ∈ o.after, Region.binds .any e = true → e.on < i) : ∀ i, ∀ j o, ops[i]? = some o → waits ops i j = true → j < i := by
  intro i
  induction i using Nat.strongRecOn with
  | _ i ih =>
    intro j o ho hw
    obtain ⟨e, he, hb, hor⟩ := hedges i j o ho hw
    have hlt := hlow i o ho e he hb
    rcases hor with rfl | hor
    · exact hlt
    · have hi : i < ops.size := (Array.getElem?_eq_some_iff.1 ho).1
      have := ih _ hlt j ops[e.on] (by simp [show e.on < ops.size by omega]) hor
      omega
def Pre (ops : Array Oper) (i : Nat) (done : Array Bool) : Prop := done.size = ops.size ∧ ∀ j, done[j]? = some true ↔ j < i
theorem go_tail (hedges : EdgesOk ops) (hlow : ∀ i o, ops[i]? = some o → ∀ e ∈ o.after, Region.binds .any e = true → e.on < i) {m : Nat} (htail : ∀ i, m ≤ i → i < ops.size → ∀ j, j < i → waits ops i j = true) :
    ∀ (fuel t i : Nat) (done : Array Bool), m ≤ i → i + fuel = ops.size → Pre ops i done → Region.linearise.go .any ops fuel t done [] = List.range' i fuel := by
  intro fuel
  induction fuel with
  | zero => intro t i done _ _ _; simp [Region.linearise.go]
  | succ fuel ih =>
    intro t i done hm hn hp
    have hi : i < ops.size := by omega
    have hready : Region.ready .any ops done = [i] := by
      have key : ∀ j, j < ops.size → ((!done.getD j true && ((ops[j]?).map (·.after.all fun e => !Region.binds .any e || done.getD e.on false)).getD false) = true ↔ j = i) := by
        intro j hj
        have hjd : j < done.size := by rw [hp.1]; exact hj
        constructor
        · intro h
          have hr : j ∈ Region.ready .any ops done := List.mem_filter.2 ⟨List.mem_range.2 hj, h⟩
          obtain ⟨o, ho, hnd, hdeps⟩ := mem_ready hr hp.1
          have hge : ¬ j < i := fun hlt => by rw [(hp.2 j).2 hlt] at hnd; simp at hnd
          rcases Nat.lt_or_ge i j with hij | hij
          · exfalso
            have hw := htail j (by omega) hj i hij
            have : ∀ n j, j = n → ∀ o, ops[j]? = some o → (∀ e ∈ o.after, Region.binds .any e = true → done[e.on]? = some true) → ∀ l, waits ops j l = true → done[l]? = some true := by
              intro n j _ o ho hdeps l hw
              obtain ⟨e, he, hb, hor⟩ := hedges j l o ho hw
              have h1 := hdeps e he hb
              rcases hor with rfl | hor
              · exact h1
              · have h2 := (hp.2 e.on).1 h1
                have h3 : e.on < ops.size := by omega
                have h4 := waits_below hedges hlow e.on l ops[e.on] (by simp [h3]) hor
                exact (hp.2 l).2 (by omega)
            have := (hp.2 i).1 (this j j rfl o ho hdeps i hw)
            omega
          · omega
        · rintro rfl
          have hnd : done[j]? ≠ some true := fun h => by have := (hp.2 j).1 h; omega
          have hd : done[j] = false := by
            cases hc : done[j] with
            | false => rfl
            | true => exact absurd (by simp [hjd, hc]) hnd
          simp only [Bool.and_eq_true, Bool.not_eq_true']
          refine ⟨by simp [hjd, hd], ?_⟩
          simp only [hj, getElem?_pos, Option.map_some, Option.getD_some, Array.all_eq_true, Bool.or_eq_true, Bool.not_eq_true']
          intro x hx
          cases hb : Region.binds .any ops[j].after[x] with
          | false => exact .inl rfl
          | true =>
            right
            have hlt := hlow j ops[j] (by simp [hj]) ops[j].after[x] (Array.getElem_mem hx) hb
            have := (hp.2 _).2 hlt
            have h2 : ops[j].after[x].on < done.size := by rw [hp.1]; omega
            simp [h2] at this ⊢
            exact this
      have : Region.ready .any ops done = (List.range ops.size).filter (fun j => decide (j = i)) := by
        apply List.filter_congr
        intro j hj
        have := key j (List.mem_range.1 hj)
        by_cases hji : j = i
        · rw [this.2 hji]; simp [hji]
        · simp only [hji, decide_false]
          cases hc : (!done.getD j true && ((ops[j]?).map (·.after.all fun e => !Region.binds .any e || done.getD e.on false)).getD false) with
          | false => rfl
          | true => exact absurd (this.1 hc) hji
      rw [this]
      have e : List.range ops.size = List.range i ++ (i :: List.range' (i + 1) (ops.size - (i + 1))) := by
        rw [List.range_eq_range', List.range_eq_range', ← List.range'_succ]
        have := List.range'_append (s := 0) (m := i) (n := ops.size - (i + 1) + 1) (step := 1)
        rw [Nat.one_mul, Nat.zero_add] at this
        rw [this]
        congr 1
        omega
      rw [e, List.filter_append]
      have e1 : (List.range i).filter (fun j => decide (j = i)) = [] := by
        rw [List.filter_eq_nil_iff]
        intro j hj; have := List.mem_range.1 hj; simp; omega
      have e2 : (List.range' (i + 1) (ops.size - (i + 1))).filter (fun j => decide (j = i)) = [] := by
        rw [List.filter_eq_nil_iff]
        intro j hj; have := List.mem_range'_1.1 hj; simp; omega
      simp [e1, e2]
    simp only [Region.linearise.go]
    change (match (Region.ready .any ops done)[t % (Region.ready .any ops done).length]? with
      | some i => Region.linearise.go .any ops fuel (t / (Region.ready .any ops done).length) (done.setIfInBounds i true) [i]
      | none => [].reverse) = _
    rw [hready]
    simp only [List.length_cons, List.length_nil, Nat.zero_add, Nat.mod_one, List.getElem?_cons_zero]
    rw [linearise_go_acc, List.reverse_singleton, List.singleton_append, List.range'_succ]
    congr 1
    refine ih _ (i + 1) _ (by omega) (by omega) ⟨by simpa using hp.1, fun j => ?_⟩
    have hid : i < done.size := by rw [hp.1]; exact hi
    by_cases hj : j = i
    · subst hj; simp [hid]
    · rw [Array.getElem?_setIfInBounds_ne (Ne.symm hj), hp.2]
      omega
theorem run_linear (hone : DstOnce ops) (hedges : EdgesOk ops) (hlow : ∀ i o, ops[i]? = some o → ∀ e ∈ o.after, Region.binds .any e = true → e.on < i) {m : Nat} (hmn : m ≤ ops.size)
    (htail : ∀ i, m ≤ i → i < ops.size → ∀ j, j < i → waits ops i j = true)
    (hpn : (pd.map (·.1)).Nodup) (hpm : ∀ p ∈ pd, p.1 < m) (htk : TkOk tk pd ops m)
    (hval : ∀ i, i < m → Valid tk pd P b.n ops f w0 M L D φ i)
    (hend : ∀ f' w' R, (∀ t, (∀ j, j < m → dstOf ops j ≠ some t) → f' t = f t) → (∀ j t, j < m → dstOf ops j = some t → φ j (mask ops j f') (f' t) (R j)) → (∀ j, j < m → ∃ v, φ j (mask ops j f') v (R j)) → St w0 M (((List.range m).flatMap (finR tk R) ++ pd.map (·.2.2)) ++ L) D w' →
      Run P b (.inRegion ops (List.range' m (ops.size - m)) :: k) f' w' E) :
    ∀ (fuel t : Nat) (done : Array Bool) (order : List Nat) (R : Nat → List Res) (f' : Nat → Value) (w' : World), order.length + fuel = ops.size → (∀ j ∈ order, j < m) → Mid tk pd ops f w0 M L D φ order R done f' w' →
      Run P b (.inRegion ops (Region.linearise.go .any ops fuel t done []) :: k) f' w' E := by
  intro fuel
  have fin : ∀ (done : Array Bool) (order : List Nat) (R : Nat → List Res) (f' : Nat → Value) (w' : World), (∀ j ∈ order, j < m) → Mid tk pd ops f w0 M L D φ order R done f' w' → (∀ i, i < m → done[i]? = some true) →
      Run P b (.inRegion ops (List.range' m (ops.size - m)) :: k) f' w' E := by
    intro done order R f' w' hord h hall
    refine hend f' w' R ?_ ?_ (fun j hj => h.res j (hall j hj)) ?_
    · refine fun t ht => h.slot t fun j hj hdone => ?_
      exact ht j (hord j ((h.ord j).2 hdone)) hj
    · exact fun j t hj hjt => h.dep j t (hall j hj) hjt
    · have hp : order.Perm (List.range m) := by
        refine (List.perm_ext_iff_of_nodup h.nodup List.nodup_range).2 fun j => ?_
        rw [h.ord, List.mem_range]
        exact ⟨fun hj => hord j ((h.ord j).2 hj), hall j⟩
      have hpe : pendOf pd done = pd.map (·.2.2) := by
        apply List.map_congr_left
        intro p hp'
        rw [if_pos (hall _ (hpm p hp'))]
      have hlv : liveR tk done R = finR tk R := by
        funext j
        unfold liveR finR
        have : takenBy tk done j = tk.any fun p => Nat.beq p.1 j := by
          rw [Bool.eq_iff_iff, takenBy_iff, List.any_eq_true]
          constructor
          · rintro ⟨p, hp, rfl, _⟩; exact ⟨p, hp, by simp⟩
          · rintro ⟨p, hp, h1⟩; exact ⟨p, hp, Nat.eq_of_beq_eq_true h1, hall _ (htk.lt p hp).2⟩
        rw [this]
      have hst := h.st
      rw [hpe, hlv] at hst
      exact hst.perm (((hp.flatMap_right (finR tk R)).append_right _).append_right L)
  induction fuel with
  | zero =>
    intro t done order R f' w' hl hord h
    have hsub : ∀ j ∈ order, j < ops.size := fun j hj => by have := hord j hj; omega
    have hlen : order.length = ops.size := by omega
    have hp : ((List.range ops.size).filter (fun j => decide (j ∈ order))).Perm order := by
      refine (List.perm_ext_iff_of_nodup (List.nodup_range.filter _) h.nodup).2 fun j => ?_
      simp only [List.mem_filter, List.mem_range, decide_eq_true_eq]
      exact ⟨fun h => h.2, fun h => ⟨hsub j h, h⟩⟩
    have hl2 : ((List.range ops.size).filter (fun j => decide (j ∈ order))).length = (List.range ops.size).length := by
      rw [hp.length_eq, hlen, List.length_range]
    have hall : ∀ i, i < ops.size → i ∈ order := fun i hi => by
      have := (List.length_filter_eq_length_iff).1 hl2 i (List.mem_range.2 hi)
      simpa using this
    have hmeq : m = ops.size := by
      rcases Nat.lt_or_ge m ops.size with hlt | hge
      · have := hord m (hall m hlt); omega
      · omega
    have := fin done order R f' w' hord h (fun i hi => (h.ord i).1 (hall i (by omega)))
    rw [hmeq, Nat.sub_self] at this
    simpa [Region.linearise.go] using this
  | succ fuel ih =>
    intro t done order R f' w' hl hord h
    by_cases hall : ∀ i, i < m → done[i]? = some true
    · have hlen : order.length = m := by
        have hp : order.Perm (List.range m) := by
          refine (List.perm_ext_iff_of_nodup h.nodup List.nodup_range).2 fun j => ?_
          rw [h.ord, List.mem_range]
          exact ⟨fun hj => hord j ((h.ord j).2 hj), hall j⟩
        simpa using hp.length_eq
      have hpre : Pre ops m done := ⟨h.size, fun j => ⟨fun hj => hord j ((h.ord j).2 hj), hall j⟩⟩
      rw [go_tail hedges hlow htail (fuel + 1) t m done (Nat.le_refl _) (by omega) hpre]
      have := fin done order R f' w' hord h hall
      rwa [show ops.size - m = fuel + 1 by omega] at this
    · simp only [Region.linearise.go]
      change Run P b (.inRegion ops (match (Region.ready .any ops done)[t % (Region.ready .any ops done).length]? with
        | some i => Region.linearise.go .any ops fuel (t / (Region.ready .any ops done).length) (done.setIfInBounds i true) [i]
        | none => [].reverse) :: k) f' w' E
      cases hi : (Region.ready .any ops done)[t % (Region.ready .any ops done).length]? with
      | none =>
        have hnil : Region.ready .any ops done = [] := by
          cases hr : Region.ready .any ops done with
          | nil => rfl
          | cons x xs =>
            rw [hr] at hi
            have hlt : t % (x :: xs).length < (x :: xs).length := Nat.mod_lt _ (by simp)
            simp at hi
            simp at hlt
            omega
        exact absurd (fun i hi => ready_ne_nil h hlow hnil i (by omega)) hall
      | some i =>
        simp only []
        rw [linearise_go_acc, List.reverse_singleton, List.singleton_append]
        obtain ⟨o, ho, hnd, hdeps⟩ := mem_ready (List.mem_of_getElem? hi) h.size
        have hwait : ∀ j, waits ops i j = true → done[j]? = some true := fun j hw => by
          obtain ⟨e, he, hb, h1⟩ := hedges i j o ho hw
          have hd := hdeps e he hb
          rcases h1 with rfl | h1
          · exact hd
          · exact h.down e.on j hd h1
        have hiN : i < ops.size := (Array.getElem?_eq_some_iff.1 ho).1
        have him : i < m := by
          rcases Nat.lt_or_ge i m with hlt | hge
          · exact hlt
          · exact absurd (fun j hj => hwait j (htail i hge hiN j (by omega))) hall
        have hord' : ∀ j ∈ i :: order, j < m := fun j hj => by
          cases hj with
          | head => exact him
          | tail _ hj => exact hord j hj
        have hsz : i < done.size := (Array.getElem?_eq_some_iff.1 hnd).1
        have hctx : Ctx tk pd ops f w0 M L D φ i f' (order.flatMap (liveR tk done R) ++ pendOf pd done) (order.flatMap (liveR tk (done.setIfInBounds i true) R) ++ pendOf pd (done.setIfInBounds i true)) w' := by
          refine ⟨h.st, pendOf_set hnd hpn _ _ (fun ht => by rw [liveR_same hsz ht]), fun t ht => h.slot t fun j hj hdone => ?_, fun j t hw hj => ⟨R j, h.dep j t (hwait j hw) hj, fun hfree r hr => List.mem_append_left _ (List.mem_flatMap.2 ⟨j, (h.ord j).2 (hwait j hw), ?_⟩)⟩, fun j t hm hj => ?_, fun p hp hw => List.mem_append_right _ (List.mem_map.2 ⟨p, hp, if_neg fun hd => by have := h.down p.1 i hd hw; rw [hnd] at this; simp at this⟩)⟩
          · have hjs : j < ops.size := by have := (Array.getElem?_eq_some_iff.1 hdone).1; rw [h.size] at this; exact this
            rcases ht j hjs hj with rfl | hw
            · rw [hnd] at hdone; simp at hdone
            · have := h.down j i hdone hw
              rw [hnd] at this; simp at this
          · rw [liveR_live (fun p hp e hd => by have := tkFree_spec hfree p hp e; rw [this, hnd] at hd; simp at hd)]; exact hr
          · have hw := htk.waits _ hm
            have hdj := hwait j hw
            refine ⟨R j, h.dep j t hdj hj, ?_⟩
            have hnp : ∀ q ∈ pd, q.1 ≠ i := htk.pend _ hm
            have hpe : pendOf pd (done.setIfInBounds i true) = pendOf pd done := by
              apply List.map_congr_left
              intro p hp
              rw [Array.getElem?_setIfInBounds_ne (Ne.symm (hnp p hp))]
            rw [hpe, ← List.append_assoc]
            refine List.Perm.append_right _ ?_
            have hlive : liveR tk done R j = R j := liveR_live fun p hp e hd => by
              have := htk.src p hp _ hm e
              rw [this, hnd] at hd; simp at hd
            have := flat_take (f := liveR tk done R) (g := liveR tk (done.setIfInBounds i true) R) (j := j) (liveR_gone hm rfl ((done_set hsz).2 (.inl rfl))) (fun x hx => by
              unfold liveR
              have : takenBy tk (done.setIfInBounds i true) x = takenBy tk done x := by
                rw [Bool.eq_iff_iff, takenBy_iff, takenBy_iff]
                constructor
                · rintro ⟨p, hp, e, hd⟩
                  rcases (done_set hsz).1 hd with h1 | h1
                  · have := htk.dst p hp _ hm h1
                    rw [this] at e; exact absurd e.symm hx
                  · exact ⟨p, hp, e, h1⟩
                · rintro ⟨p, hp, e, hd⟩; exact ⟨p, hp, e, (done_set hsz).2 (.inr hd)⟩
              rw [this]) order h.nodup ((h.ord j).2 hdj)
            rw [hlive] at this
            exact this
        rcases hval i him o ho f' _ _ w' hctx with ⟨hw, hdf, hop⟩ | ⟨hw, hphi, hsm⟩
        · intro cs
          have hs := op_step (P := P) (b := b) (k := k) (w := w') (rest := Region.linearise.go .any ops fuel (t / (Region.ready .any ops done).length) (done.setIfInBounds i true) []) ho hw hdf cs
          rw [execOp_eq] at hs
          obtain ⟨v, w2, ⟨rs, hv, hst⟩, hsteps⟩ := hop _ cs rfl hs
          rw [finish_fr, ho] at hsteps
          have hmid := h.step hone hnd ho hwait htk.waits hv hst
          obtain ⟨fr, w3, hs3, he⟩ := ih (t / (Region.ready .any ops done).length) _ _ _ _ _ (by simp; omega) hord' hmid cs
          exact ⟨fr, w3, hsteps.trans hs3, he⟩
        · have hs := fun cs => op_skip (P := P) (k := k) (w := w') (b := b) (f := f') (ops := ops) (i := i)
            (rest := Region.linearise.go .any ops fuel (t / (Region.ready .any ops done).length) (done.setIfInBounds i true) []) (by simp [ho, hw]) cs
          refine Run.step1 hs ?_
          rw [ho]
          exact ih _ _ _ _ _ _ (by simp; omega) hord' (h.step (rs := []) hone hnd ho hwait htk.waits hphi (by rw [List.nil_append, hsm]; exact h.st))
def drawOk (ops : Array Oper) : Bool :=
  let n := ops.size
  let bs := Region.before ops
  (List.range n).all fun i =>
    let o := ops.getD i default
    (o.after.all fun e => !Region.binds .any e || Nat.blt e.on i) &&
    ((List.range n).all fun j => i == j || (match o.dst with | none => true | some d => (ops.getD j default).dst != some d)) &&
    (bs.getD i 0 == o.after.foldl (fun s e => if Region.binds .any e then s ||| 2 ^ e.on ||| bs.getD e.on 0 else s) 0)
theorem foldl_bit (bs : Array Nat) (j : Nat) : ∀ (es : List Edge) (s : Nat), (es.foldl (fun s e => if Region.binds .any e then s ||| 2 ^ e.on ||| bs.getD e.on 0 else s) s).testBit j = true →
    s.testBit j = true ∨ ∃ e ∈ es, Region.binds .any e = true ∧ (e.on = j ∨ (bs.getD e.on 0).testBit j = true)
  | [], s, h => .inl h
  | e :: es, s, h => by
    simp only [List.foldl_cons] at h
    rcases foldl_bit bs j es _ h with h | ⟨e', he', h'⟩
    · by_cases hb : Region.binds .any e = true
      · rw [if_pos hb] at h
        simp only [Nat.testBit_or, Bool.or_eq_true] at h
        rcases h with (h | h) | h
        · exact .inl h
        · right
          refine ⟨e, .head _, hb, .inl ?_⟩
          rw [Nat.testBit_two_pow] at h
          simpa using h
        · exact .inr ⟨e, .head _, hb, .inr h⟩
      · rw [if_neg hb] at h; exact .inl h
    · exact .inr ⟨e', .tail _ he', h'⟩
theorem drawOk_spec {ops : Array Oper} (h : drawOk ops = true) : DstOnce ops ∧ EdgesOk ops ∧ ∀ i o, ops[i]? = some o → ∀ e ∈ o.after, Region.binds .any e = true → e.on < i := by
  simp only [drawOk, List.all_eq_true, List.mem_range, Bool.and_eq_true, beq_iff_eq, Bool.or_eq_true] at h
  have hget : ∀ i o, ops[i]? = some o → i < ops.size ∧ ops.getD i default = o := fun i o ho => by
    have := Array.getElem?_eq_some_iff.1 ho
    exact ⟨this.1, by simp [this.1, this.2]⟩
  refine ⟨fun i j t hi hj => ?_, fun i j o ho hw => ?_, fun i o ho e he hb => ?_⟩
  · have gi : ∃ o, ops[i]? = some o ∧ o.dst = some t := by
      simp only [dstOf] at hi
      cases hg : ops[i]? with
      | none => simp [hg] at hi
      | some o => exact ⟨o, rfl, by simpa [hg] using hi⟩
    have gj : ∃ o, ops[j]? = some o ∧ o.dst = some t := by
      simp only [dstOf] at hj
      cases hg : ops[j]? with
      | none => simp [hg] at hj
      | some o => exact ⟨o, rfl, by simpa [hg] using hj⟩
    obtain ⟨oi, hoi, di⟩ := gi
    obtain ⟨oj, hoj, dj⟩ := gj
    have h1 := (h i (hget i oi hoi).1).1.2 j (hget j oj hoj).1
    rw [(hget i oi hoi).2, (hget j oj hoj).2, di, dj] at h1
    rcases h1 with h1 | h1
    · exact h1
    · simp at h1
  · have h1 := (h i (hget i o ho).1).2
    rw [(hget i o ho).2] at h1
    rw [waits, h1, ← Array.foldl_toList] at hw
    rcases foldl_bit _ j _ _ hw with h2 | ⟨e, he, hb, h3⟩
    · simp at h2
    · exact ⟨e, by simpa using he, hb, h3⟩
  · have h1 := (h i (hget i o ho).1).1.1
    rw [(hget i o ho).2, Array.all_eq_true] at h1
    obtain ⟨m, hm, rfl⟩ := Array.mem_iff_getElem.1 he
    have := h1 m hm
    rw [hb] at this
    simpa using this
structure DrawTab (ops : Array Oper) (bs : List Nat) (ds : List (Option Nat)) : Prop where
  ok : drawOk ops = true
  bef : Region.before ops = bs.toArray
  dst : ops.toList.map (·.dst) = ds
def bitB (m j : Nat) : Bool := Nat.beq (m / 2 ^ j % 2) 1
theorem bitB_eq (m j : Nat) : m.testBit j = bitB m j := by
  rw [Nat.testBit_eq_decide_div_mod_eq, bitB]
  cases h : Nat.beq (m / 2 ^ j % 2) 1 with
  | true => simp [Nat.eq_of_beq_eq_true h]
  | false => simp [Nat.ne_of_beq_eq_false h]
def updW (ws : Nat → Word) (i : Nat) (wd : Word) : Nat → Word := fun j => bif Nat.beq j i then wd else ws j
theorem updW_same (ws : Nat → Word) (i : Nat) (wd : Word) : updW ws i wd i = wd := by simp [updW]
theorem updW_ne (ws : Nat → Word) {i j : Nat} (wd : Word) (h : j ≠ i) : updW ws i wd j = ws j := by
  have : Nat.beq j i = false := by
    cases hb : Nat.beq j i with
    | false => rfl
    | true => exact absurd (Nat.eq_of_beq_eq_true hb) h
  simp [updW, this]
abbrev noW : Nat → Word := fun _ _ _ _ => False
theorem DrawTab.waits {bs : List Nat} {ds : List (Option Nat)} (h : DrawTab ops bs ds) (i j : Nat) : waits ops i j = (bs.getD i 0).testBit j := by
  simp [SK.waits, h.bef]
theorem DrawTab.dstOf {bs : List Nat} {ds : List (Option Nat)} (h : DrawTab ops bs ds) (i : Nat) : dstOf ops i = ds.getD i none := by
  rw [← h.dst]
  simp only [SK.dstOf]
  by_cases hi : i < ops.size
  · simp [hi]
  · simp [hi]
theorem waits_lt (h : drawOk ops = true) : ∀ i, ∀ j o, ops[i]? = some o → waits ops i j = true → j < i := by
  obtain ⟨h1, h2, h3⟩ := drawOk_spec h
  exact waits_below h2 h3
def RunD (tk : Takes) (pd : Pend) (P : Program) (b : Base) (ops : Array Oper) (bs : List Nat) (ds : List (Option Nat)) (k : List Item) (E : Frame → World → Prop) (f : Nat → Value) (w0 : World) (M : Nat → Prop) (L D : List Res) (w : World) (i : Nat) (l : List Oper) (ws : Nat → Word) : Prop :=
  ops.toList.drop i = l → (∀ j, j < i → ∀ φ : Nat → Word, (∀ j, j < i → φ j = ws j) → Valid tk pd P b.n ops f w0 M L D φ j) →
    ∀ id, Run P b (.code (.region id ops true) :: k) f w E
structure Know1 (tk : Takes) (bs : List Nat) (ds : List (Option Nat)) (f : Nat → Value) (w0 : World) (M : Nat → Prop) (L D : List Res) (i : Nat) (ws : Nat → Word) (f' : Nat → Value) (L' : List Res) (w' : World) : Prop where
  st : St w0 M (L' ++ L) D w'
  slot : ∀ t, ((List.range ds.length).all fun j => (ds.getD j none != some t) || Nat.beq j i || bitB (bs.getD j 0) i) = true → f' t = f t
  dep : ∀ j t, bitB (bs.getD i 0) j = true → ds.getD j none = some t → ∃ g rs, ws j g (f' t) rs ∧ (∀ l u, bitB (bs.getD j 0) l = true → ds.getD l none = some u → g u = f' u) ∧ (tkFree tk j i = true → ∀ r ∈ rs, r ∈ L')
section
variable {bs : List Nat} {ds : List (Option Nat)} {i : Nat} {l : List Oper} {ws : Nat → Word} {n : Nat} {f' : Nat → Value} {L' : List Res} {w' : World}
theorem evs {t : Nat} {v : Value} (h : f' t = v) (ht : Nat.blt t n = true) : ev n f' (.tmp t) = v := by
  simp only [ev, ht, cond_true, h]
theorem Know1.old (h : Know1 tk bs ds f w0 M L D i ws f' L' w') {t : Nat} {v : Value} (hv : f t = v) (hs : ((List.range ds.length).all fun j => (ds.getD j none != some t) || Nat.beq j i || bitB (bs.getD j 0) i) = true)
    (ht : Nat.blt t n = true) : ev n f' (.tmp t) = v := evs ((h.slot t hs).trans hv) ht
theorem Know1.det (h : Know1 tk bs ds f w0 M L D i ws f' L' w') {j t : Nat} {v : Value} (hw : bitB (bs.getD i 0) j = true) (hd : ds.getD j none = some t) (hj : ws j = cw (SK.det v)) (ht : Nat.blt t n = true) : ev n f' (.tmp t) = v := by
  obtain ⟨g, rs, h1, _⟩ := h.dep j t hw hd
  rw [hj] at h1
  exact evs h1.1 ht
theorem RunD.start (pd : Pend) (hst : St w0 M (pd.map (·.2.1) ++ L) D w) (htab : DrawTab ops bs ds) (h : DrawTab ops bs ds → RunD [] pd P b ops bs ds k E f w0 M L D w 0 ops.toList noW) {id : Nat} : Run P b (.code (.region id ops true) :: k) f w E :=
  h htab rfl (fun i hi => absurd hi (by omega)) id
theorem RunD.cons {o : Oper} (wd : Word) (hv : ops[i]? = some o → ∀ φ : Nat → Word, (∀ j, j < i → φ j = ws j) → φ i = wd → Valid tk pd P b.n ops f w0 M L D φ i) (h : RunD tk pd P b ops bs ds k E f w0 M L D w (i + 1) l (updW ws i wd)) :
    RunD tk pd P b ops bs ds k E f w0 M L D w i (o :: l) ws := by
  intro hdrop hall id
  have hlen : i < ops.size := by
    rcases Nat.lt_or_ge i ops.size with hh | hh
    · exact hh
    · rw [List.drop_of_length_le (by simpa using hh)] at hdrop; cases hdrop
  have ho : ops[i]? = some o := by
    have : (ops.toList.drop i)[0]? = some o := by rw [hdrop]; rfl
    rw [List.getElem?_drop] at this
    simpa using this
  refine h ?_ (fun j hj φ hφ => ?_) id
  · have := congrArg (List.drop 1) hdrop
    rw [List.drop_drop] at this
    simpa [Nat.add_comm] using this
  · have hpre : ∀ j, j < i → φ j = ws j := fun j hj => by rw [hφ j (by omega), updW_ne _ _ (by omega)]
    by_cases hlt : j < i
    · exact hall j hlt φ hpre
    · obtain rfl : j = i := by omega
      exact hv ho φ hpre (by rw [hφ _ (by omega), updW_same])
theorem know1_of (htab : DrawTab ops bs ds) {φ : Nat → Word} (hφ : ∀ j, j < i → φ j = ws j) {o : Oper} (ho : ops[i]? = some o) {L'' : List Res} (hc : Ctx tk pd ops f w0 M L D φ i f' L' L'' w') : Know1 tk bs ds f w0 M L D i ws f' L' w' where
  st := hc.st
  slot := fun t ht => hc.slot t fun j hj hd => by
    rw [List.all_eq_true] at ht
    have hlen : ds.length = ops.size := by rw [← htab.dst]; simp
    have := ht j (List.mem_range.2 (by omega))
    rw [htab.dstOf] at hd
    simp only [hd, bne_self_eq_false, Bool.false_or, Bool.or_eq_true] at this
    rcases this with h | h
    · exact .inl (Nat.eq_of_beq_eq_true h)
    · exact .inr (by rw [htab.waits, bitB_eq]; exact h)
  dep := fun j t hw hd => by
    have hw' : waits ops i j = true := by rw [htab.waits, bitB_eq]; exact hw
    obtain ⟨rs, h1, h2⟩ := hc.dep j t hw' (by rw [htab.dstOf]; exact hd)
    rw [hφ j (waits_lt htab.ok _ _ _ ho hw')] at h1
    exact ⟨_, rs, h1, fun l u hl hu => mask_get f' (by rw [htab.waits, bitB_eq]; exact hl) (by rw [htab.dstOf]; exact hu), h2⟩
theorem tab_dst (htab : DrawTab ops bs ds) {j t : Nat} (h : ds.getD j none = some t) : (ops[j]?).bind (·.dst) = some t := by
  have := htab.dstOf j
  simp only [SK.dstOf] at this
  rw [this, h]
theorem plain_of {i : Nat} (hp : (pd.all fun p => !(Nat.beq p.1 i)) = true) : ∀ p ∈ pd, p.1 ≠ i := fun p hm e => by
  have := List.all_eq_true.1 hp p hm
  rw [e, Nat.beq_refl] at this
  cases this
def tkNo (tk : Takes) (i : Nat) : Bool := tk.all fun p => !(Nat.beq p.2 i)
theorem tkNo_spec {i : Nat} (h : tkNo tk i = true) : ∀ p ∈ tk, p.2 ≠ i := fun p hm e => by
  have := List.all_eq_true.1 h p hm
  rw [e, Nat.beq_refl] at this
  cases this
theorem RunD.op {d : Option Tmp} {op : Op} {ty : TypeId} {pos : String} {aft : Array Edge} (wd : PWord) (htab : DrawTab ops bs ds) (i' : Nat)
    (hv : ∀ f' L' w', Know1 tk bs ds f w0 M L D i ws f' L' w' → Op1 P op ty (ev b.n f') w' (fun v w'' => ∃ rs, wd v rs ∧ St w0 M (rs ++ (L' ++ L)) D w''))
    (h : RunD tk pd P b ops bs ds k E f w0 M L D w i' l (updW ws i (cw wd))) (hi : i + 1 = i' := by rfl) (hd : isDefer op = false := by rfl) (hp : (pd.all fun p => !(Nat.beq p.1 i)) = true := by rfl) (hk : tkNo tk i = true := by rfl) : RunD tk pd P b ops bs ds k E f w0 M L D w i (⟨d, op, ty, pos, aft, none⟩ :: l) ws := by
  subst hi
  refine RunD.cons (cw wd) (fun ho φ hφ hi2 o ho' f' L' L'' w' hc => ?_) h
  rw [ho] at ho'
  obtain rfl := Option.some.inj ho'
  refine .inl ⟨rfl, hd, ?_⟩
  have := hv f' L' w' (know1_of htab hφ ho hc)
  rw [hi2, hc.turn.same (plain_of hp) (tkNo_spec hk)]
  exact this
theorem RunD.opR {d : Option Tmp} {op : Op} {ty : TypeId} {pos : String} {aft : Array Edge} (wd : Word) (htab : DrawTab ops bs ds) (i' : Nat)
    (hv : ∀ f' L' w', Know1 tk bs ds f w0 M L D i ws f' L' w' → Op1 P op ty (ev b.n f') w' (fun v w'' => ∃ rs, (∀ g, (∀ l u, bitB (bs.getD i 0) l = true → ds.getD l none = some u → g u = f' u) → wd g v rs) ∧ St w0 M (rs ++ (L' ++ L)) D w''))
    (h : RunD tk pd P b ops bs ds k E f w0 M L D w i' l (updW ws i wd)) (hi : i + 1 = i' := by rfl) (hd : isDefer op = false := by rfl) (hp : (pd.all fun p => !(Nat.beq p.1 i)) = true := by rfl) (hk : tkNo tk i = true := by rfl) : RunD tk pd P b ops bs ds k E f w0 M L D w i (⟨d, op, ty, pos, aft, none⟩ :: l) ws := by
  subst hi
  refine RunD.cons wd (fun ho φ hφ hi2 o ho' f' L' L'' w' hc => ?_) h
  rw [ho] at ho'
  obtain rfl := Option.some.inj ho'
  refine .inl ⟨rfl, hd, ?_⟩
  have := hv f' L' w' (know1_of htab hφ ho hc)
  rw [hi2, hc.turn.same (plain_of hp) (tkNo_spec hk)]
  exact this.mono fun v w'' ⟨rs, h1, h2⟩ => ⟨rs, h1 _ fun l u hl hu => mask_get f' (by rw [htab.waits, bitB_eq]; exact hl) (by rw [htab.dstOf]; exact hu), h2⟩
theorem RunD.own {d : Option Tmp} {op : Op} {ty : TypeId} {pos : String} {aft : Array Edge} {r r' : Res} (htab : DrawTab ops bs ds) (i' : Nat) (hm : (i, r, r') ∈ pd)
    (hv : ∀ f' L' L'' w', Know1 tk bs ds f w0 M L D i ws f' L' w' → Sel r r' (L' ++ L) (L'' ++ L) → Op1 P op ty (ev b.n f') w' (fun v w'' => v = undef ∧ St w0 M (L'' ++ L) D w''))
    (h : RunD tk pd P b ops bs ds k E f w0 M L D w i' l (updW ws i (cw (SK.det undef)))) (hi : i + 1 = i' := by rfl) (hd : isDefer op = false := by rfl) (hk : tkNo tk i = true := by rfl) : RunD tk pd P b ops bs ds k E f w0 M L D w i (⟨d, op, ty, pos, aft, none⟩ :: l) ws := by
  subst hi
  refine RunD.cons (cw (SK.det undef)) (fun ho φ hφ hi2 o ho' f' L' L'' w' hc => ?_) h
  rw [ho] at ho'
  obtain rfl := Option.some.inj ho'
  refine .inl ⟨rfl, hd, ?_⟩
  have := hv f' L' L'' w' (know1_of htab hφ ho hc) ((hc.turn.own r r' hm (tkNo_spec hk)).right L)
  rw [hi2]
  exact this.mono fun v w hw => ⟨[], ⟨hw.1, rfl⟩, hw.2⟩
theorem RunD.take {d : Option Tmp} {op : Op} {ty : TypeId} {pos : String} {aft : Array Edge} {j t : Nat} {c : Bool} (wd : PWord) (htab : DrawTab ops bs ds) (i' : Nat)
    (hj : ds.getD j none = some t) (hg : ∀ f' L' w', Know1 tk bs ds f w0 M L D i ws f' L' w' → ev b.n f' (.tmp t) = .bool c)
    (hv : ∀ f' L' w', Know1 tk bs ds f w0 M L D i ws f' L' w' → Op1 P op ty (ev b.n f') w' (fun v w'' => ∃ rs, wd v rs ∧ St w0 M (rs ++ (L' ++ L)) D w''))
    (h : RunD tk pd P b ops bs ds k E f w0 M L D w i' l (updW ws i (cw wd))) (hi : i + 1 = i' := by rfl) (hd : isDefer op = false := by rfl) (hp : (pd.all fun p => !(Nat.beq p.1 i)) = true := by rfl) (hk : tkNo tk i = true := by rfl) : RunD tk pd P b ops bs ds k E f w0 M L D w i (⟨d, op, ty, pos, aft, some (j, c)⟩ :: l) ws := by
  subst hi
  refine RunD.cons (cw wd) (fun ho φ hφ hi2 o ho' f' L' L'' w' hc => ?_) h
  rw [ho] at ho'
  obtain rfl := Option.some.inj ho'
  have hl := know1_of htab hφ ho hc
  refine .inl ⟨?_, hd, ?_⟩
  · simp [Region.wanted, yielded_tm (tab_dst htab hj) (hg f' L' w' hl)]
  · rw [hi2, hc.turn.same (plain_of hp) (tkNo_spec hk)]; exact hv f' L' w' hl
theorem RunD.omit {d : Option Tmp} {op : Op} {ty : TypeId} {pos : String} {aft : Array Edge} {j t : Nat} {c c' : Bool} (htab : DrawTab ops bs ds) (i' : Nat)
    (hj : ds.getD j none = some t) (hne : c' = !c) (hg : ∀ f' L' w', Know1 tk bs ds f w0 M L D i ws f' L' w' → ev b.n f' (.tmp t) = .bool c')
    (h : RunD tk pd P b ops bs ds k E f w0 M L D w i' l (updW ws i (cw (SK.det undef)))) (hi : i + 1 = i' := by rfl) (hp : (pd.all fun p => !(Nat.beq p.1 i)) = true := by rfl) (hk : tkNo tk i = true := by rfl) : RunD tk pd P b ops bs ds k E f w0 M L D w i (⟨d, op, ty, pos, aft, some (j, c)⟩ :: l) ws := by
  subst hi
  refine RunD.cons (cw (SK.det undef)) (fun ho φ hφ hi2 o ho' f' L' L'' w' hc => ?_) h
  rw [ho] at ho'
  obtain rfl := Option.some.inj ho'
  have hl := know1_of htab hφ ho hc
  refine .inr ⟨?_, ?_, hc.turn.same (plain_of hp) (tkNo_spec hk)⟩
  · subst hne
    have := yielded_tm (ops := ops) (tab_dst htab hj) (hg f' L' w' hl)
    simp only [Region.wanted, this]
    cases c <;> rfl
  · rw [hi2]; exact ⟨rfl, rfl⟩
theorem RunD.omitU {d : Option Tmp} {op : Op} {ty : TypeId} {pos : String} {aft : Array Edge} {j t : Nat} {c : Bool} (htab : DrawTab ops bs ds) (i' : Nat)
    (hj : ds.getD j none = some t) (hg : ∀ f' L' w', Know1 tk bs ds f w0 M L D i ws f' L' w' → ev b.n f' (.tmp t) = undef)
    (h : RunD tk pd P b ops bs ds k E f w0 M L D w i' l (updW ws i (cw (SK.det undef)))) (hi : i + 1 = i' := by rfl) (hp : (pd.all fun p => !(Nat.beq p.1 i)) = true := by rfl) (hk : tkNo tk i = true := by rfl) : RunD tk pd P b ops bs ds k E f w0 M L D w i (⟨d, op, ty, pos, aft, some (j, c)⟩ :: l) ws := by
  subst hi
  refine RunD.cons (cw (SK.det undef)) (fun ho φ hφ hi2 o ho' f' L' L'' w' hc => ?_) h
  rw [ho] at ho'
  obtain rfl := Option.some.inj ho'
  have hl := know1_of htab hφ ho hc
  refine .inr ⟨?_, ?_, hc.turn.same (plain_of hp) (tkNo_spec hk)⟩
  · have := yielded_undef (ops := ops) (tab_dst htab hj) (hg f' L' w' hl)
    simp only [Region.wanted, this]
    cases c <;> rfl
  · rw [hi2]; exact ⟨rfl, rfl⟩
def pendOk (pd : Pend) (m : Nat) : Bool := (pd.map (·.1)).Nodup && pd.all fun p => Nat.blt p.1 m
def tkOkB (tk : Takes) (pd : Pend) (bs : List Nat) (m : Nat) : Bool := tk.all fun p => bitB (bs.getD p.2 0) p.1 && Nat.blt p.1 m && Nat.blt p.2 m && (tk.all fun q => (!(Nat.beq p.1 q.1) || Nat.beq p.2 q.2) && (!(Nat.beq p.2 q.2) || Nat.beq p.1 q.1)) && pd.all fun q => !(Nat.beq q.1 p.2)
theorem tkOkB_spec {m : Nat} (htab : DrawTab ops bs ds) (h : tkOkB tk pd bs m = true) : TkOk tk pd ops m := by
  simp only [tkOkB, List.all_eq_true, Bool.and_eq_true, Bool.or_eq_true, Bool.not_eq_true'] at h
  have hb : ∀ {a c : Nat}, Nat.beq a c = true → a = c := fun h => Nat.eq_of_beq_eq_true h
  refine ⟨fun p hp => by rw [htab.waits, bitB_eq]; exact (h p hp).1.1.1.1, fun p hp q hq e => ?_, fun p hp q hq e => ?_, fun p hp q hq e => ?_, fun p hp => ⟨by simpa using (h p hp).1.1.1.2, by simpa using (h p hp).1.1.2⟩⟩
  · have h1 := ((h p hp).1.2 q hq).1
    rw [e, Nat.beq_refl] at h1
    rcases h1 with h1 | h1
    · cases h1
    · exact Prod.ext e (hb h1)
  · have h1 := ((h p hp).1.2 q hq).2
    rw [e, Nat.beq_refl] at h1
    rcases h1 with h1 | h1
    · cases h1
    · exact Prod.ext (hb h1) e
  · have h1 := (h p hp).2 q hq
    rw [e, Nat.beq_refl] at h1
    cases h1
theorem RunD.finT (hm : P.follows .mixedOrders = true) (htab : DrawTab ops bs ds) (hst : St w0 M (pd.map (·.2.1) ++ L) D w)
    (ht : ((List.range ds.length).all fun j => Nat.blt j i || (List.range j).all fun j2 => bitB (bs.getD j 0) j2) = true)
    (h : ∀ f' w' R, (∀ t, ((ds.take i).all fun d => d != some t) = true → f' t = f t) → (∀ j t, Nat.blt j i = true → ds.getD j none = some t → ws j (mask ops j f') (f' t) (R j)) → (∀ j, Nat.blt j i = true → ∃ v, ws j (mask ops j f') v (R j)) →
      St w0 M (((List.range i).flatMap (finR tk R) ++ pd.map (·.2.2)) ++ L) D w' → RunL P b ops l k f' w' E) (hn : Nat.ble i ds.length = true := by rfl) (hpo : pendOk pd i = true := by rfl) (hto : tkOkB tk pd bs i = true := by rfl) :
    RunD tk pd P b ops bs ds k E f w0 M L D w i l ws := by
  intro hl hall id
  have hlen : ds.length = ops.size := by rw [← htab.dst]; simp
  have hle : i ≤ ds.length := Nat.le_of_ble_eq_true hn
  obtain ⟨h1, h2, h3⟩ := drawOk_spec htab.ok
  have nope : ∀ j : Nat, (Array.replicate ops.size false)[j]? ≠ some true := fun j hj => by
    rw [Array.getElem?_replicate] at hj
    split at hj <;> simp at hj
  have htail : ∀ j, i ≤ j → j < ops.size → ∀ j2, j2 < j → waits ops j j2 = true := fun j hi hio j2 hj => by
    rw [List.all_eq_true] at ht
    have := ht j (List.mem_range.2 (by omega))
    rw [Bool.or_eq_true] at this
    rcases this with hh | hh
    · have : j < i := by simpa using hh
      omega
    · rw [List.all_eq_true] at hh
      rw [htab.waits, bitB_eq]
      exact hh j2 (List.mem_range.2 hj)
  have hpo' := hpo
  simp only [pendOk, Bool.and_eq_true, decide_eq_true_eq] at hpo'
  have hpo1 := hpo'.1
  have hpo2 : ∀ p ∈ pd, p.1 < i := fun p hm => by simpa using List.all_eq_true.1 hpo'.2 p hm
  have key := run_linear (P := P) (b := b) (k := k) (E := E) (φ := ws) (f := f) (w0 := w0) (M := M) (L := L) (D := D) (pd := pd) h1 h2 h3 (m := i) (by omega) htail hpo1 hpo2 (tkOkB_spec htab hto)
    (fun j hj => hall j hj ws (fun _ _ => rfl))
    (fun f' w' R ha hb hres hc => h f' w' R (fun t ht => ha t fun j hjm hj => by
        rw [htab.dstOf] at hj
        rw [List.all_eq_true] at ht
        have hjl : j < ds.length := by omega
        have hmem : ds[j] ∈ ds.take i := by
          rw [List.mem_take_iff_getElem]
          exact ⟨j, by omega, rfl⟩
        have := ht ds[j] hmem
        simp [hjl] at hj
        simp [hj] at this)
      (fun j t hjm hj => hb j t (by simpa using hjm) (by rw [htab.dstOf]; exact hj)) (fun j hj => hres j (by simpa using hj)) hc (List.range' i (ops.size - i)) (by
        subst hl
        apply List.ext_getElem
        · simp
        · intro j h1 h2
          simp at h1
          simp))
    ops.size (w.tape w.drawn (.order b.fn id)) (Array.replicate ops.size false) [] (fun _ => []) f { w with drawn := w.drawn + 1 } (by simp) (by simp)
    ⟨by
      have e : pendOf pd (Array.replicate ops.size false) = pd.map (·.2.1) := by
        apply List.map_congr_left
        intro p _
        rw [if_neg (nope _)]
      rw [e]
      exact hst.keep (Kept.drawn _ _ _), by simp, fun j => ⟨fun hj => absurd hj (List.not_mem_nil), fun hj => (nope j hj).elim⟩, .nil, fun i j hi => (nope i hi).elim, fun t _ => rfl, fun j t hj => (nope j hj).elim, fun j hj => (nope j hj).elim⟩
  refine Run.step1 (fun cs => step_lone_go ?_) key
  simp [stepG, stepG.exec, Base.fr, choose, Sem.run, Question.forced, Question.cut, Region.schedule, hm, Region.linearise]
theorem RunD.fin (hm : P.follows .mixedOrders = true) (htab : DrawTab ops bs ds) (hst : St w0 M (pd.map (·.2.1) ++ L) D w)
    (ht : ((List.range ds.length).all fun j => Nat.blt j i || (List.range j).all fun j2 => bitB (bs.getD j 0) j2) = true)
    (h : ∀ f' w' R, (∀ t, ((ds.take i).all fun d => d != some t) = true → f' t = f t) → (∀ j t, Nat.blt j i = true → ds.getD j none = some t → ws j (mask ops j f') (f' t) (R j)) → (∀ j, Nat.blt j i = true → ∃ v, ws j (mask ops j f') v (R j)) →
      St w0 M (((List.range i).flatMap R ++ pd.map (·.2.2)) ++ L) D w' → RunL P b ops l k f' w' E) (hn : Nat.ble i ds.length = true := by rfl) (hpo : pendOk pd i = true := by rfl) :
    RunD [] pd P b ops bs ds k E f w0 M L D w i l ws :=
  RunD.finT hm htab hst ht (fun f' w' R h1 h2 h3 h4 => h f' w' R h1 h2 h3 h4) hn hpo
end
theorem Run.slot {t : Nat} {v : Value} (h : f t = v) (hr : Run P b k (upd f t v) w E) : Run P b k f w E := by
  have : upd f t v = f := by
    funext u
    by_cases hu : u = t
    · subst hu; rw [upd_same, h]
    · rw [upd_ne _ _ hu]
  rw [this] at hr
  exact hr
end Go.SK
namespace Go.SK
open Go.RowKit
def tyRow (P : Program) (T : TypeId) : Option (Nat × Nat × Option (List Value)) := (P.info? T).map fun i => (i.size, i.bytes, i.zero.map fun z => z.cells.toList)
theorem TyF.of {P : Program} {T : TypeId} {d : TypeDesc} {sz bytes : Nat} {zs : List Value} (h : tyRow P T = some (sz, bytes, some zs)) (hu : P.underlying T = some d) : TyF P T d sz bytes zs := by
  refine ⟨?_, hu⟩
  simp only [tyRow] at h
  cases hi : P.info? T with
  | none => simp [hi] at h
  | some i =>
    simp only [hi, Option.map_some, Option.some.injEq, Prod.mk.injEq] at h
    cases hz : i.zero with
    | none => simp [hz] at h
    | some z => exact ⟨i, z, rfl, h.1, h.2.1, hz, by have := h.2.2; simp [hz] at this; simp [← this]⟩
def fieldsOf (P : Program) (T : TypeId) : Array Field := match P.underlying T with
  | some (.struct fs) => fs
  | _ => #[]
def methodsOf (P : Program) (T : TypeId) : Array (String × TypeId) := match P.underlying T with
  | some (.interface ms) => ms
  | _ => #[]
def fldRow (P : Program) (S i : Nat) : Option (Nat × Option Nat) := match P.underlying S with
  | some (.struct fs) => (fs[i]?).map fun fd => (fd.offset, (P.info? fd.type).map (·.size))
  | _ => none
theorem FldF.of {P : Program} {S i o n : Nat} (h : fldRow P S i = some (o, some (n + 1))) : FldF P S i o := by
  simp only [fldRow] at h
  split at h
  · rename_i fs hu
    cases hf : fs[i]? with
    | none => simp [hf] at h
    | some fd =>
      simp only [hf, Option.map_some, Option.some.injEq, Prod.mk.injEq] at h
      cases hi : P.info? fd.type with
      | none => simp [hi] at h
      | some inf => exact ⟨fs, fd, inf, hu, hf, h.1, hi, by have := h.2; simp [hi] at this; omega⟩
  · simp at h
theorem St.keepc {w0 w w' : World} {M : Nat → Prop} {L D : List Res} (h : St w0 M L D w) (hc : St w NoM [] [] w') : St w0 M L D w' := h.keep hc.kept
theorem St.pure {w0 w : World} {L D : List Res} (h : St w0 NoM L D w) : St w0 NoM [] [] w := h.nil
theorem run_cond_dec {P : Program} {b : Base} {k : List Item} {f : Nat → Value} {w : World} {E : Frame → World → Prop} {c : Operand} {x y : Code} {p : Prop} [Decidable p] (hc : ev b.n f c = .bool (decide p)) (h1 : p → Run P b (.code x :: k) f w E)
    (h2 : ¬ p → Run P b (.code y :: k) f w E) : Run P b (.code (.cond c x y) :: k) f w E :=
  run_cond_split hc (fun h => h1 (of_decide_eq_true h)) (fun h => h2 (of_decide_eq_false h))
def Keep (F f : Nat → Value) : List Nat → Prop
  | [] => True
  | t :: l => f t = F t ∧ Keep F f l
theorem upd_self {f : Nat → Value} {t : Nat} {v : Value} (h : f t = v) : upd f t v = f := by
  funext u
  by_cases hu : u = t
  · subst hu; rw [upd_same, h]
  · rw [upd_ne _ _ hu]
def sts : List (Nat × Value) → (Nat → Value) → (Nat → Value)
  | [], f => f
  | (t, v) :: l, f => upd (sts l f) t v
def Slots (f : Nat → Value) : List (Nat × Value) → Prop
  | [] => True
  | (t, v) :: l => f t = v ∧ Slots f l
theorem sts_self {f : Nat → Value} : ∀ {l : List (Nat × Value)}, Slots f l → sts l f = f
  | [], _ => rfl
  | (t, v) :: l, h => by
    have ih := sts_self h.2
    simp only [sts]
    rw [ih]
    exact upd_self h.1
theorem Run.ind {α : Type} {P : Program} {b : Base} {k : List Item} {E : Frame → World → Prop} (st : α → List (Nat × Value)) (keep : List Nat) (I : α → World → Prop) (μ : α → Nat) {F : Nat → Value} {w : World} (a0 : α)
    (h0 : I a0 w) (hf : Slots F (st a0)) (hk : Keep F F keep)
    (h : ∀ (a : α) (f : Nat → Value) (w : World), Keep F f keep → I a w → (∀ (a' : α) (f' : Nat → Value) (w' : World), μ a' < μ a → I a' w' → Keep F f' keep → Slots f' (st a') → Run P b k f' w' E) → Run P b k (sts (st a) f) w E) : Run P b k F w E := by
  have key : ∀ (n : Nat) (a : α) (f : Nat → Value) (w : World), μ a = n → Keep F f keep → I a w → Run P b k (sts (st a) f) w E := by
    intro n
    induction n using Nat.strongRecOn with
    | _ n ih =>
      intro a f w hn hkf hI
      exact h a f w hkf hI fun a' f' w' hlt hI' hkf' hs => by
        have := ih _ (hn ▸ hlt) a' f' w' rfl hkf' hI'
        rwa [sts_self hs] at this
  have := key _ a0 F w rfl hk h0
  rwa [sts_self hf] at this
theorem Run.cut {α : Type} {P : Program} {b : Base} {i : Item} {k : List Item} {E : Frame → World → Prop} (st : α → List (Nat × Value)) (keep : List Nat) (J : α → World → Prop) {F : Nat → Value} {w : World}
    (h2 : ∀ (a : α) (f : Nat → Value) (w : World), Keep F f keep → J a w → Run P b k (sts (st a) f) w E)
    (h1 : (∀ (a : α) (f : Nat → Value) (w : World), J a w → Keep F f keep → Slots f (st a) → Run P b k f w E) → Run P b (i :: k) F w E) : Run P b (i :: k) F w E :=
  h1 fun a f w hJ hk hs => by
    have := h2 a f w hk hJ
    rwa [sts_self hs] at this
theorem Keep.refl (F : Nat → Value) : ∀ l : List Nat, Keep F F l
  | [] => trivial
  | _ :: l => ⟨rfl, Keep.refl F l⟩
end Go.SK
namespace Go.SK
section
variable {P : Program} {b : Base} {k : List Item} {f : Nat → Value} {w : World} {E : Frame → World → Prop} {ops : Array Oper} {l : List Oper}
theorem RunL.split {d : Nat} {t : Bool} (hv : ev b.n f (.tmp d) = .bool t) (h1 : t = true → RunL P b ops l k f w E) (h2 : t = false → RunL P b ops l k f w E) : RunL P b ops l k f w E := by
  cases t with
  | true => exact h1 rfl
  | false => exact h2 rfl
theorem RunL.splitD {d : Nat} {p : Prop} [Decidable p] (hv : ev b.n f (.tmp d) = .bool (decide p)) (h1 : p → RunL P b ops l k f w E) (h2 : ¬ p → RunL P b ops l k f w E) : RunL P b ops l k f w E := by
  by_cases h : p
  · exact h1 h
  · exact h2 h
theorem RunL.slots {sl : List (Nat × Value)} (h : Slots f sl) (hr : RunL P b ops l k (sts sl f) w E) : RunL P b ops l k f w E := by
  rw [sts_self h] at hr; exact hr
theorem Run.slots {sl : List (Nat × Value)} (h : Slots f sl) (hr : Run P b k (sts sl f) w E) : Run P b k f w E := by
  rw [sts_self h] at hr; exact hr
theorem RunL.slot {t : Nat} {v : Value} (h : f t = v) (hr : RunL P b ops l k (upd f t v) w E) : RunL P b ops l k f w E := by
  rw [upd_self h] at hr; exact hr
theorem RunD.split {tk : Takes} {pd : Pend} {bs : List Nat} {ds : List (Option Nat)} {w0 : World} {M : Nat → Prop} {L D : List Res} {i : Nat} {ws : Nat → Word} {j : Nat} {t : Bool} (hj : ws j = cw (det (.bool t))) (h1 : t = true → RunD tk pd P b ops bs ds k E f w0 M L D w i l ws)
    (h2 : t = false → RunD tk pd P b ops bs ds k E f w0 M L D w i l ws) : RunD tk pd P b ops bs ds k E f w0 M L D w i l ws := by
  cases t with
  | true => exact h1 rfl
  | false => exact h2 rfl
theorem RunD.splitD {tk : Takes} {pd : Pend} {bs : List Nat} {ds : List (Option Nat)} {w0 : World} {M : Nat → Prop} {L D : List Res} {i : Nat} {ws : Nat → Word} {j : Nat} {p : Prop} [Decidable p] (hj : ws j = cw (det (.bool (decide p)))) (h1 : p → RunD tk pd P b ops bs ds k E f w0 M L D w i l ws)
    (h2 : ¬ p → RunD tk pd P b ops bs ds k E f w0 M L D w i l ws) : RunD tk pd P b ops bs ds k E f w0 M L D w i l ws := by
  by_cases h : p
  · exact h1 h
  · exact h2 h
theorem Run.split {d : Nat} {t : Bool} (hv : ev b.n f (.tmp d) = .bool t) (h1 : t = true → Run P b k f w E) (h2 : t = false → Run P b k f w E) : Run P b k f w E := by
  cases t with
  | true => exact h1 rfl
  | false => exact h2 rfl
end
section
variable {P : Program} {ty : TypeId} {ρ : Operand → Value} {w : World} {C : Value → World → Prop}
theorem Op1.notD {x : Operand} {p : Prop} [Decidable p] {T : TypeId} (hx : ρ x = .bool (decide p)) (h : C (.bool (decide (¬ p))) w) : Op1 P (.unOp .not T x) ty ρ w C :=
  Op1.not hx (by rw [show (!decide p) = decide (¬ p) by by_cases h : p <;> simp [h]]; exact h)
end
end Go.SK
namespace Go.SK
open Go.RowKit Go.ChangeShapes Go.WideShapes Go.ChangeAt
theorem Ret.law {P : Program} {g : FuncId} {args : Array Value} {w : World} (h : Ret P g args w (fun v w' => v = .bool true ∧ St w NoM [] [] w')) :
    Calls P g args w fun e w' => e = .returned (.bool true) ∧ Below w.heap.size w w' :=
  Calls.mono h fun e w' ⟨v, he, hv, hst⟩ => ⟨by rw [he, hv], hst.kept.below⟩
theorem trodAll_lt {H : Type} {enc : TypeId × Value → H} {P : Program} {w : World} {base : Nat} {sp : Nat → Bool} {held : Bool} : ∀ (ts : List TypeId) (vs : List Value) (ds : List (DataW H)) (ps : List MemPlace),
    DataW.TrodAll enc P w base sp held ts vs ds ps → ∀ x ∈ ps, x.block < w.heap.size
  | [], [], [], ps, h => by simp [DataW.TrodAll] at h; subst h; simp
  | t :: ts, v :: vs, d :: ds, ps, h => by
    obtain ⟨p, q, ⟨m, hm⟩, h2, rfl⟩ := h
    intro x hx
    rcases List.mem_append.1 hx with hx | hx
    · exact DataW.trod_lt m _ _ _ hm x hx
    · exact trodAll_lt ts vs ds q h2 x hx
  | [], [], _ :: _, _, h => by simp [DataW.TrodAll] at h
  | [], _ :: _, _, _, h => by simp [DataW.TrodAll] at h
  | _ :: _, [], _, _, h => by simp [DataW.TrodAll] at h
  | _ :: _, _ :: _, [], _, h => by simp [DataW.TrodAll] at h
theorem trodAll_below {H : Type} {enc : TypeId × Value → H} {P : Program} (hl : laidOutB P = true) {W W' : World} (hb : Below W.heap.size W W') : ∀ (ts : List TypeId) (vs : List Value) (ds : List (DataW H)) (ps : List MemPlace),
    ts.all (fun t => P.readableRec t && Nat.blt t P.types.size) = true → DataW.TrodAll enc P W 0 (fun _ => true) true ts vs ds ps → (∀ x ∈ ps, x.block < W.heap.size) →
    DataW.TrodAll enc P W' 0 (fun b => decide (b < W.heap.size)) true ts vs ds ps
  | [], [], [], ps, _, h, _ => h
  | t :: ts, v :: vs, d :: ds, ps, hr, h, hlt => by
    obtain ⟨p, q, h1, h2, rfl⟩ := h
    simp only [List.all_cons, Bool.and_eq_true] at hr
    exact ⟨p, q, Below.trod hl hr.1.1 (by simpa using hr.1.2) h1 hb (fun x hx => hlt x (List.mem_append_left _ hx)),
      trodAll_below hl hb ts vs ds q hr.2 h2 (fun x hx => hlt x (List.mem_append_right _ hx)), rfl⟩
  | [], [], _ :: _, _, _, h, _ => by simp [DataW.TrodAll] at h
  | [], _ :: _, _, _, _, h, _ => by simp [DataW.TrodAll] at h
  | _ :: _, [], _, _, _, h, _ => by simp [DataW.TrodAll] at h
  | _ :: _, _ :: _, [], _, _, h, _ => by simp [DataW.TrodAll] at h
end Go.SK
namespace Go.SK
open Go.RowKit
def Res.star (L : List Res) : Res where
  foot := fun b => ∃ r ∈ L, r.foot b
  holds := fun w => (∀ r ∈ L, r.holds w) ∧ L.Pairwise Apart
  stable := fun w w' h hh => ⟨fun r hr => r.stable w w' (fun b hb => h b ⟨r, hr, hb⟩) (hh.1 r hr), hh.2⟩
  inb := fun w hh b ⟨r, hr, hb⟩ => r.inb w (hh.1 r hr) b hb
section
variable {w0 w w' ws : World} {M : Nat → Prop} {L L' L1 L2 D : List Res} {r : Res}
theorem St.enter1 (hr : r.holds w) (hD : ∀ d ∈ D, d.holds w) (ha : ∀ d ∈ D, Apart r d) : St w r.foot [r] D w where
  kept := Kept.refl _ _
  hL := fun s hs => by cases hs with
    | head => exact hr
    | tail _ hs => cases hs
  hD := hD
  new := fun s hs b hb => by cases hs with
    | head => exact .inr hb
    | tail _ hs => cases hs
  sep := List.pairwise_cons.2 ⟨fun _ h => absurd h List.not_mem_nil, List.Pairwise.nil⟩
  sepD := fun s hs d hd => by cases hs with
    | head => exact ha d hd
    | tail _ hs => cases hs
theorem St.one (h : St w0 M (r :: L) D w) : St w0 M [r] [] w where
  kept := h.kept
  hL := fun s hs => by cases hs with
    | head => exact h.hL r (.head _)
    | tail _ hs => cases hs
  hD := by simp
  new := fun s hs => by cases hs with
    | head => exact h.new r (.head _)
    | tail _ hs => cases hs
  sep := List.pairwise_cons.2 ⟨fun _ h => absurd h List.not_mem_nil, List.Pairwise.nil⟩
  sepD := by simp
theorem St.call1 (h : St w0 M (r :: L) D w) (hc : St w r.foot L1 [] w') : St w0 M (L1 ++ L) D w' :=
  St.call (L1 := [r]) h hc (fun b hb => ⟨r, .head _, hb⟩)
end
def Res.prop (p : Prop) : Res := ⟨fun _ => False, fun _ => p, fun _ _ _ h => h, fun _ _ _ h => h.elim⟩
end Go.SK
namespace Go.SK
inductive Pick : List Res → List Res → Prop
  | nil {L : List Res} : Pick [] L
  | cons {r : Res} {L L1 L' : List Res} : Rem r L L1 → Pick L' L1 → Pick (r :: L') L
theorem Pick.sub {L L' : List Res} (h : Pick L' L) : ∀ r ∈ L', r ∈ L := by
  induction h with
  | nil => intro r hr; cases hr
  | cons hr _ ih => intro s hs; cases hs with
    | head => exact hr.mem
    | tail _ hs => exact hr.sub s (ih s hs)
theorem Pick.apart {L L' : List Res} (h : Pick L' L) (hp : L.Pairwise Apart) : L'.Pairwise Apart := by
  induction h with
  | nil => exact .nil
  | cons hr hpk ih => exact List.pairwise_cons.2 ⟨fun s hs => (hr.apart hp).2 s (hpk.sub s hs), ih (hr.apart hp).1⟩
theorem St.pick {w0 w : World} {M : Nat → Prop} {L L' D : List Res} (h : St w0 M L D w) (hp : Pick L' L) : St w0 M L' D w where
  kept := h.kept
  hL := fun s hs => h.hL s (hp.sub s hs)
  hD := h.hD
  new := fun s hs => h.new s (hp.sub s hs)
  sep := hp.apart h.sep
  sepD := fun s hs => h.sepD s (hp.sub s hs)
theorem St.addProp {w0 w : World} {M : Nat → Prop} {L D : List Res} {p : Prop} (h : St w0 M L D w) (hp : p) : St w0 M (Res.prop p :: L) D w :=
  h.push (Kept.refl _ _) hp (fun _ hf => hf.elim)
end Go.SK
namespace Go.SK
theorem St.init_Ds {D : List Res} {w : World} (h : ∀ d ∈ D, d.holds w) : St w NoM [] D w where
  kept := Kept.refl _ _
  hL := by simp
  hD := h
  new := by simp
  sep := List.Pairwise.nil
  sepD := by simp
end Go.SK
namespace Go.SK
open Go.RowKit
def EqOk (P : Program) (k : Nat) (T : TypeId) (x y : Value) (b : Bool) : Prop := ∀ (d : Nat) (w : World), (Op.equalIn (d + k) T x y).run P w = .ok b w
def PartOk (P : Program) (T : TypeId) (cs : List Value) (off : Nat) (v : Value) : Prop := ∀ w : World, (part T cs.toArray off).run P w = .ok v w
theorem EqOk.int {P : Program} {T : TypeId} {k : IntKind} {sz bytes : Nat} {zs : List Value} {a b : Int} (hT : TyF P T (.int k) sz bytes zs) : EqOk P 1 T (.int k a) (.int k b) (decide (a = b)) := fun d w => by
  rw [Op.equalIn]
  simp only [Sem.run_bind, hT.run_und, Result.andThen]
  have : (a == b) = decide (a = b) := rfl
  simp [this]
theorem EqOk.bool {P : Program} {T : TypeId} {sz bytes : Nat} {zs : List Value} {a b : Bool} (hT : TyF P T .bool sz bytes zs) : EqOk P 1 T (.bool a) (.bool b) (a == b) := fun d w => by
  rw [Op.equalIn]
  simp only [Sem.run_bind, hT.run_und, Result.andThen]
  simp
theorem EqOk.str {P : Program} {T : TypeId} {sz bytes : Nat} {zs : List Value} {a b : List UInt8} (hT : TyF P T .string sz bytes zs) : EqOk P 1 T (str a) (str b) (decide (a = b)) := fun d w => by
  rw [Op.equalIn]
  simp only [Sem.run_bind, hT.run_und, Result.andThen, SK.str]
  have : ((⟨a.toArray⟩ : ByteArray) == ⟨b.toArray⟩) = decide (a = b) := by
    show (a.toArray == b.toArray) = decide (a = b)
    by_cases h : a = b <;> simp [h]
  simp [this]
theorem PartOk.one {P : Program} {T : TypeId} {d : TypeDesc} {sz bytes : Nat} {zs cs : List Value} {off : Nat} {v : Value} (hT : TyF P T d sz bytes zs) (hd : aggB d = false) (hv : cs[off]? = some v) : PartOk P T cs off v := fun w => by
  simp only [part, Sem.run_bind, hT.run_isAgg, hd, Result.andThen]
  simp [hv]
theorem PartOk.agg {P : Program} {T : TypeId} {d : TypeDesc} {sz bytes : Nat} {zs cs vs : List Value} {off : Nat} (hT : TyF P T d sz bytes zs) (hd : aggB d = true) (hv : (cs.drop off).take sz = vs) : PartOk P T cs off (.agg vs.toArray) := fun w => by
  simp only [part, Sem.run_bind, hT.run_isAgg, hd, Result.andThen, if_true, hT.run_size]
  subst hv
  simp
inductive EqFields (P : Program) (k : Nat) (xs ys : List Value) : List Field → List Bool → Prop
  | nil : EqFields P k xs ys [] []
  | cons {f : Field} {fs : List Field} {b : Bool} {bs : List Bool} {px py : Value} (hn : f.name ≠ "_") (hx : PartOk P f.type xs f.offset px) (hy : PartOk P f.type ys f.offset py) (h : EqOk P k f.type px py b) (hr : EqFields P k xs ys fs bs) : EqFields P k xs ys (f :: fs) (b :: bs)
theorem EqOk.struct {P : Program} {T : TypeId} {k : Nat} {fs : List Field} {xs ys : List Value} {bs : List Bool} (hu : P.underlying T = some (.struct fs.toArray)) (hs : P.stoodInHeld T = false) (h : EqFields P k xs ys fs bs) :
    EqOk P (k + 1) T (.agg xs.toArray) (.agg ys.toArray) (bs.all id) := fun d w => by
  rw [show d + (k + 1) = (d + k) + 1 by omega, Op.equalIn]
  simp only [Sem.run_bind, run_underlying hu, Result.andThen]
  have hp : (program : Sem Program).run P w = .ok P w := rfl
  simp only [Sem.run_bind, hp, Result.andThen, hs, Bool.false_eq_true, if_false]
  simp only [List.forIn_toArray]
  clear hu
  induction h with
  | nil => simp
  | @cons f fs b bs px py hn hx hy h hr ih =>
    have h1 := hx w
    have h2 := hy w
    have h3 := h d w
    simp only [List.forIn_cons, Sem.run_bind, if_pos hn, h1, h2, h3, Result.andThen]
    cases b
    · simp
    · simp at ih ⊢
      exact ih
inductive EqElems (P : Program) (k : Nat) (e : TypeId) (es : Nat) (xs ys : List Value) : List Nat → List Bool → Prop
  | nil : EqElems P k e es xs ys [] []
  | cons {i : Nat} {is : List Nat} {b : Bool} {bs : List Bool} {px py : Value} (hx : PartOk P e xs (i * es) px) (hy : PartOk P e ys (i * es) py) (h : EqOk P k e px py b) (hr : EqElems P k e es xs ys is bs) : EqElems P k e es xs ys (i :: is) (b :: bs)
theorem EqOk.array {P : Program} {T e : TypeId} {k n es eb : Nat} {de : TypeDesc} {ez xs ys : List Value} {bs : List Bool} (hu : P.underlying T = some (.array n e)) (he : TyF P e de es eb ez) (h : EqElems P k e es xs ys (List.range n) bs) :
    EqOk P (k + 1) T (.agg xs.toArray) (.agg ys.toArray) (bs.all id) := fun d w => by
  rw [show d + (k + 1) = (d + k) + 1 by omega, Op.equalIn]
  simp only [Sem.run_bind, run_underlying hu, Result.andThen, he.run_size]
  rw [Std.Legacy.Range.forIn_eq_forIn_range']
  have e1 : List.range' 0 (Std.Legacy.Range.size [:n]) 1 = List.range n := by
    simp [Std.Legacy.Range.size, List.range_eq_range']
  simp only [e1]
  generalize List.range n = l at h
  clear hu e1
  induction h with
  | nil => simp
  | @cons i is b bs px py hx hy h hr ih =>
    have h1 := hx w
    have h2 := hy w
    have h3 := h d w
    simp only [List.forIn_cons, Sem.run_bind, h1, h2, h3, Result.andThen]
    cases b
    · simp
    · simp at ih ⊢
      exact ih
section
variable {P : Program} {ty : TypeId} {ρ : Operand → Value} {w : World} {C : Value → World → Prop} {T T2 : TypeId} {x y : Operand} {k : Nat} {xs ys : List Value} {b : Bool}
theorem equal_run {x y : Value} (h : EqOk P k T x y b) (hk : Nat.ble k 10000 = true) : (Op.equal T x y).run P w = .ok b w := by
  have := h (10000 - k) w
  rw [Nat.sub_add_cancel (Nat.le_of_ble_eq_true hk)] at this
  exact this
theorem Op1.eqlA (hx : ρ x = .agg xs.toArray) (hy : ρ y = .agg ys.toArray) (hg : P.eqGuardType P.depth T = false) (h : EqOk P k T (.agg xs.toArray) (.agg ys.toArray) b) (hc : C (.bool b) w) (hk : Nat.ble k 10000 = true := by rfl) : Op1 P (.binOp .eql T x y T2) ty ρ w C := by
  refine Op1.of (v := .bool b) (w' := w) ?_ hc
  have hp : (program : Sem Program).run P w = .ok P w := rfl
  simp only [execOp, hx, hy, eqGuard, binOp]
  simp [Sem.run_bind, hp, hg, Result.andThen, equal_run h hk]
end
end Go.SK
namespace Go.SK
open Go.RowKit
section
variable {w0 w : World} {M : Nat → Prop} {L1 L2 D : List Res}
theorem St.toD (h : St w0 M (L1 ++ L2) D w) : St w0 M L1 (L2 ++ D) w where
  kept := h.kept
  hL := fun r hr => h.hL r (List.mem_append_left _ hr)
  hD := fun r hr => (List.mem_append.1 hr).elim (fun hr => h.hL r (List.mem_append_right _ hr)) (fun hr => h.hD r hr)
  new := fun r hr => h.new r (List.mem_append_left _ hr)
  sep := (List.pairwise_append.1 h.sep).1
  sepD := fun r hr d hd => (List.mem_append.1 hd).elim (fun hd => (List.pairwise_append.1 h.sep).2.2 r hr d hd) (fun hd => h.sepD r (List.mem_append_left _ hr) d hd)
end
end Go.SK
namespace Go.SK
open Go.RowKit
def Res.sl (ao : Option Addr) (n cap : Nat) (e : TypeId) (es : Nat) (xs : List Value) : Res where
  foot := fun b => (Value.slice ao n cap).ownBlock = some b
  holds := fun w => w.ownsRow 0 e es (.slice ao n cap) n xs
  stable := fun w w' h hh => by
    refine ⟨hh.1, ?_⟩
    rcases hh.2 with hn | ⟨g, c, cur, hv, hb, hg, rest⟩
    · exact .inl hn
    · refine .inr ⟨g, c, cur, hv, hb, ?_, rest⟩
      rw [h g (by rw [hv]; rfl)]; exact hg
  inb := fun w hh b hb => (hh.lt b hb).2
section
variable {P : Program} {ty : TypeId} {ρ : Operand → Value} {w0 w : World} {C : Value → World → Prop} {M : Nat → Prop} {L L' D : List Res}
variable {T e : TypeId} {de : TypeDesc} {d : TypeDesc} {sz bytes es eb : Nat} {zs ez : List Value} {ao : Option Addr} {n cap : Nat} {xs : List Value}
theorem St.pushNil (h : St w0 M L D w) (e : TypeId) (es : Nat) : St w0 M (Res.sl none 0 0 e es [] :: L) D w :=
  h.push (Kept.refl _ _) (World.ownsRow_nil _ _ _ _) (fun b hb => by cases hb)
theorem Res.sl_some (h : (Res.sl ao n cap e es xs).holds w) (hn : 0 < n) : ∃ b, ao = some ⟨b, 0, none⟩ := by
  rcases h.2 with ⟨_, h0⟩ | ⟨g, c, cur, hv, _⟩
  · omega
  · cases hv; exact ⟨g, rfl⟩
theorem Res.sl_cells {b off k : Nat} (h : (Res.sl (some ⟨b, 0, none⟩) n cap e es xs).holds w) (vs : List Value) (hv : (xs.drop off).take k = vs) : Cells w b off vs := by
  subst hv
  intro i v hi
  rw [List.getElem?_take] at hi
  split at hi
  · rw [List.getElem?_drop] at hi
    have := h.cells (g := b) rfl _ _ hi
    rwa [addr_add, Nat.zero_add] at this
  · simp at hi
theorem Res.sl_cell {b off : Nat} {v : Value} (h : (Res.sl (some ⟨b, 0, none⟩) n cap e es xs).holds w) (hv : xs[off]? = some v) : w.cell? ⟨b, off, none⟩ = some v := by
  have := h.cells (g := b) rfl _ _ hv
  rwa [addr_add, Nat.zero_add] at this
theorem maxLen_eq : maxLen = 9223372036854775807 := by simp [maxLen]
theorem oneCell_ok {v : Value} (h : okCell v = true) : v.oneCell' = true := by
  cases v <;> first | rfl | simp [okCell] at h
theorem Op1.append {x y : Operand} {b o m c : Nat} {news : List Value} (hst : St w0 M L D w) (hT : TyF P T (.slice e) sz bytes zs) (he : TyF P e de es eb ez) (hes : Nat.ble 1 es = true) (hebs : Nat.ble 1 eb = true)
    (hr : Rem (Res.sl ao n cap e es xs) L L') (hx : ρ x = .slice ao n cap) (hy : ρ y = .slice (some ⟨b, o, none⟩) m c) (hl : news.length = m * es) (hc : Cells w b o news) (hok : news.all okCell = true)
    (hez : ez.length = es) (hb : (n + m) * eb ≤ 140737488355328)
    (h : ∀ (w' : World) (ao' : Option Addr) (cap' : Nat), St w0 M (Res.sl ao' (n + m) cap' e es (xs ++ news) :: L') D w' → C (.slice ao' (n + m) cap') w') :
    Op1 P (.call ⟨.builtin .append, #[x, y], #[T, T]⟩) ty ρ w C := by
  obtain ⟨i, z, h1, h2, h3, h4, h5⟩ := he.info
  have hown : w.ownsRow 0 e es (.slice ao n cap) n xs := hst.hL _ hr.mem
  have hes' : 0 < es := Nat.le_of_ble_eq_true hes
  have hebs' : 0 < eb := Nat.le_of_ble_eq_true hebs
  have hnm : n + m ≤ (n + m) * eb := Nat.le_mul_of_pos_right _ hebs'
  have hcell : ∀ j u, news[j]? = some u → w.cell? ((⟨b, o, none⟩ : Addr).add j) = some u := fun j u hj => by rw [addr_add]; exact hc j u hj
  have h1c : ∀ u ∈ news, u.oneCell' = true := fun u hu => oneCell_ok (List.all_eq_true.1 hok u hu)
  have hzs : z.cells.size = es := by rw [h5]; simpa using hez
  have key : ∃ v' w', (Builtin.append_ #[T, T] ty #[.slice ao n cap, .slice (some ⟨b, o, none⟩) m c]).run P w = .ok v' w' ∧ w'.ownsRow 0 e es v' (n + m) (xs ++ news) ∧ w.grownBy w' (Value.slice ao n cap).ownBlock ∧
      ∀ k, v'.ownBlock = some k → (Value.slice ao n cap).ownBlock = some k ∨ w.heap.size ≤ k := by
    rcases hown.2 with ⟨hv, h0⟩ | ⟨g, cc, cur, hv, hb0, hg, hnc, hcm, hcs, htake⟩
    · obtain ⟨v', w', r1, r2, r3, _⟩ := run_append_own w w.heap.size T ty e i z es eb hT.und h1 h4 h2 h3 hzs hes' (.slice ao n cap) n xs ⟨hown.1, .inl ⟨hv, h0⟩⟩ ⟨b, o, none⟩ m c news hl hcell h1c (by rw [maxLen_eq]; omega) hb (Nat.le_refl _)
      exact ⟨v', w', r1, ⟨r2.1, r2.2.imp id fun ⟨g, cc, cur, e1, _, e2⟩ => ⟨g, cc, cur, e1, Nat.zero_le _, e2⟩⟩, r3, fun k hk => .inr (r2.lt k hk).1⟩
    · cases hv
      by_cases hroom : n + m ≤ cap
      · obtain ⟨v', w', r1, r2, r3, _⟩ := run_append_own w 0 T ty e i z es eb hT.und h1 h4 h2 h3 hzs hes' _ n xs hown ⟨b, o, none⟩ m c news hl hcell h1c (by rw [maxLen_eq]; omega) hb (Nat.zero_le _)
        have r4 := run_append_room (P := P) w T ty e i hT.und h1 g n cap cur hg ⟨b, o, none⟩ m c news (by rw [h2]; exact hl) hcell h1c hroom (by rw [h2, hl, hcs, ← Nat.add_mul]; exact Nat.mul_le_mul_right _ hroom)
        rw [r1] at r4
        injection r4 with e1 e2
        refine ⟨v', w', r1, r2, r3, fun k hk => .inl ?_⟩
        rw [e1] at hk
        exact hk
      · obtain ⟨v', w', r1, r2, r3⟩ := run_append_arg_grows (P := P) w T ty e i z es eb hT.und h1 h4 h2 h3 hzs hes' ⟨g, 0, none⟩ n cap xs hown.1 (hown.cells (g := g) rfl) ⟨b, o, none⟩ m c news hl hcell (by omega) (by rw [maxLen_eq]; omega) hb
        exact ⟨v', w', r1, ⟨r2.1, r2.2.imp id fun ⟨g, cc, cur, e1, _, e2⟩ => ⟨g, cc, cur, e1, Nat.zero_le _, e2⟩⟩, ⟨r3.os, r3.tape, r3.output, r3.size, fun k hk _ => r3.block k hk (by simp)⟩, fun k hk => .inr (r2.lt k hk).1⟩
  obtain ⟨v', w', hrun, hown', hg, hblk⟩ := key
  have hshape : ∃ ao' cap', v' = .slice ao' (n + m) cap' := by
    rcases hown'.2 with ⟨hv, h0⟩ | ⟨g, cc, cur, hv, _⟩
    · exact ⟨none, 0, by rw [hv, h0]⟩
    · exact ⟨_, _, hv⟩
  obtain ⟨ao', cap', rfl⟩ := hshape
  refine Op1.builtin (args := [x, y]) (v := .slice ao' (n + m) cap') (w' := w') (fun cs => ?_) (h w' ao' cap' ?_)
  · simp only [List.map_cons, List.map_nil, hx, hy]
    simp [Go.builtin, hrun]
  · exact (hst.front hr).upd .here ⟨hg.os, hg.tape, hg.output, hg.size, fun k hk hne => hg.block k hk (fun e => hne e.symm)⟩ hown' hblk
theorem flat_drop {α : Type} {g : α → List Value} {es : Nat} (hg : ∀ a, (g a).length = es) : ∀ (l : List α) (i : Nat), (l.flatMap g).drop (i * es) = (l.drop i).flatMap g
  | l, 0 => by simp
  | [], i + 1 => by simp
  | a :: l, i + 1 => by
    rw [List.flatMap_cons, List.drop_succ_cons, ← flat_drop hg l i, show (i + 1) * es = (g a).length + i * es by rw [hg]; grind, List.drop_append]
    simp
theorem flat_seg {α : Type} {g : α → List Value} {d : α} {es : Nat} (hg : ∀ a, (g a).length = es) (l : List α) (i : Nat) (h : i < l.length) : ((l.flatMap g).drop (0 + i * es)).take es = g (l.getD i d) := by
  rw [Nat.zero_add, flat_drop hg]
  have : l.drop i = l.getD i d :: l.drop (i + 1) := by
    rw [List.drop_eq_getElem_cons h]; simp [List.getD, h]
  rw [this, List.flatMap_cons, List.take_append_of_le_length (by rw [hg]; exact Nat.le_refl _), List.take_of_length_le (by rw [hg]; exact Nat.le_refl _)]
theorem flat_cell {α : Type} {g : α → List Value} {d : α} {es : Nat} {v : Value} (hg : ∀ a, (g a).length = es) {l : List α} {i o : Nat} (hv : (g (l.getD i d))[o]? = some v) (h : i < l.length) : (l.flatMap g)[0 + i * es + o]? = some v := by
  have h1 := flat_seg (d := d) hg l i h
  rw [← h1, List.getElem?_take] at hv
  split at hv
  · rw [List.getElem?_drop] at hv; exact hv
  · cases hv
theorem flat_cell0 {α : Type} {g : α → List Value} {d : α} {es : Nat} {v : Value} (hg : ∀ a, (g a).length = es) {l : List α} {i : Nat} (hv : (g (l.getD i d))[0]? = some v) (h : i < l.length) : (l.flatMap g)[0 + i * es]? = some v :=
  flat_cell (o := 0) hg hv h
theorem Op1.buildSl {parts : List (Nat × Operand)} {z0 l' : List Value} {k : Nat} (hst : St w0 M L D w) (hT : TyF P T (.slice e) sz bytes zs) (he : TyF P e de es eb ez) (hk : Nat.ble (k * es) 16777216 = true) (hp : Nat.ble 1 (k * es) = true)
    (hz : (Array.range (k * es)).map (fun j => ez.toArray[j % ez.toArray.size]!) = z0.toArray) (hf : Fills ρ (arrPlace es) z0 parts l')
    (h : ∀ (w' : World) (b : Nat), St w0 M (Res.row b e l' :: L) D w' → C (.slice (some ⟨b, 0, none⟩) k k) w') : Op1 P (.buildSlice T k parts.toArray) ty ρ w C := by
  obtain ⟨z, hzz, hzs⟩ := he.run_zero w
  have hb := hf.build
  have hk' := Nat.le_of_ble_eq_true hk
  have hp' := Nat.le_of_ble_eq_true hp
  have hr : (Instr.buildSlice T k (parts.toArray.map fun p => (p.1, ρ p.2))).run P w = .ok (.slice (some ⟨w.heap.size, 0, none⟩) k k) (w.alloc (.cells l'.toArray e)) := by
    unfold Instr.buildSlice
    simp only [Sem.run_bind, hT.run_und, Result.andThen, he.run_size]
    rw [if_neg (by omega), if_neg (by omega)]
    simp only [Sem.run_bind, hzz, Result.andThen, Sem.run_pure, hzs, hz]
    unfold arrPlace at hb
    rw [hb]
    simp [newRow, Result.andThen]
  refine Inv.value (v := .slice (some ⟨w.heap.size, 0, none⟩) k k) (w' := w.alloc (.cells l'.toArray e)) ?_ (h _ _ ?_)
  · simp only [execOp, Sem.run_bind]
    rw [hr]
    rfl
  · refine hst.push (Kept.alloc _ _ _) ?_ ?_
    · simp only [Res.obj]; rw [alloc_new]
    · intro b hb; exact Nat.le_of_eq hb.symm
end
end Go.SK
namespace Go.SK
theorem DrawTab.mask {ops : Array Oper} {bs : List Nat} {ds : List (Option Nat)} (h : DrawTab ops bs ds) (f : Nat → Value) {j l t : Nat} (hw : bitB (bs.getD j 0) l = true) (hd : ds.getD l none = some t) : SK.mask ops j f t = f t :=
  mask_get f (by rw [h.waits, bitB_eq]; exact hw) (by rw [h.dstOf]; exact hd)
end Go.SK
namespace Go.SK
open Go.RowKit
theorem sts_app (l m : List (Nat × Value)) (f : Nat → Value) : sts (l ++ m) f = sts l (sts m f) := by
  induction l with
  | nil => rfl
  | cons p l ih => obtain ⟨t, v⟩ := p; simp only [List.cons_append, sts, ih]
theorem Slots.app {f : Nat → Value} : ∀ {l m : List (Nat × Value)}, Slots f l → Slots f m → Slots f (l ++ m)
  | [], _, _, h => h
  | (_, _) :: _, _, h1, h2 => ⟨h1.1, Slots.app h1.2 h2⟩
theorem Slots.left {f : Nat → Value} : ∀ {l m : List (Nat × Value)}, Slots f (l ++ m) → Slots f l
  | [], _, _ => trivial
  | (_, _) :: _, _, h => ⟨h.1, Slots.left h.2⟩
theorem Run.indW {α : Type} {P : Program} {b : Base} {k : List Item} {E : Frame → World → Prop} {w0 : World} {M : Nat → Prop} {L2 D : List Res} {F : Nat → Value} {w : World} (kv : List (Nat × Value)) (hkv : Slots F kv) (st : α → List (Nat × Value)) (Lm : α → List Res) (J : α → Prop) (μ : α → Nat) (a0 : α)
    (hst : St w0 M (Lm a0 ++ L2) D w) (hJ : J a0) (hf : Slots F (st a0))
    (h : ∀ (a : α) (f : Nat → Value) (w : World), St w0 M (Lm a ++ L2) D w → J a →
      (∀ (a' : α) (f' : Nat → Value) (w' : World), μ a' < μ a → St w0 M (Lm a' ++ L2) D w' → J a' → Slots f' kv → Slots f' (st a') → Run P b k f' w' E) → Run P b k (sts (st a) (sts kv f)) w E) : Run P b k F w E :=
  Run.ind (fun a => st a ++ kv) [] (fun a w => St w0 M (Lm a ++ L2) D w ∧ J a) μ a0 ⟨hst, hJ⟩ (hf.app hkv) trivial fun a f w _ hI ih => by
    rw [sts_app]
    exact h a f w hI.1 hI.2 fun a' f' w' hlt hs hJ' hk hsl => ih a' f' w' hlt ⟨hs, hJ'⟩ trivial (hsl.app hk)
end Go.SK
namespace Go.SK
open Go.RowKit
theorem Run.forget {P : Program} {b : Base} {k : List Item} {E : Frame → World → Prop} {f : Nat → Value} {w : World} (kv : List (Nat × Value)) (hkv : Slots f kv) (h : ∀ f', Run P b k (sts kv f') w E) : Run P b k f w E := by
  have := h f
  rwa [sts_self hkv] at this
end Go.SK
namespace Go.SK
open Go.RowKit Go.ChangeShapes Go.WideShapes Go.ChangeAt
theorem flat_len {α : Type} {g : α → List Value} {es : Nat} (hg : ∀ a, (g a).length = es) : ∀ l : List α, (l.flatMap g).length = l.length * es
  | [] => by simp
  | a :: l => by rw [List.flatMap_cons, List.length_append, hg, flat_len hg l, List.length_cons, Nat.add_mul]; omega
def Res.rs (ao : Option Addr) (n es : Nat) (xs : List Value) : Res where
  foot := fun b => 0 < xs.length ∧ ∃ o, ao = some ⟨b, o, none⟩
  holds := fun w => xs.length = n * es ∧ (n = 0 ∨ ∃ b o, ao = some ⟨b, o, none⟩ ∧ Cells w b o xs)
  stable := fun w w' h hh => by
    refine ⟨hh.1, ?_⟩
    rcases hh.2 with hn | ⟨b, o, rfl, hc⟩
    · exact .inl hn
    · refine .inr ⟨b, o, rfl, fun i v hi => ?_⟩
      have h0 : 0 < xs.length := by have := (List.getElem?_eq_some_iff.1 hi).1; omega
      have hb := h b ⟨h0, o, rfl⟩
      have := hc i v hi
      simpa only [World.cell?, hb] using this
  inb := fun w hh b hb => by
    obtain ⟨h0, o, rfl⟩ := hb
    rcases hh.2 with hn | ⟨b', o', he, hc⟩
    · rw [hh.1, hn] at h0; omega
    · cases he
      have := hc 0 xs[0] (by simp [h0])
      simp only [World.cell?] at this
      split at this
      · rename_i heq; exact (Array.getElem?_eq_some_iff.1 heq).1
      · cases this
section
variable {ao : Option Addr} {n cap es : Nat} {e : TypeId} {xs : List Value} {w : World}
theorem Res.rs_of_sl (h : (Res.sl ao n cap e es xs).holds w) : (Res.rs ao n es xs).holds w := by
  refine ⟨h.1, ?_⟩
  rcases h.2 with ⟨hv, h0⟩ | ⟨g, c, cur, hv, _⟩
  · exact .inl h0
  · cases hv
    exact .inr ⟨g, 0, rfl, Res.sl_cells (k := xs.length) h xs (by simp)⟩
theorem Res.rs_some (h : (Res.rs ao n es xs).holds w) (hn : 0 < n) : ∃ b o, ao = some ⟨b, o, none⟩ := by
  rcases h.2 with h0 | ⟨b, o, rfl, _⟩
  · omega
  · exact ⟨b, o, rfl⟩
end
end Go.SK
namespace Go.SK
open Go.RowKit
def Rb : Option Addr → Nat
  | some a => a.block
  | none => 0
def Ro : Option Addr → Nat
  | some a => a.off
  | none => 0
section
variable {ao : Option Addr} {n es : Nat} {xs : List Value} {w : World}
theorem Res.rs_all2 (h : (Res.rs ao n es xs).holds w) : Cells w (Rb ao) (Ro ao) xs := by
  rcases h.2 with h0 | ⟨b, o, rfl, hc⟩
  · have : xs = [] := List.length_eq_zero_iff.1 (by rw [h.1, h0]; simp)
    subst this
    intro i v hi; simp at hi
  · exact hc
theorem Res.rs2_cell {k : Nat} {v : Value} (h : (Res.rs ao n es xs).holds w) (hv : xs[0 + k]? = some v) : w.cell? ⟨Rb ao, Ro ao + k, none⟩ = some v := by
  rw [Nat.zero_add] at hv; exact Res.rs_all2 h k v hv
theorem Res.rs2_cellF {k f : Nat} {v : Value} (h : (Res.rs ao n es xs).holds w) (hv : xs[0 + k + f]? = some v) : w.cell? ⟨Rb ao, Ro ao + k + f, none⟩ = some v := by
  rw [Nat.zero_add] at hv
  have := Res.rs_all2 h (k + f) v hv
  rwa [← Nat.add_assoc] at this
end
section
variable {P : Program} {ty : TypeId} {ρ : Operand → Value} {w : World} {C : Value → World → Prop} {T e : TypeId} {de : TypeDesc} {sz bytes es eb : Nat} {zs ez xs : List Value} {ao : Option Addr} {n c : Nat}
theorem Op1.indexRs {x y : Operand} {k : IntKind} {i : Int} (hT : TyF P T (.slice e) sz bytes zs) (he : TyF P e de es eb ez) (hr : (Res.rs ao n es xs).holds w)
    (hx : ρ x = .slice ao n c) (hy : ρ y = .int k i) (h0 : 0 ≤ i) (h1 : i < n) (h : C (.pointer (some ⟨Rb ao, Ro ao + i.toNat * es, none⟩)) w) : Op1 P (.indexAddr T x y) ty ρ w C := by
  obtain ⟨b, o, rfl⟩ := Res.rs_some hr (by omega)
  exact Op1.indexSl hT he hx hy h0 h1 h
end
end Go.SK
namespace Go.SK
open Go.RowKit Go.ChangeShapes Go.WideShapes Go.ChangeAt
abbrev byC (c : UInt8) : List Value := [.int .u8 (c.toNat : Int)]
theorem byC_len (c : UInt8) : (byC c).length = 1 := rfl
abbrev u32C (x : Int) : List Value := [.int .u32 x]
theorem flat_byC : ∀ l : List UInt8, l.flatMap byC = l.map fun c => Value.int .u8 (c.toNat : Int)
  | [] => rfl
  | c :: l => by rw [List.flatMap_cons, flat_byC l]; rfl
section
variable {P : Program} {ty : TypeId} {ρ : Operand → Value} {w0 w : World} {C : Value → World → Prop} {M : Nat → Prop} {L L' D : List Res}
variable {T T2 e : TypeId} {de : TypeDesc} {sz bytes es eb : Nat} {zs ez : List Value} {ao : Option Addr} {n cap : Nat} {xs : List Value}
variable {k k2 k3 : IntKind} {x y z u : Operand} {lo hi mx : Int}
theorem Op1.bytesStr {S : TypeId} {l : List UInt8} {sz2 b2 : Nat} {z2 : List Value} (hT : TyF P T (.slice e) sz bytes zs) (he : TyF P e (.int .u8) es eb ez) (hS : TyF P S .string sz2 b2 z2) (hx : ρ x = .slice ao l.length cap) (hr : (Res.rs ao l.length 1 (l.flatMap byC)).holds w)
    (h : C (str l) w) : Op1 P (.convert T S x) ty ρ w C := by
  refine Inv.value (v := str l) (w' := w) ?_ h
  simp only [execOp, hx, Sem.run_bind]
  have goal : (convert T S (.slice ao l.length cap)).run P w = .ok (str l) w := by
    rcases hr.2 with h0 | ⟨b, o, rfl, hc⟩
    · have hl : l = [] := List.length_eq_zero_iff.1 h0
      subst hl
      rw [run_convert_bytes_string w T S e _ _ _ hT.und he.und hS.und]
      cases ao with
      | none => rfl
      | some a => simp [Conv.bytesToString, loadCells, loadCellsFrom, str, ByteArray.empty, ByteArray.emptyWithCapacity]; rfl
    · rw [run_convert_bytes_arg w T e hT.und he.und b o l.length cap (l.map fun c => (c.toNat : Int)) (by simp) (fun i hi => ?_) S hS.und]
      · have e : (l.map fun c => (c.toNat : Int)).map (fun n => UInt8.ofNat n.toNat) = l := by
          rw [List.map_map]; exact (List.map_congr_left (fun c _ => by simp)).trans (List.map_id l)
        simp only [strOfNums, e, str]
      · have := hc i (.int .u8 (l[i].toNat : Int)) (by
          rw [flat_byC]; simp [hi])
        rw [this]; simp [List.getD, hi]
  rw [goal]; rfl
end
end Go.SK
namespace Go.SK
theorem Op1.bytesStr2 {P : Program} {ty : TypeId} {ρ : Operand → Value} {w : World} {C : Value → World → Prop} {T e S : TypeId} {l : List UInt8} {ao : Option Addr} {cap n : Nat} {xs : List Value} {x : Operand} {sz bytes es eb sz2 b2 : Nat} {zs ez z2 : List Value} (hT : TyF P T (.slice e) sz bytes zs) (he : TyF P e (.int .u8) es eb ez) (hS : TyF P S .string sz2 b2 z2) (hx : ρ x = .slice ao n cap) (hn : n = l.length) (hr : (Res.rs ao n 1 xs).holds w) (hxs : xs = l.flatMap byC)
    (h : C (str l) w) : Op1 P (.convert T S x) ty ρ w C := by
  subst hn; subst hxs; exact Op1.bytesStr hT he hS hx hr h
end Go.SK
namespace Go.SK
open Go.RowKit Go.ChangeShapes Go.WideShapes Go.ChangeAt
structure ArgP where
  kind : Int
  n : Int
  s : List UInt8
  deriving DecidableEq
def zeroA : ArgP := ⟨0, 0, []⟩
structure InstP where
  op : Int
  ty : Int
  res : Int
  ao : Option Addr
  cap : Nat
  args : List ArgP
structure InstL where
  op : Int
  ty : Int
  res : Int
  args : List ArgP
  deriving DecidableEq
abbrev InstP.L (i : InstP) : InstL := ⟨i.op, i.ty, i.res, i.args⟩
def Res.all (L : List Res) : Res where
  foot := fun b => ∃ r ∈ L, r.foot b
  holds := fun w => ∀ r ∈ L, r.holds w
  stable := fun w w' h hh r hr => r.stable w w' (fun b hb => h b ⟨r, hr, hb⟩) (hh r hr)
  inb := fun w hh b ⟨r, hr, hb⟩ => r.inb w (hh r hr) b hb
def cpG {α : Type} (d : α) (l : List α) (n i : Nat) : List α := l.take i ++ List.replicate (n - i) d
theorem insts_len {l m : List InstP} (h : l.map InstP.L = m.map InstP.L) : l.length = m.length := by simpa using congrArg List.length h
theorem take_getD2 {α : Type} {l : List α} {i : Nat} {d : α} (h : i < l.length) : l.take (i + 1) = l.take i ++ [l.getD i d] := by
  rw [List.take_succ_eq_append_getElem h]; simp [List.getD, h]
end Go.SK
namespace Go.SK
open Go.RowKit Go.ChangeShapes Go.WideShapes Go.ChangeAt
def Wd (w : List Int) : Prop := ∀ x ∈ w, 0 ≤ x ∧ x < 4294967296
def wordAt (b : List UInt8) (i : Nat) : Int := (b.getD (4 * i) 0).toNat + 256 * (b.getD (4 * i + 1) 0).toNat + 65536 * (b.getD (4 * i + 2) 0).toNat + 16777216 * (b.getD (4 * i + 3) 0).toNat
def splitW (b : List UInt8) : List Int := (List.range (b.length / 4)).map (wordAt b)
def byteU (x : Int) (k : Nat) : UInt8 := UInt8.ofNat ((x / 256 ^ k) % 256).toNat
def byteAt (w : List Int) (k : Nat) : UInt8 := byteU (w.getD (k / 4) 0) (k % 4)
def joinW (w : List Int) : List UInt8 := (List.range (4 * w.length)).map (byteAt w)
theorem joinW_len (w : List Int) : (joinW w).length = 4 * w.length := by simp [joinW]
end Go.SK
namespace Go.SK
def zeroAt (b : List UInt8) : Nat := b.findIdx (· == 0)
def textF (l : List Int) : List UInt8 × Int × Int :=
  if zeroAt (joinW l) = 4 * l.length then ([], 0, 11)
  else if l.getD (zeroAt (joinW l) / 4) 0 / 256 ^ (zeroAt (joinW l) % 4) ≠ 0 then ([], 0, 12)
  else ((joinW l).take (zeroAt (joinW l)), ((zeroAt (joinW l) / 4 + 1 : Nat) : Int), 0)
end Go.SK
namespace Go.SK
def padded (s : List UInt8) : List UInt8 := cpG 0 s (4 * (s.length / 4 + 1)) s.length
def ofTextE (s : List UInt8) : Int := if zeroAt s ≠ s.length then 13 else if s.length / 4 + 1 > 65535 then 4 else 0
def ofTextL (s : List UInt8) : List Int := if ofTextE s = 0 then splitW (padded s) else []
end Go.SK
namespace Go.SK
open Go.RowKit Go.ChangeShapes Go.WideShapes Go.ChangeAt
section
variable {P : Program} {ty : TypeId} {ρ : Operand → Value} {w : World} {C : Value → World → Prop} {T T2 : TypeId} {x y : Operand}
theorem Op1.shlV {k k2 : IntKind} {a s c : Int} (hx : ρ x = .int k a) (hy : ρ y = .int k2 s) (h0 : 0 ≤ s) (hs : s.toNat ≤ k.bits) (hc : k.wrap (a * 2 ^ s.toNat) = c) (h : C (.int k c) w) : Op1 P (.binOp .shl T x y T2) ty ρ w C :=
  Op1.shlC (n := s.toNat) hx (by rw [hy, Int.toNat_of_nonneg h0]) hs hc h
end
end Go.SK
namespace Go.SK
open Go.RowKit Go.ChangeShapes Go.WideShapes Go.ChangeAt
abbrev RdR (T e : TypeId) (b : Nat) (ao : Option Addr) (cp : Nat) (l : List Int) (a : Nat) : Res := Res.star [Res.row b T [.slice ao l.length cp, .int .i64 (a : Int)], Res.sl ao l.length cp e 1 (l.flatMap u32C)]
theorem RdR.row {T e : TypeId} {b : Nat} {ao : Option Addr} {cp a : Nat} {l : List Int} {w : World} (h : (RdR T e b ao cp l a).holds w) : (Res.row b T [.slice ao l.length cp, .int .i64 (a : Int)]).holds w := h.1 _ (.head _)
theorem RdR.words {T e : TypeId} {b : Nat} {ao : Option Addr} {cp a : Nat} {l : List Int} {w : World} (h : (RdR T e b ao cp l a).holds w) : (Res.rs ao l.length 1 (l.flatMap u32C)).holds w := Res.rs_of_sl (h.1 _ (.tail _ (.head _)))
end Go.SK
namespace Go.SK
open Go.RowKit Go.ChangeShapes Go.WideShapes Go.ChangeAt
theorem textF_cases (l : List Int) : (∃ e : Int, textF l = ([], 0, e) ∧ (e = 11 ∨ e = 12)) ∨ ∃ (s : List UInt8) (n : Nat), textF l = (s, (n : Int), 0) ∧ 1 ≤ n ∧ n ≤ l.length ∧ s.length < 4 * n := by
  unfold textF
  by_cases h1 : zeroAt (joinW l) = 4 * l.length
  · rw [if_pos h1]; exact .inl ⟨11, rfl, .inl rfl⟩
  · rw [if_neg h1]
    by_cases h2 : l.getD (zeroAt (joinW l) / 4) 0 / 256 ^ (zeroAt (joinW l) % 4) ≠ 0
    · rw [if_pos h2]; exact .inl ⟨12, rfl, .inr rfl⟩
    · rw [if_neg h2]
      have hle : zeroAt (joinW l) ≤ (joinW l).length := List.findIdx_le_length
      rw [joinW_len] at hle
      exact .inr ⟨_, _, rfl, by omega, by omega, by rw [List.length_take, joinW_len]; omega⟩
end Go.SK
namespace Go.SK
open Go.RowKit Go.ChangeShapes Go.WideShapes Go.ChangeAt
theorem CallV.ext {P : Program} {g : FuncId} {fn : Func} {e : Array Value → Sem Value} {args : List Value} {w : World} {v : Value} {C : Value → World → Prop} (hf : P.funcs[g]? = some fn) (hname : (fn.name == "runtime.NumGoroutine") = false) (hb : fn.body.isNone = true) (hn : Extern.findNext fn = none) (he : Extern.find fn = some e)
    (hr : (e args.toArray).run P w = .ok v w) (h : C v w) : CallV P (.func (.func g) #[] #[]) args w C := by
  refine Inv.value (v := v) (w' := w) ?_ h
  have := run_callFunc_standIn hf hname hb hn he args.toArray w
  rw [hr] at this
  simpa [Deferred.ofValue, invoke, Result.andThen] using this
end Go.SK
namespace Go.SK
open Go.RowKit Go.ChangeShapes Go.WideShapes Go.ChangeAt
structure RawP where
  op : Int
  ao : Option Addr
  cap : Nat
  ws : List Int
end Go.SK
namespace Go.SK
abbrev Res.emp : Res := Res.prop True
theorem Sel.swap {r e : Res} {X X2 : List Res} (h : Sel r e X X2) (q : Res) : ∃ X1, Sel r q X X1 ∧ (e :: X1).Perm (q :: X2) := by
  induction h with
  | here => exact ⟨_, .here, List.Perm.swap _ _ _⟩
  | there _ ih =>
    rename_i a L L' _
    obtain ⟨X1, h1, h2⟩ := ih
    exact ⟨a :: X1, .there h1, (List.Perm.swap _ _ _).trans ((List.Perm.cons a h2).trans (List.Perm.swap _ _ _))⟩
variable {P : Program} {b : Base} {k : List Item} {E : Frame → World → Prop} {ops : Array Oper} {f : Nat → Value} {w0 w : World} {M : Nat → Prop} {L D : List Res} {pd : Pend} {tk : Takes} {bs : List Nat} {ds : List (Option Nat)} {i : Nat} {l : List Oper} {ws : Nat → Word}
end Go.SK
namespace Go.SK
theorem Sel.remd {r e : Res} {X X2 : List Res} (h : Sel r e X X2) : ∃ X1, Rem r X X1 ∧ X2.Perm (e :: X1) := by
  induction h with
  | here => exact ⟨_, .here, List.Perm.refl _⟩
  | there _ ih =>
    rename_i a L L' _
    obtain ⟨X1, h1, h2⟩ := ih
    exact ⟨a :: X1, .there h1, (List.Perm.cons a h2).trans (List.Perm.swap _ _ _)⟩
variable {P : Program} {b : Base} {k : List Item} {E : Frame → World → Prop} {ops : Array Oper} {f : Nat → Value} {w0 w : World} {M : Nat → Prop} {L D : List Res} {pd : Pend} {tk : Takes} {bs : List Nat} {ds : List (Option Nat)} {i : Nat} {l : List Oper} {ws : Nat → Word}
theorem RunD.ownC {d : Option Tmp} {op : Op} {ty : TypeId} {pos : String} {aft : Array Edge} {r : Res} (wd : Word) (htab : DrawTab ops bs ds) (i' : Nat) (hm : (i, r, Res.emp) ∈ pd)
    (hv : ∀ f' L' L'' w', Know1 tk bs ds f w0 M L D i ws f' L' w' → (∃ X, Rem r (L' ++ L) X ∧ ∀ w'' q, St w0 M (q :: X) D w'' → St w0 M (q :: (L'' ++ L)) D w'') →
      Op1 P op ty (ev b.n f') w' (fun v w'' => ∃ rs, (∀ g, (∀ l u, bitB (bs.getD i 0) l = true → ds.getD l none = some u → g u = f' u) → wd g v rs) ∧ St w0 M (rs ++ (L'' ++ L)) D w''))
    (h : RunD tk pd P b ops bs ds k E f w0 M L D w i' l (updW ws i wd)) (hi : i + 1 = i' := by rfl) (hd : isDefer op = false := by rfl) (hk : tkNo tk i = true := by rfl) : RunD tk pd P b ops bs ds k E f w0 M L D w i (⟨d, op, ty, pos, aft, none⟩ :: l) ws := by
  subst hi
  refine RunD.cons wd (fun ho φ hφ hi2 o ho' f' L' L'' w' hc => ?_) h
  rw [ho] at ho'
  obtain rfl := Option.some.inj ho'
  refine .inl ⟨rfl, hd, ?_⟩
  rw [hi2]
  refine (hv f' L' L'' w' (know1_of htab hφ ho hc) ?_).mono fun v w'' ⟨rs, h1, h2⟩ => ⟨rs, h1 _ fun l u hl hu => mask_get f' (by rw [htab.waits, bitB_eq]; exact hl) (by rw [htab.dstOf]; exact hu), h2⟩
  obtain ⟨X, h1, h2⟩ := ((hc.turn.own r _ hm (tkNo_spec hk)).right L).remd
  exact ⟨X, h1, fun w'' q hst => ((hst.addProp (p := True) trivial).perm (List.Perm.swap _ _ _)).perm (List.Perm.cons q h2.symm)⟩
end Go.SK
namespace Go.SK
open Go.RowKit Go.ChangeShapes Go.WideShapes Go.ChangeAt
abbrev RawP.L (r : RawP) : Int × List Int := (r.op, r.ws)
end Go.SK
namespace Go.SK
abbrev Byts := List UInt8
def namesT : List (Int × Byts) := [(107, [48, 32, 77, 97, 116, 114, 105, 120, 32, 49, 32, 83, 104, 97, 100, 101, 114, 32]),
  (97, [48, 32, 76, 111, 103, 105, 99, 97, 108, 32]),
  (109, [48, 32, 83, 105, 109, 112, 108, 101, 32, 49, 32, 71, 76, 83, 76, 52, 53, 48, 32]),
  (101, [48, 32, 86, 101, 114, 116, 101, 120, 32, 52, 32, 70, 114, 97, 103, 109, 101, 110, 116, 32]),
  (120, [55, 32, 79, 114, 105, 103, 105, 110, 85, 112, 112, 101, 114, 76, 101, 102, 116, 32]),
  (108, [48, 32, 85, 110, 107, 110, 111, 119, 110, 32, 49, 32, 69, 83, 83, 76, 32, 50, 32, 71, 76, 83, 76, 32]),
  (99, [49, 32, 73, 110, 112, 117, 116, 32, 51, 32, 79, 117, 116, 112, 117, 116, 32, 54, 32, 80, 114, 105, 118, 97, 116, 101, 32, 55, 32, 70, 117, 110, 99, 116, 105, 111, 110, 32]),
  (100, [48, 32, 82, 101, 108, 97, 120, 101, 100, 80, 114, 101, 99, 105, 115, 105, 111, 110, 32, 49, 49, 32, 66, 117, 105, 108, 116, 73, 110, 32, 49, 52, 32, 70, 108, 97, 116, 32, 51, 48, 32, 76, 111, 99, 97, 116, 105, 111, 110, 32]),
  (102, [48, 32, 78, 111, 110, 101, 32, 49, 32, 73, 110, 108, 105, 110, 101, 32, 50, 32, 68, 111, 110, 116, 73, 110, 108, 105, 110, 101, 32, 52, 32, 80, 117, 114, 101, 32, 56, 32, 67, 111, 110, 115, 116, 32]),
  (104, [48, 32, 78, 111, 110, 101, 32, 49, 32, 70, 108, 97, 116, 116, 101, 110, 32, 50, 32, 68, 111, 110, 116, 70, 108, 97, 116, 116, 101, 110, 32]),
  (103, [48, 32, 78, 111, 110, 101, 32, 49, 32, 85, 110, 114, 111, 108, 108, 32, 50, 32, 68, 111, 110, 116, 85, 110, 114, 111, 108, 108, 32])]
structure FormL where
  op : Int
  name : Byts
  ty : Bool
  res : Bool
  fixed : Byts
  rest : Byts
  most : Int
  part : Int
  deriving DecidableEq
def refT : List FormL := [⟨1, [79, 112, 85, 110, 100, 101, 102], true, true, [], [], 0, 7⟩,
  ⟨3, [79, 112, 83, 111, 117, 114, 99, 101], false, false, [108, 110], [], 0, 4⟩,
  ⟨5, [79, 112, 78, 97, 109, 101], false, false, [105, 115], [], 0, 5⟩,
  ⟨6, [79, 112, 77, 101, 109, 98, 101, 114, 78, 97, 109, 101], false, false, [105, 110, 115], [], 0, 5⟩,
  ⟨7, [79, 112, 83, 116, 114, 105, 110, 103], false, true, [115], [], 0, 4⟩,
  ⟨14, [79, 112, 77, 101, 109, 111, 114, 121, 77, 111, 100, 101, 108], false, false, [97, 109], [], 0, 1⟩,
  ⟨15, [79, 112, 69, 110, 116, 114, 121, 80, 111, 105, 110, 116], false, false, [101, 105, 115], [105], 0, 2⟩,
  ⟨16, [79, 112, 69, 120, 101, 99, 117, 116, 105, 111, 110, 77, 111, 100, 101], false, false, [105, 120], [], 0, 3⟩,
  ⟨17, [79, 112, 67, 97, 112, 97, 98, 105, 108, 105, 116, 121], false, false, [107], [], 0, 0⟩,
  ⟨19, [79, 112, 84, 121, 112, 101, 86, 111, 105, 100], false, true, [], [], 0, 7⟩,
  ⟨20, [79, 112, 84, 121, 112, 101, 66, 111, 111, 108], false, true, [], [], 0, 7⟩,
  ⟨21, [79, 112, 84, 121, 112, 101, 73, 110, 116], false, true, [110, 110], [], 0, 7⟩,
  ⟨23, [79, 112, 84, 121, 112, 101, 86, 101, 99, 116, 111, 114], false, true, [105, 110], [], 0, 7⟩,
  ⟨28, [79, 112, 84, 121, 112, 101, 65, 114, 114, 97, 121], false, true, [105, 105], [], 0, 7⟩,
  ⟨30, [79, 112, 84, 121, 112, 101, 83, 116, 114, 117, 99, 116], false, true, [], [105], 0, 7⟩,
  ⟨32, [79, 112, 84, 121, 112, 101, 80, 111, 105, 110, 116, 101, 114], false, true, [99, 105], [], 0, 7⟩,
  ⟨33, [79, 112, 84, 121, 112, 101, 70, 117, 110, 99, 116, 105, 111, 110], false, true, [105], [105], 0, 7⟩,
  ⟨41, [79, 112, 67, 111, 110, 115, 116, 97, 110, 116, 84, 114, 117, 101], true, true, [], [], 0, 7⟩,
  ⟨42, [79, 112, 67, 111, 110, 115, 116, 97, 110, 116, 70, 97, 108, 115, 101], true, true, [], [], 0, 7⟩,
  ⟨43, [79, 112, 67, 111, 110, 115, 116, 97, 110, 116], true, true, [110], [], 0, 7⟩,
  ⟨44, [79, 112, 67, 111, 110, 115, 116, 97, 110, 116, 67, 111, 109, 112, 111, 115, 105, 116, 101], true, true, [], [105], 0, 7⟩,
  ⟨46, [79, 112, 67, 111, 110, 115, 116, 97, 110, 116, 78, 117, 108, 108], true, true, [], [], 0, 7⟩,
  ⟨54, [79, 112, 70, 117, 110, 99, 116, 105, 111, 110], true, true, [102, 105], [], 0, 8⟩,
  ⟨55, [79, 112, 70, 117, 110, 99, 116, 105, 111, 110, 80, 97, 114, 97, 109, 101, 116, 101, 114], true, true, [], [], 0, 8⟩,
  ⟨56, [79, 112, 70, 117, 110, 99, 116, 105, 111, 110, 69, 110, 100], false, false, [], [], 0, 8⟩,
  ⟨57, [79, 112, 70, 117, 110, 99, 116, 105, 111, 110, 67, 97, 108, 108], true, true, [105], [105], 0, 8⟩,
  ⟨59, [79, 112, 86, 97, 114, 105, 97, 98, 108, 101], true, true, [99], [105], 1, 7⟩,
  ⟨61, [79, 112, 76, 111, 97, 100], true, true, [105], [], 0, 8⟩,
  ⟨62, [79, 112, 83, 116, 111, 114, 101], false, false, [105, 105], [], 0, 8⟩,
  ⟨65, [79, 112, 65, 99, 99, 101, 115, 115, 67, 104, 97, 105, 110], true, true, [105], [105], 0, 8⟩,
  ⟨71, [79, 112, 68, 101, 99, 111, 114, 97, 116, 101], false, false, [105, 100], [110], 0, 6⟩,
  ⟨77, [79, 112, 86, 101, 99, 116, 111, 114, 69, 120, 116, 114, 97, 99, 116, 68, 121, 110, 97, 109, 105, 99], true, true, [105, 105], [], 0, 8⟩,
  ⟨78, [79, 112, 86, 101, 99, 116, 111, 114, 73, 110, 115, 101, 114, 116, 68, 121, 110, 97, 109, 105, 99], true, true, [105, 105, 105], [], 0, 8⟩,
  ⟨79, [79, 112, 86, 101, 99, 116, 111, 114, 83, 104, 117, 102, 102, 108, 101], true, true, [105, 105], [110], 0, 8⟩,
  ⟨80, [79, 112, 67, 111, 109, 112, 111, 115, 105, 116, 101, 67, 111, 110, 115, 116, 114, 117, 99, 116], true, true, [], [105], 0, 8⟩,
  ⟨81, [79, 112, 67, 111, 109, 112, 111, 115, 105, 116, 101, 69, 120, 116, 114, 97, 99, 116], true, true, [105], [110], 0, 8⟩,
  ⟨82, [79, 112, 67, 111, 109, 112, 111, 115, 105, 116, 101, 73, 110, 115, 101, 114, 116], true, true, [105, 105], [110], 0, 8⟩,
  ⟨83, [79, 112, 67, 111, 112, 121, 79, 98, 106, 101, 99, 116], true, true, [105], [], 0, 8⟩,
  ⟨124, [79, 112, 66, 105, 116, 99, 97, 115, 116], true, true, [105], [], 0, 8⟩,
  ⟨126, [79, 112, 83, 78, 101, 103, 97, 116, 101], true, true, [105], [], 0, 8⟩,
  ⟨128, [79, 112, 73, 65, 100, 100], true, true, [105, 105], [], 0, 8⟩,
  ⟨130, [79, 112, 73, 83, 117, 98], true, true, [105, 105], [], 0, 8⟩,
  ⟨132, [79, 112, 73, 77, 117, 108], true, true, [105, 105], [], 0, 8⟩,
  ⟨134, [79, 112, 85, 68, 105, 118], true, true, [105, 105], [], 0, 8⟩,
  ⟨135, [79, 112, 83, 68, 105, 118], true, true, [105, 105], [], 0, 8⟩,
  ⟨137, [79, 112, 85, 77, 111, 100], true, true, [105, 105], [], 0, 8⟩,
  ⟨138, [79, 112, 83, 82, 101, 109], true, true, [105, 105], [], 0, 8⟩,
  ⟨139, [79, 112, 83, 77, 111, 100], true, true, [105, 105], [], 0, 8⟩,
  ⟨149, [79, 112, 73, 65, 100, 100, 67, 97, 114, 114, 121], true, true, [105, 105], [], 0, 8⟩,
  ⟨150, [79, 112, 73, 83, 117, 98, 66, 111, 114, 114, 111, 119], true, true, [105, 105], [], 0, 8⟩,
  ⟨151, [79, 112, 85, 77, 117, 108, 69, 120, 116, 101, 110, 100, 101, 100], true, true, [105, 105], [], 0, 8⟩,
  ⟨152, [79, 112, 83, 77, 117, 108, 69, 120, 116, 101, 110, 100, 101, 100], true, true, [105, 105], [], 0, 8⟩,
  ⟨154, [79, 112, 65, 110, 121], true, true, [105], [], 0, 8⟩,
  ⟨155, [79, 112, 65, 108, 108], true, true, [105], [], 0, 8⟩,
  ⟨164, [79, 112, 76, 111, 103, 105, 99, 97, 108, 69, 113, 117, 97, 108], true, true, [105, 105], [], 0, 8⟩,
  ⟨165, [79, 112, 76, 111, 103, 105, 99, 97, 108, 78, 111, 116, 69, 113, 117, 97, 108], true, true, [105, 105], [], 0, 8⟩,
  ⟨166, [79, 112, 76, 111, 103, 105, 99, 97, 108, 79, 114], true, true, [105, 105], [], 0, 8⟩,
  ⟨167, [79, 112, 76, 111, 103, 105, 99, 97, 108, 65, 110, 100], true, true, [105, 105], [], 0, 8⟩,
  ⟨168, [79, 112, 76, 111, 103, 105, 99, 97, 108, 78, 111, 116], true, true, [105], [], 0, 8⟩,
  ⟨169, [79, 112, 83, 101, 108, 101, 99, 116], true, true, [105, 105, 105], [], 0, 8⟩,
  ⟨170, [79, 112, 73, 69, 113, 117, 97, 108], true, true, [105, 105], [], 0, 8⟩,
  ⟨171, [79, 112, 73, 78, 111, 116, 69, 113, 117, 97, 108], true, true, [105, 105], [], 0, 8⟩,
  ⟨172, [79, 112, 85, 71, 114, 101, 97, 116, 101, 114, 84, 104, 97, 110], true, true, [105, 105], [], 0, 8⟩,
  ⟨173, [79, 112, 83, 71, 114, 101, 97, 116, 101, 114, 84, 104, 97, 110], true, true, [105, 105], [], 0, 8⟩,
  ⟨174, [79, 112, 85, 71, 114, 101, 97, 116, 101, 114, 84, 104, 97, 110, 69, 113, 117, 97, 108], true, true, [105, 105], [], 0, 8⟩,
  ⟨175, [79, 112, 83, 71, 114, 101, 97, 116, 101, 114, 84, 104, 97, 110, 69, 113, 117, 97, 108], true, true, [105, 105], [], 0, 8⟩,
  ⟨176, [79, 112, 85, 76, 101, 115, 115, 84, 104, 97, 110], true, true, [105, 105], [], 0, 8⟩,
  ⟨177, [79, 112, 83, 76, 101, 115, 115, 84, 104, 97, 110], true, true, [105, 105], [], 0, 8⟩,
  ⟨178, [79, 112, 85, 76, 101, 115, 115, 84, 104, 97, 110, 69, 113, 117, 97, 108], true, true, [105, 105], [], 0, 8⟩,
  ⟨179, [79, 112, 83, 76, 101, 115, 115, 84, 104, 97, 110, 69, 113, 117, 97, 108], true, true, [105, 105], [], 0, 8⟩,
  ⟨194, [79, 112, 83, 104, 105, 102, 116, 82, 105, 103, 104, 116, 76, 111, 103, 105, 99, 97, 108], true, true, [105, 105], [], 0, 8⟩,
  ⟨195, [79, 112, 83, 104, 105, 102, 116, 82, 105, 103, 104, 116, 65, 114, 105, 116, 104, 109, 101, 116, 105, 99], true, true, [105, 105], [], 0, 8⟩,
  ⟨196, [79, 112, 83, 104, 105, 102, 116, 76, 101, 102, 116, 76, 111, 103, 105, 99, 97, 108], true, true, [105, 105], [], 0, 8⟩,
  ⟨197, [79, 112, 66, 105, 116, 119, 105, 115, 101, 79, 114], true, true, [105, 105], [], 0, 8⟩,
  ⟨198, [79, 112, 66, 105, 116, 119, 105, 115, 101, 88, 111, 114], true, true, [105, 105], [], 0, 8⟩,
  ⟨199, [79, 112, 66, 105, 116, 119, 105, 115, 101, 65, 110, 100], true, true, [105, 105], [], 0, 8⟩,
  ⟨200, [79, 112, 78, 111, 116], true, true, [105], [], 0, 8⟩,
  ⟨201, [79, 112, 66, 105, 116, 70, 105, 101, 108, 100, 73, 110, 115, 101, 114, 116], true, true, [105, 105, 105, 105], [], 0, 8⟩,
  ⟨202, [79, 112, 66, 105, 116, 70, 105, 101, 108, 100, 83, 69, 120, 116, 114, 97, 99, 116], true, true, [105, 105, 105], [], 0, 8⟩,
  ⟨203, [79, 112, 66, 105, 116, 70, 105, 101, 108, 100, 85, 69, 120, 116, 114, 97, 99, 116], true, true, [105, 105, 105], [], 0, 8⟩,
  ⟨204, [79, 112, 66, 105, 116, 82, 101, 118, 101, 114, 115, 101], true, true, [105], [], 0, 8⟩,
  ⟨205, [79, 112, 66, 105, 116, 67, 111, 117, 110, 116], true, true, [105], [], 0, 8⟩,
  ⟨245, [79, 112, 80, 104, 105], true, true, [], [105, 105], 0, 8⟩,
  ⟨246, [79, 112, 76, 111, 111, 112, 77, 101, 114, 103, 101], false, false, [105, 105, 103], [], 0, 8⟩,
  ⟨247, [79, 112, 83, 101, 108, 101, 99, 116, 105, 111, 110, 77, 101, 114, 103, 101], false, false, [105, 104], [], 0, 8⟩,
  ⟨248, [79, 112, 76, 97, 98, 101, 108], false, true, [], [], 0, 8⟩,
  ⟨249, [79, 112, 66, 114, 97, 110, 99, 104], false, false, [105], [], 0, 8⟩,
  ⟨250, [79, 112, 66, 114, 97, 110, 99, 104, 67, 111, 110, 100, 105, 116, 105, 111, 110, 97, 108], false, false, [105, 105, 105], [], 0, 8⟩,
  ⟨251, [79, 112, 83, 119, 105, 116, 99, 104], false, false, [105, 105], [110, 105], 0, 8⟩,
  ⟨252, [79, 112, 75, 105, 108, 108], false, false, [], [], 0, 8⟩,
  ⟨253, [79, 112, 82, 101, 116, 117, 114, 110], false, false, [], [], 0, 8⟩,
  ⟨254, [79, 112, 82, 101, 116, 117, 114, 110, 86, 97, 108, 117, 101], false, false, [105], [], 0, 8⟩,
  ⟨255, [79, 112, 85, 110, 114, 101, 97, 99, 104, 97, 98, 108, 101], false, false, [], [], 0, 8⟩]
structure NameL where
  letter : Int
  n : Int
  name : Byts
  deriving DecidableEq
def namesL : List NameL := [⟨107, 0, [77, 97, 116, 114, 105, 120]⟩,
  ⟨107, 1, [83, 104, 97, 100, 101, 114]⟩,
  ⟨97, 0, [76, 111, 103, 105, 99, 97, 108]⟩,
  ⟨109, 0, [83, 105, 109, 112, 108, 101]⟩,
  ⟨109, 1, [71, 76, 83, 76, 52, 53, 48]⟩,
  ⟨101, 0, [86, 101, 114, 116, 101, 120]⟩,
  ⟨101, 4, [70, 114, 97, 103, 109, 101, 110, 116]⟩,
  ⟨120, 7, [79, 114, 105, 103, 105, 110, 85, 112, 112, 101, 114, 76, 101, 102, 116]⟩,
  ⟨108, 0, [85, 110, 107, 110, 111, 119, 110]⟩,
  ⟨108, 1, [69, 83, 83, 76]⟩,
  ⟨108, 2, [71, 76, 83, 76]⟩,
  ⟨99, 1, [73, 110, 112, 117, 116]⟩,
  ⟨99, 3, [79, 117, 116, 112, 117, 116]⟩,
  ⟨99, 6, [80, 114, 105, 118, 97, 116, 101]⟩,
  ⟨99, 7, [70, 117, 110, 99, 116, 105, 111, 110]⟩,
  ⟨100, 0, [82, 101, 108, 97, 120, 101, 100, 80, 114, 101, 99, 105, 115, 105, 111, 110]⟩,
  ⟨100, 11, [66, 117, 105, 108, 116, 73, 110]⟩,
  ⟨100, 14, [70, 108, 97, 116]⟩,
  ⟨100, 30, [76, 111, 99, 97, 116, 105, 111, 110]⟩,
  ⟨102, 0, [78, 111, 110, 101]⟩,
  ⟨102, 1, [73, 110, 108, 105, 110, 101]⟩,
  ⟨102, 2, [68, 111, 110, 116, 73, 110, 108, 105, 110, 101]⟩,
  ⟨102, 4, [80, 117, 114, 101]⟩,
  ⟨102, 8, [67, 111, 110, 115, 116]⟩,
  ⟨104, 0, [78, 111, 110, 101]⟩,
  ⟨104, 1, [70, 108, 97, 116, 116, 101, 110]⟩,
  ⟨104, 2, [68, 111, 110, 116, 70, 108, 97, 116, 116, 101, 110]⟩,
  ⟨103, 0, [78, 111, 110, 101]⟩,
  ⟨103, 1, [85, 110, 114, 111, 108, 108]⟩,
  ⟨103, 2, [68, 111, 110, 116, 85, 110, 114, 111, 108, 108]⟩]
def look (T : List (Int × Byts)) (n : Int) : Byts := match T with
  | [] => []
  | p :: T => if n = p.1 then p.2 else look T n
def refF (op : Int) : List FormL → Option FormL
  | [] => none
  | f :: T => if op = f.op then some f else refF op T
def refS (op : Int) : Option FormL := refF op refT
def zeroF : FormL := ⟨0, [], false, false, [], [], 0, 0⟩
def formOk (f : FormL) : Bool := decide (0 ≤ f.op ∧ f.op ≤ 255) && decide (0 ≤ f.most ∧ f.most ≤ 9) && decide (f.fixed.length ≤ 40) && decide (f.rest.length ≤ 40) && decide (f.name.length ≤ 100) && decide (0 ≤ f.part ∧ f.part ≤ 9) && f.fixed.all (· != 0) && f.rest.all (· != 0)
def zeroN : NameL := ⟨0, 0, []⟩
abbrev enN (c n : Int) (x : NameL) : Bool := decide (x.letter = c ∧ x.n = n)
abbrev enS (c : Int) (s : Byts) (x : NameL) : Bool := decide (x.letter = c ∧ x.name = s)
abbrev nmF (q : Byts) (f : FormL) : Bool := decide (f.name = q)
def kindS (c : Int) : Int := if c = 105 then 1 else if c = 110 then 2 else if c = 115 then 3 else if look namesT c ≠ [] then 4 else 0
theorem names_any_small : (List.range 256).all (fun n => decide ((look namesT n ≠ []) ↔ (namesL.find? (fun x => decide (x.letter = (n : Int)))).isSome = true)) = true := by decide +kernel
theorem names_any {c : Int} (h0 : 0 ≤ c) (h1 : c ≤ 255) : (look namesT c ≠ []) ↔ (namesL.find? (fun x => decide (x.letter = c))).isSome = true := by
  have := List.all_eq_true.1 names_any_small c.toNat (List.mem_range.2 (by omega))
  rw [show ((c.toNat : Nat) : Int) = c by omega] at this
  simpa only [decide_eq_true_eq] using this
structure FOk (f : FormL) : Prop where
  op : 0 ≤ f.op ∧ f.op ≤ 255
  most : 0 ≤ f.most ∧ f.most ≤ 9
  fixed : f.fixed.length ≤ 40
  rest : f.rest.length ≤ 40
  name : f.name.length ≤ 100
  part : 0 ≤ f.part ∧ f.part ≤ 9
  fix0 : ∀ c ∈ f.fixed, c ≠ 0
  rest0 : ∀ c ∈ f.rest, c ≠ 0
theorem FOk.of {f : FormL} (h : formOk f = true) : FOk f := by
  simp only [formOk, Bool.and_eq_true, decide_eq_true_eq, List.all_eq_true, bne_iff_ne] at h
  obtain ⟨⟨⟨⟨⟨⟨⟨h1, h2⟩, h3⟩, h4⟩, h5⟩, h6⟩, h7⟩, h8⟩ := h
  exact ⟨h1, h2, h3, h4, h5, h6, h7, h8⟩
abbrev refD (op : Int) : FormL := (refS op).getD zeroF
def restS (f : FormL) (i : Int) : Int :=
  if i - f.fixed.length < 0 ∨ f.rest = [] ∨ (0 < f.most ∧ f.most * f.rest.length ≤ i - f.fixed.length) then 0
  else ((f.rest.getD ((i - f.fixed.length) % f.rest.length).toNat 0).toNat : Int)
def letterS (f : FormL) (i : Int) : Int := if i < 0 then 0 else if i < f.fixed.length then ((f.fixed.getD i.toNat 0).toNat : Int) else restS f i
theorem byte_bd (c : UInt8) : 0 ≤ (c.toNat : Int) ∧ (c.toNat : Int) ≤ 255 := by have := c.toNat_lt; omega
theorem letterS_bd (f : FormL) (i : Int) : 0 ≤ letterS f i ∧ letterS f i ≤ 255 := by
  unfold letterS restS
  have h1 := byte_bd (f.fixed.getD i.toNat 0)
  have h2 := byte_bd (f.rest.getD ((i - f.fixed.length) % f.rest.length).toNat 0)
  repeat (split; · omega)
  omega
end Go.SK
namespace Go.SK
abbrev badB (f : FormL) (i : Nat) (k : Int) : Prop := k = 0 ∨ kindS (letterS f i) ≠ k
def badI (f : FormL) : Nat → List Int → Option Nat
  | _, [] => none
  | i, k :: ks => if badB f i k then some i else badI f (i + 1) ks
abbrev offR (f : FormL) (n : Nat) : Prop := (n : Int) - f.fixed.length < 0 ∨ (f.rest ≠ [] ∧ ((n : Int) - f.fixed.length) % f.rest.length ≠ 0)
def fitsF (f : FormL) (ks : List Int) : Int × Bool := match badI f 0 ks with
  | some i => ((i : Int), false)
  | none => if offR f ks.length then ((ks.length : Int), false) else (0, true)
def fitsS (op : Int) (ks : List Int) : Int × Bool := if (refS op).isSome then fitsF (refD op) ks else (0, false)
end Go.SK
namespace Go.SK
open Go.RowKit Go.ChangeShapes Go.WideShapes Go.ChangeAt
def idE (n bound : Int) : Int := if n = 0 ∨ n ≥ bound then 43 else 0
def enumE (c n : Int) : Int := if (namesL.find? (enN c n)).isSome = true then 0 else 31
def argE (c : Int) (ws : List Int) (bound : Int) : ArgP × Nat × Int :=
  if c = 0 ∨ ws.length = 0 then (zeroA, 0, 42)
  else if kindS c = 3 then (⟨3, 0, (textF ws).1⟩, (textF ws).2.1.toNat, (textF ws).2.2)
  else (⟨kindS c, ws.getD 0 0, []⟩, 1, if kindS c = 1 then idE (ws.getD 0 0) bound else if kindS c = 4 then enumE c (ws.getD 0 0) else 0)
theorem argE_none {c : Int} {ws : List Int} {b : Int} (h : c = 0 ∨ ws.length = 0) : argE c ws b = (zeroA, 0, 42) := if_pos h
theorem argE_text {c : Int} {ws : List Int} {b : Int} (h : ¬ c = 0) (h2 : ¬ ws.length = 0) (hk : kindS c = 3) : argE c ws b = (⟨3, 0, (textF ws).1⟩, (textF ws).2.1.toNat, (textF ws).2.2) := by
  unfold argE; rw [if_neg (fun h3 => h3.elim h h2), if_pos hk]
theorem argE_one {c : Int} {ws : List Int} {b : Int} (h : ¬ c = 0) (h2 : ¬ ws.length = 0) (hk : ¬ kindS c = 3) : argE c ws b = (⟨kindS c, ws.getD 0 0, []⟩, 1, if kindS c = 1 then idE (ws.getD 0 0) b else if kindS c = 4 then enumE c (ws.getD 0 0) else 0) := by
  unfold argE; rw [if_neg (fun h3 => h3.elim h h2), if_neg hk]
theorem argE_ok {c : Int} {ws : List Int} {b : Int} (h : (argE c ws b).2.2 = 0) : 1 ≤ (argE c ws b).2.1 ∧ (argE c ws b).2.1 ≤ ws.length ∧ c ≠ 0 ∧ (argE c ws b).1.kind = kindS c := by
  by_cases h1 : c = 0 ∨ ws.length = 0
  · rw [argE_none h1] at h; cases h
  · have h2 : ¬ c = 0 := fun e => h1 (.inl e)
    have h3 : ¬ ws.length = 0 := fun e => h1 (.inr e)
    by_cases hk : kindS c = 3
    · rw [argE_text h2 h3 hk] at h ⊢
      rcases textF_cases ws with ⟨e, he, h4⟩ | ⟨s, n, he, h4, h5, h6⟩
      · rw [he] at h; simp only at h; omega
      · rw [he]; simp only [Int.toNat_natCast]; exact ⟨h4, h5, h2, hk.symm⟩
    · rw [argE_one h2 h3 hk] at h ⊢
      exact ⟨Nat.le_refl _, by (try dsimp only); omega, h2, rfl⟩
def argsF (fm : FormL) (bound : Int) : Nat → Nat → List Int → List ArgP × Int
  | 0, _, _ => ([], 0)
  | n + 1, k, ws => if ws.length = 0 ∧ fm.fixed.length ≤ k then ([], 0)
    else if (argE (letterS fm k) ws bound).2.2 ≠ 0 then ([], (argE (letterS fm k) ws bound).2.2)
    else ((argE (letterS fm k) ws bound).1 :: (argsF fm bound n (k + 1) (ws.drop (argE (letterS fm k) ws bound).2.1)).1, (argsF fm bound n (k + 1) (ws.drop (argE (letterS fm k) ws bound).2.1)).2)
theorem argsF_fuel {fm : FormL} {bound : Int} : ∀ n n' k ws, ws.length < n → ws.length < n' → argsF fm bound n k ws = argsF fm bound n' k ws
  | 0, _, _, _, h, _ => absurd h (Nat.not_lt_zero _)
  | _, 0, _, _, _, h => absurd h (Nat.not_lt_zero _)
  | n + 1, n' + 1, k, ws, h, h' => by
    rw [argsF, argsF]
    by_cases h1 : ws.length = 0 ∧ fm.fixed.length ≤ k
    · rw [if_pos h1, if_pos h1]
    · rw [if_neg h1, if_neg h1]
      by_cases h2 : (argE (letterS fm k) ws bound).2.2 ≠ 0
      · rw [if_pos h2, if_pos h2]
      · have h3 := argE_ok (Classical.not_not.1 h2)
        rw [if_neg h2, if_neg h2, argsF_fuel n n' _ _ (by rw [List.length_drop]; omega) (by rw [List.length_drop]; omega)]
abbrev argsR (fm : FormL) (bound : Int) (k : Nat) (ws : List Int) : List ArgP × Int := argsF fm bound (ws.length + 1) k ws
theorem argsR_err {fm : FormL} {bound : Int} {k : Nat} {ws : List Int} (h : ws.length > 0 ∨ k < fm.fixed.length) (he : (argE (letterS fm k) ws bound).2.2 ≠ 0) : argsR fm bound k ws = ([], (argE (letterS fm k) ws bound).2.2) := by
  unfold argsR; rw [argsF, if_neg (by omega), if_pos he]
theorem argsR_step {fm : FormL} {bound : Int} {k : Nat} {ws : List Int} {a : ArgP} {m : Nat} (h : ws.length > 0 ∨ k < fm.fixed.length) (he : argE (letterS fm k) ws bound = (a, m, 0)) : argsR fm bound k ws = (a :: (argsR fm bound (k + 1) (ws.drop m)).1, (argsR fm bound (k + 1) (ws.drop m)).2) := by
  have h0 : (argE (letterS fm k) ws bound).2.2 = 0 := by rw [he]
  have h3 := argE_ok h0
  unfold argsR
  rw [argsF, if_neg (by omega), if_neg (fun e => e h0)]
  rw [he] at h3 ⊢
  dsimp only at h3 ⊢
  rw [argsF_fuel ws.length ((ws.drop m).length + 1) _ _ (by rw [List.length_drop]; omega) (by omega)]
def b2n (b : Bool) : Nat := if b = true then 1 else 0
def headsF (fm : FormL) (l : List Int) (bound : Int) : Nat × Int :=
  if fm.ty = true ∧ l.length = 0 then (0, 40)
  else if fm.ty = true ∧ idE (l.getD 0 0) bound ≠ 0 then (0, 43)
  else if fm.res = true ∧ l.length = b2n fm.ty then (0, 41)
  else if fm.res = true ∧ idE (l.getD (b2n fm.ty) 0) bound ≠ 0 then (0, 43)
  else (b2n fm.ty + b2n fm.res, 0)
def zeroIL : InstL := ⟨0, 0, 0, []⟩
def argW (a : ArgP) : List Int := if a.kind = 3 then ofTextL a.s else [a.n]
def argRoom (a : ArgP) : Nat := if a.kind = 3 then a.s.length / 4 + 1 else 1
def wrongA (c : Int) (a : ArgP) (bound : Int) : Int :=
  if c = 0 ∨ a.kind ≠ kindS c then 42
  else if (a.kind = 3 ∧ a.n ≠ 0) ∨ (a.kind ≠ 3 ∧ a.s ≠ []) then 42
  else if a.kind = 1 ∧ idE a.n bound ≠ 0 then 43
  else if a.kind = 4 ∧ enumE c a.n ≠ 0 then 31
  else if zeroAt a.s ≠ a.s.length then 13 else 0
def idH (must : Bool) (n bound e : Int) : Int := if must ≠ decide (n ≠ 0) then e else if must = true ∧ n ≥ bound then 43 else 0
def wrongL (fm : FormL) (bound : Int) : Nat → List ArgP → Int
  | _, [] => 0
  | k, a :: ags => if wrongA (letterS fm k) a bound ≠ 0 then wrongA (letterS fm k) a bound else wrongL fm bound (k + 1) ags
def headW (fm : FormL) (ty res : Int) : List Int := (if fm.ty = true then [ty] else []) ++ (if fm.res = true then [res] else [])
def roomI (fm : FormL) (ags : List ArgP) : Nat := 1 + (b2n fm.ty + b2n fm.res) + (ags.map argRoom).sum
def faultF (bound : Int) (i : InstL) : Int :=
  if (refS i.op).isSome = false then 30
  else if idH (refD i.op).ty i.ty bound 40 ≠ 0 then idH (refD i.op).ty i.ty bound 40
  else if idH (refD i.op).res i.res bound 41 ≠ 0 then idH (refD i.op).res i.res bound 41
  else if wrongL (refD i.op) bound 0 i.args ≠ 0 then wrongL (refD i.op) bound 0 i.args
  else if offR (refD i.op) i.args.length then 42
  else if roomI (refD i.op) i.args > 65535 then 25 else 0
end Go.SK
namespace Go.SK
def instS (fm : FormL) (bound : Int) (l : List Int) : List ArgP × Int :=
  if (headsF fm l bound).2 ≠ 0 then ([], (headsF fm l bound).2) else argsR fm bound 0 (l.drop (b2n fm.ty + b2n fm.res))
section
variable {fm : FormL} {bound op : Int} {l : List Int}
theorem instS_head (h : (headsF fm l bound).2 ≠ 0) : instS fm bound l = ([], (headsF fm l bound).2) := if_pos h
theorem instS_args (h : (headsF fm l bound).2 = 0) : instS fm bound l = argsR fm bound 0 (l.drop (b2n fm.ty + b2n fm.res)) := if_neg (fun e => e h)
def H1 (fm : FormL) (l : List Int) (bound : Int) (a : Nat) (ty e : Int) : Prop := a ≤ l.length ∧ (e = 0 → a = b2n fm.ty ∧ ty = (if fm.ty = true then l.getD 0 0 else 0) ∧ ¬ (fm.ty = true ∧ l.length = 0) ∧ ¬ (fm.ty = true ∧ idE (l.getD 0 0) bound ≠ 0)) ∧ (e ≠ 0 → (headsF fm l bound).2 = e)
def H2 (fm : FormL) (l : List Int) (bound : Int) (a : Nat) (ty res e : Int) : Prop := a ≤ l.length ∧ (e = 0 → (headsF fm l bound).2 = 0 ∧ a = b2n fm.ty + b2n fm.res ∧ ty = (if fm.ty = true then l.getD 0 0 else 0) ∧ res = (if fm.res = true then l.getD (b2n fm.ty) 0 else 0)) ∧ (e ≠ 0 → (headsF fm l bound).2 = e)
theorem H2.err {a : Nat} {ty e : Int} (h : H1 fm l bound a ty e) (he : e ≠ 0) : H2 fm l bound a ty 0 e := ⟨h.1, fun h2 => absurd h2 he, h.2.2⟩
theorem H2.zero {a : Nat} {ty res e : Int} (h : H2 fm l bound a ty res e) (hs : (instS fm bound l).2 = 0) : e = 0 := Classical.byContradiction fun he => by
  have h1 := h.2.2 he
  rw [instS_head (by rw [h1]; exact he), h1] at hs
  exact he hs
def A1 (fm : FormL) (l : List Int) (bound : Int) (a : Nat) (e : Int) (ags : List ArgP) : Prop := a ≤ l.length ∧ ags.length ≤ a + 1 ∧ (e = 0 → ags.length ≤ a ∧ ags ++ (argsR fm bound ags.length (l.drop a)).1 = (instS fm bound l).1 ∧ (argsR fm bound ags.length (l.drop a)).2 = (instS fm bound l).2) ∧ (e ≠ 0 → (instS fm bound l).2 = e)
theorem A1.start {a : Nat} {ty res e : Int} (h : H2 fm l bound a ty res e) : A1 fm l bound a e [] := by
  refine ⟨h.1, Nat.zero_le _, fun he => ⟨Nat.zero_le _, ?_⟩, fun he => ?_⟩
  · have h1 := h.2.1 he
    rw [instS_args h1.1, ← h1.2.1]
    exact ⟨rfl, rfl⟩
  · have h1 := h.2.2 he
    rw [instS_head (by rw [h1]; exact he), h1]
theorem A1.step {a a2 : Nat} {ags ags2 : List ArgP} {c : Int} (h : A1 fm l bound a 0 ags) (hc : letterS fm (ags.length : Int) = c) (hgo : l.length - a > 0 ∨ ags.length < fm.fixed.length)
    (hE : (argE c (l.drop a) bound).2.2 = 0 → a2 = a + (argE c (l.drop a) bound).2.1 ∧ ags2 = ags ++ [(argE c (l.drop a) bound).1]) (ha2 : a2 ≤ l.length) (hn : ags2.length ≤ ags.length + 1) (hle : a ≤ a2 ∨ (argE c (l.drop a) bound).2.2 = 0) : A1 fm l bound a2 (argE c (l.drop a) bound).2.2 ags2 := by
  subst hc
  have h1 := h.2.2.1 rfl
  refine ⟨ha2, ?_, fun he => ?_, fun he => ?_⟩
  · rcases hle with hh | hh
    · omega
    · have := hE hh; omega
  · have h2 := hE he
    have h3 := argE_ok he
    have hs := argsR_step (fm := fm) (bound := bound) (k := ags.length) (ws := l.drop a) (a := (argE (letterS fm ags.length) (l.drop a) bound).1) (m := (argE (letterS fm ags.length) (l.drop a) bound).2.1) (by rw [List.length_drop]; omega) (by rw [← he])
    rw [List.drop_drop] at hs
    rw [h2.1, h2.2, List.length_append, List.length_singleton]
    rw [hs] at h1
    exact ⟨by omega, by rw [List.append_assoc]; exact h1.2.1, h1.2.2⟩
  · rw [← h1.2.2, argsR_err (by rw [List.length_drop]; omega) he]
def A1mu (n a : Nat) (e : Int) : Nat := if e = 0 then n - a + 1 else 0
theorem A1mu.step {n a a2 : Nat} {e2 : Int} (h : e2 = 0 → a < a2 ∧ a2 ≤ n) : A1mu n a2 e2 < A1mu n a 0 := by
  unfold A1mu
  rw [if_pos rfl]
  split
  · rename_i he; have := h he; omega
  · omega
end
end Go.SK
namespace Go.SK
section
variable {fm : FormL} {bound : Int} {l : List Int}
theorem A1.err {a : Nat} {ags : List ArgP} {c e : Int} (h : A1 fm l bound a 0 ags) (hc : letterS fm (ags.length : Int) = c) (hgo : l.length - a > 0 ∨ ags.length < fm.fixed.length) (hE : (argE c (l.drop a) bound).2.2 = e) (he : e ≠ 0) : (instS fm bound l).2 = e := by
  subst hc
  have h1 := h.2.2.1 rfl
  rw [← h1.2.2, argsR_err (by rw [List.length_drop]; omega) (by rw [hE]; exact he), hE]
end
end Go.SK
namespace Go.SK
open Go.RowKit Go.ChangeShapes Go.WideShapes Go.ChangeAt
def mustW (must : Bool) (n : Int) : List Int := if must = true then [n] else []
end Go.SK
namespace Go.SK
open Go.RowKit Go.ChangeShapes Go.WideShapes Go.ChangeAt
section
variable {bound : Int} {i : InstL}
theorem faultF_eq (h : (refS i.op).isSome = true) : faultF bound i = if idH (refD i.op).ty i.ty bound 40 ≠ 0 then idH (refD i.op).ty i.ty bound 40
  else if idH (refD i.op).res i.res bound 41 ≠ 0 then idH (refD i.op).res i.res bound 41
  else if wrongL (refD i.op) bound 0 i.args ≠ 0 then wrongL (refD i.op) bound 0 i.args
  else if offR (refD i.op) i.args.length then 42
  else if roomI (refD i.op) i.args > 65535 then 25 else 0 := by
  unfold faultF; rw [if_neg (by rw [h]; decide)]
theorem wrongL_app {fm : FormL} {ys : List ArgP} : ∀ (xs : List ArgP) (k : Nat), wrongL fm bound k (xs ++ ys) = if wrongL fm bound k xs ≠ 0 then wrongL fm bound k xs else wrongL fm bound (k + xs.length) ys
  | [], k => by simp [wrongL]
  | x :: xs, k => by
    rw [List.cons_append, wrongL, wrongL]
    by_cases h : wrongA (letterS fm k) x bound ≠ 0
    · rw [if_pos h, if_pos h, if_pos h]
    · rw [if_neg h, if_neg h, wrongL_app xs (k + 1), List.length_cons, show k + 1 + xs.length = k + (xs.length + 1) by omega]
theorem wrongL_take {fm : FormL} {l : List ArgP} {k : Nat} (hk : k < l.length) (h : wrongL fm bound 0 (l.take k) = 0) : (wrongL fm bound 0 (l.take (k + 1)) = wrongA (letterS fm (k : Int)) (l.getD k zeroA) bound) ∧ (wrongA (letterS fm (k : Int)) (l.getD k zeroA) bound ≠ 0 → wrongL fm bound 0 l = wrongA (letterS fm (k : Int)) (l.getD k zeroA) bound) := by
  have hl : (l.take k).length = k := by rw [List.length_take]; omega
  constructor
  · rw [take_getD2 (d := zeroA) hk, wrongL_app, if_neg (fun e => e h), hl, Nat.zero_add, wrongL]
    by_cases he : wrongA (letterS fm (k : Int)) (l.getD k zeroA) bound ≠ 0
    · rw [if_pos he]
    · rw [if_neg he, wrongL, Classical.not_not.1 he]
  · intro he
    have e : l = l.take k ++ (l.getD k zeroA :: l.drop (k + 1)) := by
      have := List.take_append_drop k l
      rw [List.drop_eq_getElem_cons hk] at this
      simp only [List.getD, List.getElem?_eq_getElem hk, Option.getD_some]
      exact this.symm
    conv => lhs; rw [e]
    rw [wrongL_app, if_neg (fun e => e h), hl, Nat.zero_add, wrongL, if_pos he]
def sumR (l : List ArgP) (k : Nat) : Nat := ((l.take k).map argRoom).sum
theorem sumR_step {l : List ArgP} {k : Nat} (hk : k < l.length) : sumR l (k + 1) = sumR l k + argRoom (l.getD k zeroA) := by
  unfold sumR; rw [take_getD2 (d := zeroA) hk]; simp
theorem argRoom_pos (a : ArgP) : 1 ≤ argRoom a := by unfold argRoom; split <;> omega
theorem len_sum : ∀ l : List ArgP, l.length ≤ (l.map argRoom).sum
  | [] => Nat.le_refl _
  | a :: l => by have := len_sum l; have := argRoom_pos a; simp only [List.length_cons, List.map_cons, List.sum_cons]; omega
structure RW (bound : Int) (i : InstL) (k : Nat) (ws : List Int) (room e : Int) : Prop where
  ok : e = 0 → idH (refD i.op).ty i.ty bound 40 = 0 ∧ idH (refD i.op).res i.res bound 41 = 0 ∧ wrongL (refD i.op) bound 0 (i.args.take k) = 0 ∧ ws = headW (refD i.op) i.ty i.res ++ (i.args.take k).flatMap argW ∧ room = ((b2n (refD i.op).ty + b2n (refD i.op).res + sumR i.args k : Nat) : Int)
  err : e ≠ 0 → faultF bound i = e
  len : ws.length ≤ 2 + sumR i.args k
  r0 : 0 ≤ room
  r1 : room ≤ 2 + (sumR i.args k : Int)
theorem RW.ty (hs : (refS i.op).isSome = true) {ws : List Int} {room : Int} (he : idH (refD i.op).ty i.ty bound 40 ≠ 0) (hl : ws.length ≤ 0 + 1) (h0 : 0 ≤ room) (h1 : room ≤ 0 + 1) : RW bound i 0 ws room (idH (refD i.op).ty i.ty bound 40) :=
  ⟨fun h => absurd h he, fun _ => by rw [faultF_eq hs, if_pos he], by omega, h0, by omega⟩
theorem RW.start {ws2 : List Int} {room2 : Int} (hs : (refS i.op).isSome = true) (h1 : idH (refD i.op).ty i.ty bound 40 = 0)
    (h2 : idH (refD i.op).res i.res bound 41 = 0 → ws2 = ([] ++ mustW (refD i.op).ty i.ty) ++ mustW (refD i.op).res i.res ∧ room2 = 0 + b2n (refD i.op).ty + b2n (refD i.op).res) (hl : ws2.length ≤ 2) (h0 : 0 ≤ room2) (hr : room2 ≤ 2) : RW bound i 0 ws2 room2 (idH (refD i.op).res i.res bound 41) := by
  refine ⟨fun he => ?_, fun he => by rw [faultF_eq hs, if_neg (fun e => e h1), if_pos he], by omega, h0, by omega⟩
  obtain ⟨e1, e2⟩ := h2 he
  refine ⟨h1, he, rfl, ?_, ?_⟩
  · rw [e1]; simp [headW, mustW]
  · rw [e2]; simp [sumR]
theorem RW.skip {k : Nat} {ws : List Int} {room e : Int} (h : RW bound i k ws room e) (he : e ≠ 0) (hk : k < i.args.length) : RW bound i (k + 1) ws room e := by
  have hs := sumR_step hk
  exact ⟨fun h2 => absurd h2 he, h.err, by have := h.len; omega, h.r0, by have := h.r1; omega⟩
theorem RW.step {k : Nat} {ws ws2 : List Int} {room room2 : Int} (h : RW bound i k ws room 0) (hs : (refS i.op).isSome = true) (hk : k < i.args.length)
    (hE : wrongA (letterS (refD i.op) (k : Int)) (i.args.getD k zeroA) bound = 0 → ws2 = ws ++ argW (i.args.getD k zeroA) ∧ room2 = room + (argRoom (i.args.getD k zeroA) : Int)) (hl : ws2.length ≤ ws.length + argRoom (i.args.getD k zeroA)) (h0 : 0 ≤ room2) (hr : room2 ≤ room + (argRoom (i.args.getD k zeroA) : Int)) :
    RW bound i (k + 1) ws2 room2 (wrongA (letterS (refD i.op) (k : Int)) (i.args.getD k zeroA) bound) := by
  have hsum := sumR_step hk
  have ho := h.ok rfl
  have ht := wrongL_take hk ho.2.2.1
  refine ⟨fun he => ?_, fun he => ?_, by have := h.len; omega, h0, by have := h.r1; omega⟩
  · obtain ⟨e1, e2⟩ := hE he
    refine ⟨ho.1, ho.2.1, ht.1.trans he, ?_, ?_⟩
    · rw [e1, ho.2.2.2.1, take_getD2 (d := zeroA) hk]; simp
    · rw [e2, ho.2.2.2.2, hsum]; omega
  · rw [faultF_eq hs, if_neg (fun e => e ho.1), if_neg (fun e => e ho.2.1), if_pos (by rw [ht.2 he]; exact he), ht.2 he]
end
end Go.SK
namespace Go.SK
theorem Wd.app {l m : List Int} (h1 : Wd l) (h2 : Wd m) : Wd (l ++ m) := fun x hx => (List.mem_append.1 hx).elim (h1 x) (h2 x)
theorem Wd.nil : Wd [] := fun x hx => by cases hx
theorem Wd.one {x : Int} (h : 0 ≤ x ∧ x < 4294967296) : Wd [x] := fun y hy => by cases hy with
  | head => exact h
  | tail _ h => cases h
end Go.SK
namespace Go.SK
open Go.RowKit Go.ChangeShapes Go.WideShapes Go.ChangeAt
abbrev DecL := (Int × Int × List InstL) × (Int × Int)
end Go.SK
namespace Go.SK
open Go.RowKit Go.ChangeShapes Go.WideShapes Go.ChangeAt
def oneL : List InstL := [⟨128, 1, 2, [⟨1, 3, []⟩, ⟨1, 4, []⟩]⟩]
structure Small (l : List InstP) : Prop where
  len : l.length ≤ 3000000000000
  op : ∀ i ∈ l, 0 ≤ i.op
  op2 : ∀ i ∈ l, i.op < 65536
  sum : ∀ i ∈ l, (i.args.map argRoom).sum ≤ 900000000
  txt : ∀ i ∈ l, ∀ a ∈ i.args, a.s.length ≤ 100000000000
theorem Small.args {l : List InstP} (h : Small l) : ∀ i ∈ l, i.args.length ≤ 900000000 := fun i hi => Nat.le_trans (len_sum i.args) (h.sum i hi)
theorem Small.of {l m : List InstP} (h : l.map InstP.L = m.map InstP.L) (hm : Small m) : Small l := by
  have key : ∀ i ∈ l, ∃ j ∈ m, j.op = i.op ∧ j.args = i.args := fun i hi => by
    have : i.L ∈ m.map InstP.L := h ▸ List.mem_map_of_mem hi
    obtain ⟨j, hj, he⟩ := List.mem_map.1 this
    exact ⟨j, hj, congrArg InstL.op he, congrArg InstL.args he⟩
  refine ⟨by rw [insts_len h]; exact hm.len, fun i hi => ?_, fun i hi => ?_, fun i hi => ?_, fun i hi => ?_⟩ <;> obtain ⟨j, hj, h1, h2⟩ := key i hi
  · rw [← h1]; exact hm.op j hj
  · rw [← h1]; exact hm.op2 j hj
  · rw [← h2]; exact hm.sum j hj
  · rw [← h2]; exact hm.txt j hj
theorem Small.one {l : List InstP} (h : l.map InstP.L = oneL) : Small l :=
  Small.of (m := [⟨128, 1, 2, none, 0, [⟨1, 3, []⟩, ⟨1, 4, []⟩]⟩]) h ⟨by decide, by decide, by decide, by decide, by decide⟩
end Go.SK
namespace Go.SK
open Go.RowKit Go.ChangeShapes Go.WideShapes Go.ChangeAt
abbrev SQ := @run_seq
abbrev RG := @run_region
abbrev NL := @RunL.nil
abbrev CN := @RunL.cons
abbrev TK := @RunL.take
abbrev OM := @RunL.omit
abbrev TP := @RV.tmp
section
variable {P : Program} {b : Base} {k : List Item} {f : Nat → Value} {w : World} {E : Frame → World → Prop} {ops : Array Oper} {l : List Oper} {d : Option Tmp} {ty : TypeId} {pos : String} {aft : Array Edge} {x : Operand}
theorem SR {id : Nat} {y : Code} (h : RunL P b l.toArray l (.code y :: k) f w E) : Run P b (.code (.seq (.region id l.toArray false) y) :: k) f w E := run_seq (run_region h)
theorem NSR {l2 : List Oper} {id : Nat} {y : Code} (h : RunL P b l2.toArray l2 (.code y :: k) f w E) : RunL P b ops [] (.code (.seq (.region id l2.toArray false) y) :: k) f w E := RunL.nil (run_seq (run_region h))
theorem NR {l2 : List Oper} {id : Nat} (h : RunL P b l2.toArray l2 k f w E) : RunL P b ops [] (.code (.region id l2.toArray false) :: k) f w E := RunL.nil (run_region h)
abbrev mvO (x : Operand) (d : Option Tmp) (ty : TypeId) (pos : String) (aft : Array Edge) : Oper := { dst := d, op := .move x, type := ty, pos := pos, after := aft, guard := none }
abbrev asO (x : Operand) (d : Option Tmp) (ty : TypeId) (pos : String) (aft : Array Edge) : Oper := { dst := d, op := .assign x, type := ty, pos := pos, after := aft, guard := none }
theorem MI {a : Int} (h : ev b.n f x = .int .i64 a) (hk : RunL P b ops l k (putF f d (.int .i64 a)) w E) : RunL P b ops (mvO x d ty pos aft :: l) k f w E := RunL.cons (Op1.move h hk)
theorem AI {a : Int} (h : ev b.n f x = .int .i64 a) (hk : RunL P b ops l k (putF f d (.int .i64 a)) w E) : RunL P b ops (asO x d ty pos aft :: l) k f w E := RunL.cons (Op1.assign h hk)
theorem MU {a : Int} (h : ev b.n f x = .int .u32 a) (hk : RunL P b ops l k (putF f d (.int .u32 a)) w E) : RunL P b ops (mvO x d ty pos aft :: l) k f w E := RunL.cons (Op1.move h hk)
theorem AU {a : Int} (h : ev b.n f x = .int .u32 a) (hk : RunL P b ops l k (putF f d (.int .u32 a)) w E) : RunL P b ops (asO x d ty pos aft :: l) k f w E := RunL.cons (Op1.assign h hk)
theorem MC {a : Int} (h : ev b.n f x = .int .u8 a) (hk : RunL P b ops l k (putF f d (.int .u8 a)) w E) : RunL P b ops (mvO x d ty pos aft :: l) k f w E := RunL.cons (Op1.move h hk)
theorem AC {a : Int} (h : ev b.n f x = .int .u8 a) (hk : RunL P b ops l k (putF f d (.int .u8 a)) w E) : RunL P b ops (asO x d ty pos aft :: l) k f w E := RunL.cons (Op1.assign h hk)
theorem MB {a : Bool} (h : ev b.n f x = .bool a) (hk : RunL P b ops l k (putF f d (.bool a)) w E) : RunL P b ops (mvO x d ty pos aft :: l) k f w E := RunL.cons (Op1.move h hk)
theorem AB {a : Bool} (h : ev b.n f x = .bool a) (hk : RunL P b ops l k (putF f d (.bool a)) w E) : RunL P b ops (asO x d ty pos aft :: l) k f w E := RunL.cons (Op1.assign h hk)
theorem MS {a : List UInt8} (h : ev b.n f x = str a) (hk : RunL P b ops l k (putF f d (str a)) w E) : RunL P b ops (mvO x d ty pos aft :: l) k f w E := RunL.cons (Op1.move h hk)
theorem AS {a : List UInt8} (h : ev b.n f x = str a) (hk : RunL P b ops l k (putF f d (str a)) w E) : RunL P b ops (asO x d ty pos aft :: l) k f w E := RunL.cons (Op1.assign h hk)
theorem ML {a : Option Addr} {n c : Nat} (h : ev b.n f x = .slice a n c) (hk : RunL P b ops l k (putF f d (.slice a n c)) w E) : RunL P b ops (mvO x d ty pos aft :: l) k f w E := RunL.cons (Op1.move h hk)
theorem AL {a : Option Addr} {n c : Nat} (h : ev b.n f x = .slice a n c) (hk : RunL P b ops l k (putF f d (.slice a n c)) w E) : RunL P b ops (asO x d ty pos aft :: l) k f w E := RunL.cons (Op1.assign h hk)
theorem MP {a c : Nat} (h : ev b.n f x = .pointer (some ⟨a, c, none⟩)) (hk : RunL P b ops l k (putF f d (.pointer (some ⟨a, c, none⟩))) w E) : RunL P b ops (mvO x d ty pos aft :: l) k f w E := RunL.cons (Op1.move h hk)
theorem AP {a c : Nat} (h : ev b.n f x = .pointer (some ⟨a, c, none⟩)) (hk : RunL P b ops l k (putF f d (.pointer (some ⟨a, c, none⟩))) w E) : RunL P b ops (asO x d ty pos aft :: l) k f w E := RunL.cons (Op1.assign h hk)
end
section
variable {P : Program} {ty : TypeId} {ρ : Operand → Value} {w0 w : World} {C : Value → World → Prop} {M : Nat → Prop} {L L' D : List Res} {T T' : TypeId} {d : TypeDesc} {sz bytes : Nat} {zs : List Value} {x y : Operand} {b off : Nat} {v : Value} {l vs l' : List Value}
theorem SO (hst : St w0 M L D w) (hT : TyF P T d sz bytes zs) (hx : ρ x = .pointer (some ⟨b, off, none⟩)) (hy : ρ y = v) (hsel : Sel (Res.row b T' l) (Res.row b T' l') L L') (h : ∀ w' : World, St w0 M L' D w' → C undef w') (hv : v.cells = vs.toArray := by exact rfl) (hn : vs.length = sz := by exact rfl) (ho : vs.all okCell = true := by exact rfl) (hp : Put l off vs l' := by repeat (first | exact Put.nil | apply Put.put | apply Put.skip)) : Op1 P (.store T x y) ty ρ w C := Op1.store hst hT hx hy hv hn ho hsel hp h
theorem Fills.c {place : Nat → Option (Nat × Nat)} {l vs l1 l' : List Value} {i : Nat} {x : Operand} {off size : Nat} {v : Value} {rest : List (Nat × Operand)} (hx : ρ x = v) (hp : place i = some (off, size) := by exact rfl) (hv : v.cells = vs.toArray := by exact rfl) (hn : vs.length = size := by exact rfl) (hs : Nat.ble 1 size = true := by exact rfl) (hput : Put l off vs l1 := by repeat (first | exact Put.nil | apply Put.put | apply Put.skip)) (h : Fills ρ place l1 rest l') : Fills ρ place l ((i, x) :: rest) l' := .cons hp hx hv hn hs hput h
theorem Ret.det {g : FuncId} {args : Array Value} (h : Ret P g args w (fun u w' => u = v ∧ St w NoM [] [] w')) (hst : St w0 M L D w) (hk : ∀ w' : World, St w0 M L D w' → C v w') : Ret P g args w C := h.mono fun _ w' ⟨e, hp⟩ => by subst e; exact hk w' (hst.keepc hp)
end
end Go.SK
namespace Go.SK
abbrev Tx := List UInt8
def letB (c : UInt8) : Bool := decide (65 ≤ c.toNat ∧ c.toNat ≤ 90 ∨ 97 ≤ c.toNat ∧ c.toNat ≤ 122 ∨ c.toNat = 95)
def digB (c : UInt8) : Bool := decide (48 ≤ c.toNat ∧ c.toNat ≤ 57)
def blankB (c : UInt8) : Bool := decide (c.toNat = 9 ∨ c.toNat = 13 ∨ c.toNat = 32)
def runB (c : UInt8) : Bool := letB c || digB c
def runF (s : Tx) : Tx := s.takeWhile runB
def hexB (c : UInt8) : Bool := decide (48 ≤ c.toNat ∧ c.toNat ≤ 57 ∨ 97 ≤ c.toNat ∧ c.toNat ≤ 102 ∨ 65 ≤ c.toNat ∧ c.toNat ≤ 70)
def worF (c : UInt8) : Nat := if c.toNat ≤ 57 then c.toNat - 48 else if 97 ≤ c.toNat then c.toNat - 87 else c.toNat - 55
def digsF : Tx → Nat → Option Nat
  | [], n => some n
  | c :: r, n => if digB c = true then digsF r (10 * n + (c.toNat - 48)) else none
def hexsF : Tx → Nat → Option Nat
  | [], n => some n
  | c :: r, n => if hexB c = true then hexsF r (16 * n + worF c) else none
def plainF (s : Tx) : Option Nat := if s.length = 0 ∨ 10 < s.length ∨ (1 < s.length ∧ (s.getD 0 0).toNat = 48) then none else (digsF s 0).bind fun n => if n < 4294967296 then some n else none
def numLx (s : Tx) : Int × Int :=
  match plainF s with
  | some n => ((n : Int), 0)
  | none =>
    if 1 < s.length ∧ (s.getD 0 0).toNat = 45 then
      match plainF (s.drop 1) with
      | some n => if 1 ≤ n ∧ n ≤ 2147483648 then (4294967296 - (n : Int), 0) else (0, 62)
      | none => (0, 62)
    else if s.length < 3 ∨ 10 < s.length ∨ (s.getD 0 0).toNat ≠ 48 ∨ (s.getD 1 0).toNat ≠ 120 then (0, 62)
    else match hexsF (s.drop 2) 0 with
      | some n => ((n : Int), 0)
      | none => (0, 62)
def partF : Tx → Option (UInt8 × Nat)
  | [] => none
  | c :: r =>
    if c.toNat < 32 ∨ 126 < c.toNat ∨ c.toNat = 34 then none
    else if c.toNat ≠ 92 then some (c, 1)
    else if 0 < r.length ∧ ((r.getD 0 0).toNat = 34 ∨ (r.getD 0 0).toNat = 92) then some (r.getD 0 0, 2)
    else if 2 < r.length ∧ (r.getD 0 0).toNat = 120 ∧ hexB (r.getD 1 0) = true ∧ hexB (r.getD 2 0) = true then some (UInt8.ofNat (16 * worF (r.getD 1 0) + worF (r.getD 2 0)), 4)
    else none
def quoN : Nat → Tx → Option (Tx × Nat)
  | 0, _ => none
  | n + 1, s =>
    if s.length = 0 then none
    else if (s.getD 0 0).toNat = 34 then some ([], 1)
    else match partF s with
      | none => none
      | some (c, k) => (quoN n (s.drop k)).map fun q => (c :: q.1, k + q.2)
structure TokL where
  kind : Int
  text : Tx
  at_ : Int
  deriving DecidableEq
def tokF (s : Tx) : Except Int (Int × Tx × Nat) :=
  let c := s.getD 0 0
  if letB c = true then .ok (1, runF s, (runF s).length)
  else if c.toNat = 37 then
    let t := runF (s.drop 1)
    if (plainF t).isSome = true then .ok (2, t, t.length + 1) else .error 62
  else if digB c = true ∨ c.toNat = 45 then
    let t := s.take (1 + (runF (s.drop 1)).length)
    if (numLx t).2 = 0 then .ok (3, t, t.length) else .error 62
  else if c.toNat = 34 then
    match quoN (s.drop 1).length (s.drop 1) with
    | none => .error 61
    | some (t, n) => .ok (4, t, n + 1)
  else if c.toNat = 61 then .ok (5, [61], 1)
  else .error 60
def toksN : Nat → Tx → Nat → List TokL × (Int × Int)
  | 0, _, _ => ([], (0, 0))
  | n + 1, s, k =>
    if s.length = 0 ∨ (s.getD 0 0).toNat = 59 then ([], (0, 0))
    else if blankB (s.getD 0 0) = true then toksN n (s.drop 1) (k + 1)
    else match tokF s with
      | .error e => ([], (e, (k : Int)))
      | .ok (kd, t, m) =>
        let r := toksN n (s.drop m) (k + m)
        if r.2.1 = 0 then (⟨kd, t, (k : Int)⟩ :: r.1, (0, 0)) else ([], r.2)
def toksF (s : Tx) : List TokL × (Int × Int) := toksN s.length s 0
end Go.SK
namespace Go.SK
def kindF (c : UInt8) : Int := if blankB c = true then 1 else if letB c = true then 2 else if digB c = true then 3 else 0
theorem kind1 {c : UInt8} (h : c.toNat = 9 ∨ c.toNat = 13 ∨ c.toNat = 32) : kindF c = 1 := by
  unfold kindF; rw [if_pos (show blankB c = true from decide_eq_true h)]
theorem kind2 {c : UInt8} (h0 : ¬ (c.toNat = 9 ∨ c.toNat = 13 ∨ c.toNat = 32)) (h : 65 ≤ c.toNat ∧ c.toNat ≤ 90 ∨ 97 ≤ c.toNat ∧ c.toNat ≤ 122 ∨ c.toNat = 95) : kindF c = 2 := by
  unfold kindF; rw [if_neg (by unfold blankB; simpa using h0), if_pos (show letB c = true from decide_eq_true h)]
theorem kind3 {c : UInt8} (h0 : 48 ≤ c.toNat ∧ c.toNat ≤ 57) : kindF c = 3 := by
  unfold kindF; rw [if_neg (by unfold blankB; simp; omega), if_neg (by unfold letB; simp; omega), if_pos (show digB c = true from decide_eq_true h0)]
theorem kind0 {c : UInt8} (h0 : ¬ (c.toNat = 9 ∨ c.toNat = 13 ∨ c.toNat = 32)) (h1 : ¬ (65 ≤ c.toNat ∧ c.toNat ≤ 90 ∨ 97 ≤ c.toNat ∧ c.toNat ≤ 122 ∨ c.toNat = 95)) (h2 : ¬ (48 ≤ c.toNat ∧ c.toNat ≤ 57)) : kindF c = 0 := by
  unfold kindF; rw [if_neg (by unfold blankB; simpa using h0), if_neg (by unfold letB; simpa using h1), if_neg (by unfold digB; simpa using h2)]
theorem let_blank {c : UInt8} (h : letB c = true) : blankB c = false := by
  unfold letB at h; unfold blankB; simp only [decide_eq_true_eq] at h; simp; omega
theorem dig_blank {c : UInt8} (h : digB c = true) : blankB c = false := by
  unfold digB at h; unfold blankB; simp only [decide_eq_true_eq] at h; simp; omega
theorem dig_let {c : UInt8} (h : digB c = true) : letB c = false := by
  unfold digB at h; unfold letB; simp only [decide_eq_true_eq] at h; simp; omega
theorem kind_cases (c : UInt8) : (kindF c = 1 ∧ blankB c = true ∧ letB c = false ∧ digB c = false) ∨ (kindF c = 2 ∧ blankB c = false ∧ letB c = true ∧ digB c = false) ∨ (kindF c = 3 ∧ blankB c = false ∧ letB c = false ∧ digB c = true) ∨ (kindF c = 0 ∧ blankB c = false ∧ letB c = false ∧ digB c = false) := by
  unfold kindF
  cases hl : letB c with
  | true =>
    rw [let_blank hl]
    cases hd : digB c with
    | true => rw [dig_let hd] at hl; cases hl
    | false => simp
  | false =>
    cases hd : digB c with
    | true => rw [dig_blank hd]; simp
    | false => cases hb : blankB c <;> simp
theorem kind_run (c : UInt8) : 2 ≤ kindF c ↔ runB c = true := by
  unfold runB; rcases kind_cases c with ⟨e, b, l, d⟩ | ⟨e, b, l, d⟩ | ⟨e, b, l, d⟩ | ⟨e, b, l, d⟩ <;> rw [e, l, d] <;> simp
theorem kind_let (c : UInt8) : kindF c = 2 ↔ letB c = true := by
  rcases kind_cases c with ⟨e, b, l, d⟩ | ⟨e, b, l, d⟩ | ⟨e, b, l, d⟩ | ⟨e, b, l, d⟩ <;> rw [e, l] <;> simp
theorem kind_dig (c : UInt8) : kindF c = 3 ↔ digB c = true := by
  rcases kind_cases c with ⟨e, b, l, d⟩ | ⟨e, b, l, d⟩ | ⟨e, b, l, d⟩ | ⟨e, b, l, d⟩ <;> rw [e, d] <;> simp
theorem kind_blank (c : UInt8) : kindF c = 1 ↔ blankB c = true := by
  rcases kind_cases c with ⟨e, b, l, d⟩ | ⟨e, b, l, d⟩ | ⟨e, b, l, d⟩ | ⟨e, b, l, d⟩ <;> rw [e, b] <;> simp
theorem dropC {s : Tx} {i : Nat} (h : i < s.length) : s.drop i = s.getD i 0 :: s.drop (i + 1) := by
  rw [List.drop_eq_getElem_cons h]; simp [List.getD, h]
theorem getD_drop (s : Tx) (i k : Nat) : (s.drop i).getD k 0 = s.getD (i + k) 0 := by
  simp [List.getD, List.getElem?_drop]
theorem run_step {s : Tx} {i : Nat} (h : i < s.length) (hr : runB (s.getD i 0) = true) : (runF (s.drop i)).length = 1 + (runF (s.drop (i + 1))).length := by
  unfold runF; rw [dropC h, List.takeWhile_cons, if_pos hr, List.length_cons]; omega
theorem run_stop {s : Tx} {i : Nat} (h : i < s.length) (hr : ¬ runB (s.getD i 0) = true) : (runF (s.drop i)).length = 0 := by
  unfold runF; rw [dropC h, List.takeWhile_cons, if_neg hr]; rfl
theorem run_end {s : Tx} {i : Nat} (h : s.length ≤ i) : (runF (s.drop i)).length = 0 := by
  rw [List.drop_eq_nil_of_le h]; rfl
theorem runF_take (s : Tx) {n : Nat} (h : (runF s).length = n) : s.take n = runF s := by
  subst h; unfold runF
  induction s with
  | nil => rfl
  | cons c r ih => rw [List.takeWhile_cons]; split
                   · rw [List.length_cons, List.take_succ_cons, ih]
                   · rfl
theorem runF_le (s : Tx) : (runF s).length ≤ s.length := by
  unfold runF; exact (List.takeWhile_sublist _).length_le
theorem run_l {c : UInt8} (h : letB c = true) : runB c = true := by unfold runB; rw [h]; rfl
theorem run_d {c : UInt8} (h : digB c = true) : runB c = true := by unfold runB; rw [h, Bool.or_true]
theorem run_no {c : UInt8} (h : letB c = false) (h2 : digB c = false) : ¬ runB c = true := by unfold runB; rw [h, h2]; decide
def badP (s : Tx) : Prop := s.length = 0 ∨ 10 < s.length ∨ (1 < s.length ∧ (s.getD 0 0).toNat = 48)
instance (s : Tx) : Decidable (badP s) := by unfold badP; infer_instance
def plR (s : Tx) : Nat := if badP s then 0 else (digsF s 0).getD 0
theorem plainF_eq (s : Tx) : plainF s = if badP s then none else (digsF s 0).bind fun n => if n < 4294967296 then some n else none := rfl
theorem plR_bad {s : Tx} (h : badP s) : plR s = 0 ∧ (plainF s).isSome = false := by
  rw [plainF_eq]; unfold plR; rw [if_pos h, if_pos h]; exact ⟨rfl, rfl⟩
theorem plR_none {s : Tx} (h : ¬ badP s) (hd : digsF s 0 = none) : plR s = 0 ∧ (plainF s).isSome = false := by
  rw [plainF_eq]; unfold plR; rw [if_neg h, if_neg h, hd]; exact ⟨rfl, rfl⟩
theorem plR_some {s : Tx} {n : Nat} (h : ¬ badP s) (hd : digsF s 0 = some n) : plR s = n ∧ (plainF s).isSome = decide (n < 4294967296) := by
  rw [plainF_eq]; unfold plR; rw [if_neg h, if_neg h, hd]
  refine ⟨rfl, ?_⟩
  show (if n < 4294967296 then some n else none).isSome = _
  split <;> rename_i h1 <;> simp [h1]
theorem plR_of {s : Tx} {n : Nat} (h : plainF s = some n) : plR s = n ∧ n < 4294967296 := by
  by_cases hb : badP s
  · have := (plR_bad hb).2; rw [h] at this; cases this
  · cases hd : digsF s 0 with
    | none => have := (plR_none hb hd).2; rw [h] at this; cases this
    | some m =>
      have e := plR_some hb hd
      rw [h] at e; simp at e
      refine ⟨?_, ?_⟩
      · have : plainF s = some m := by rw [plainF_eq, if_neg hb, hd]; show (if m < 4294967296 then some m else none) = _; rw [if_pos e.2]
        rw [h] at this; cases this; exact e.1
      · have : plainF s = some m := by rw [plainF_eq, if_neg hb, hd]; show (if m < 4294967296 then some m else none) = _; rw [if_pos e.2]
        rw [h] at this; cases this; exact e.2
theorem digs_step {s : Tx} {i n : Nat} (h : i < s.length) (hd : digB (s.getD i 0) = true) : digsF (s.drop i) n = digsF (s.drop (i + 1)) (10 * n + ((s.getD i 0).toNat - 48)) := by
  rw [dropC h, digsF, if_pos hd]
theorem digs_stop {s : Tx} {i n : Nat} (h : i < s.length) (hd : ¬ digB (s.getD i 0) = true) : digsF (s.drop i) n = none := by
  rw [dropC h, digsF, if_neg hd]
theorem digs_end {s : Tx} {i n : Nat} (h : s.length ≤ i) : digsF (s.drop i) n = some n := by
  rw [List.drop_eq_nil_of_le h]; rfl
theorem dig_bd {c : UInt8} (h : digB c = true) : 48 ≤ c.toNat ∧ c.toNat ≤ 57 := by unfold digB at h; simpa using h
theorem hex_bd {c : UInt8} (h : hexB c = true) : (48 ≤ c.toNat ∧ c.toNat ≤ 57 ∨ 97 ≤ c.toNat ∧ c.toNat ≤ 102 ∨ 65 ≤ c.toNat ∧ c.toNat ≤ 70) ∧ worF c ≤ 15 := by
  unfold hexB at h; simp only [decide_eq_true_eq] at h
  refine ⟨h, ?_⟩
  unfold worF; split
  · omega
  · split <;> omega
theorem hexs_step {s : Tx} {i n : Nat} (h : i < s.length) (hd : hexB (s.getD i 0) = true) : hexsF (s.drop i) n = hexsF (s.drop (i + 1)) (16 * n + worF (s.getD i 0)) := by
  rw [dropC h, hexsF, if_pos hd]
theorem hexs_stop {s : Tx} {i n : Nat} (h : i < s.length) (hd : ¬ hexB (s.getD i 0) = true) : hexsF (s.drop i) n = none := by
  rw [dropC h, hexsF, if_neg hd]
theorem hexs_end {s : Tx} {i n : Nat} (h : s.length ≤ i) : hexsF (s.drop i) n = some n := by
  rw [List.drop_eq_nil_of_le h]; rfl
theorem pow10_le {i : Nat} (h : i ≤ 9) : 10 ^ i ≤ 1000000000 := by
  have : 10 ^ i ≤ 10 ^ 9 := Nat.pow_le_pow_right (by omega) h
  omega
theorem pow16_le {i : Nat} (h : i ≤ 7) : 16 ^ i ≤ 268435456 := by
  have : 16 ^ i ≤ 16 ^ 7 := Nat.pow_le_pow_right (by omega) h
  omega
theorem pow10_step {i n d : Nat} (h : n < 10 ^ i) (hd : d ≤ 9) : 10 * n + d < 10 ^ (i + 1) := by rw [Nat.pow_succ]; omega
theorem pow16_step {i n d : Nat} (h : n < 16 ^ i) (hd : d ≤ 15) : 16 * n + d < 16 ^ (i + 1) := by rw [Nat.pow_succ]; omega
theorem numF_plain {s : Tx} {n : Nat} (h : plainF s = some n) : numLx s = ((n : Int), 0) := by unfold numLx; rw [h]
theorem numF_minus {s : Tx} {n : Nat} (h : plainF s = none) (h1 : 1 < s.length ∧ (s.getD 0 0).toNat = 45) (h2 : plainF (s.drop 1) = some n) (h3 : 1 ≤ n ∧ n ≤ 2147483648) : numLx s = (4294967296 - (n : Int), 0) := by
  unfold numLx; rw [h]; dsimp only; rw [if_pos h1, h2]; dsimp only; rw [if_pos h3]
theorem numF_minusBad {s : Tx} (h : plainF s = none) (h1 : 1 < s.length ∧ (s.getD 0 0).toNat = 45) (h2 : ∀ n, plainF (s.drop 1) = some n → ¬ (1 ≤ n ∧ n ≤ 2147483648)) : numLx s = (0, 62) := by
  unfold numLx; rw [h]; dsimp only; rw [if_pos h1]
  cases h4 : plainF (s.drop 1) with
  | none => rfl
  | some n => dsimp only; rw [if_neg (h2 n h4)]
theorem numF_bad {s : Tx} (h : plainF s = none) (h1 : ¬ (1 < s.length ∧ (s.getD 0 0).toNat = 45)) (h2 : s.length < 3 ∨ 10 < s.length ∨ (s.getD 0 0).toNat ≠ 48 ∨ (s.getD 1 0).toNat ≠ 120) : numLx s = (0, 62) := by
  unfold numLx; rw [h]; dsimp only; rw [if_neg h1, if_pos h2]
theorem numF_hex {s : Tx} {n : Nat} (h : plainF s = none) (h1 : ¬ (1 < s.length ∧ (s.getD 0 0).toNat = 45)) (h2 : ¬ (s.length < 3 ∨ 10 < s.length ∨ (s.getD 0 0).toNat ≠ 48 ∨ (s.getD 1 0).toNat ≠ 120)) (h3 : hexsF (s.drop 2) 0 = some n) : numLx s = ((n : Int), 0) := by
  unfold numLx; rw [h]; dsimp only; rw [if_neg h1, if_neg h2, h3]
theorem numF_hexBad {s : Tx} (h : plainF s = none) (h1 : ¬ (1 < s.length ∧ (s.getD 0 0).toNat = 45)) (h2 : ¬ (s.length < 3 ∨ 10 < s.length ∨ (s.getD 0 0).toNat ≠ 48 ∨ (s.getD 1 0).toNat ≠ 120)) (h3 : hexsF (s.drop 2) 0 = none) : numLx s = (0, 62) := by
  unfold numLx; rw [h]; dsimp only; rw [if_neg h1, if_neg h2, h3]
theorem not_t {b : Bool} (h : (!b) = true) : ¬ b = true := by cases b <;> simp_all
theorem not_f {b : Bool} (h : (!b) = false) : b = true := by cases b <;> simp_all
theorem isSome_ex {α : Type} {o : Option α} (h : o.isSome = true) : ∃ a, o = some a := by cases o with
  | none => cases h
  | some a => exact ⟨a, rfl⟩
theorem isSome_no {α : Type} {o : Option α} (h : o.isSome = false) : o = none := by cases o with
  | none => rfl
  | some a => cases h
def partA (s : Tx) (a : Nat) : Option (UInt8 × Nat) :=
  if (s.getD a 0).toNat < 32 ∨ 126 < (s.getD a 0).toNat ∨ (s.getD a 0).toNat = 34 then none
  else if (s.getD a 0).toNat ≠ 92 then some (s.getD a 0, 1)
  else if 0 < s.length - (a + 1) ∧ ((s.getD (a + 1) 0).toNat = 34 ∨ (s.getD (a + 1) 0).toNat = 92) then some (s.getD (a + 1) 0, 2)
  else if 2 < s.length - (a + 1) ∧ (s.getD (a + 1) 0).toNat = 120 ∧ hexB (s.getD (a + 2) 0) = true ∧ hexB (s.getD (a + 3) 0) = true then some (UInt8.ofNat (16 * worF (s.getD (a + 2) 0) + worF (s.getD (a + 3) 0)), 4)
  else none
theorem part_drop {s : Tx} {a : Nat} (h : a < s.length) : partF (s.drop a) = partA s a := by
  rw [dropC h, partF]
  have e0 : (s.drop (a + 1)).getD 0 0 = s.getD (a + 1) 0 := by rw [getD_drop]
  have e1 : (s.drop (a + 1)).getD 1 0 = s.getD (a + 2) 0 := by rw [getD_drop]
  have e2 : (s.drop (a + 1)).getD 2 0 = s.getD (a + 3) 0 := by rw [getD_drop]
  rw [e0, e1, e2, List.length_drop]; rfl
theorem part_no1 {s : Tx} {a : Nat} (h : a < s.length) (h1 : (s.getD a 0).toNat < 32 ∨ 126 < (s.getD a 0).toNat ∨ (s.getD a 0).toNat = 34) : partF (s.drop a) = none := by
  rw [part_drop h]; unfold partA; rw [if_pos h1]
theorem part_one {s : Tx} {a : Nat} (h : a < s.length) (h1 : ¬ ((s.getD a 0).toNat < 32 ∨ 126 < (s.getD a 0).toNat ∨ (s.getD a 0).toNat = 34)) (h2 : (s.getD a 0).toNat ≠ 92) : partF (s.drop a) = some (s.getD a 0, 1) := by
  rw [part_drop h]; unfold partA; rw [if_neg h1, if_pos h2]
theorem part_two {s : Tx} {a : Nat} (h : a < s.length) (h2 : (s.getD a 0).toNat = 92) (h3 : a + 1 < s.length) (h4 : (s.getD (a + 1) 0).toNat = 34 ∨ (s.getD (a + 1) 0).toNat = 92) : partF (s.drop a) = some (s.getD (a + 1) 0, 2) := by
  rw [part_drop h]; unfold partA; rw [if_neg (by omega), if_neg (by omega), if_pos ⟨by omega, h4⟩]
theorem part_four {s : Tx} {a : Nat} (h : a < s.length) (h2 : (s.getD a 0).toNat = 92) (h3 : a + 3 < s.length) (h4 : (s.getD (a + 1) 0).toNat = 120) (h5 : hexB (s.getD (a + 2) 0) = true) (h6 : hexB (s.getD (a + 3) 0) = true) : partF (s.drop a) = some (UInt8.ofNat (16 * worF (s.getD (a + 2) 0) + worF (s.getD (a + 3) 0)), 4) := by
  rw [part_drop h]; unfold partA; rw [if_neg (by omega), if_neg (by omega), if_neg (by omega), if_pos ⟨by omega, h4, h5, h6⟩]
theorem part_no2 {s : Tx} {a : Nat} (h : a < s.length) (h2 : (s.getD a 0).toNat = 92) (h3 : ¬ (a + 1 < s.length ∧ ((s.getD (a + 1) 0).toNat = 34 ∨ (s.getD (a + 1) 0).toNat = 92))) (h4 : ¬ (a + 3 < s.length ∧ (s.getD (a + 1) 0).toNat = 120 ∧ hexB (s.getD (a + 2) 0) = true ∧ hexB (s.getD (a + 3) 0) = true)) : partF (s.drop a) = none := by
  rw [part_drop h]; unfold partA; rw [if_neg (by omega), if_neg (by omega), if_neg (fun q => h3 ⟨by omega, q.2⟩), if_neg (fun q => h4 ⟨by omega, q.2⟩)]
theorem part_len {s : Tx} {a : Nat} {c : UInt8} {k : Nat} (h : a < s.length) (e : partF (s.drop a) = some (c, k)) : 1 ≤ k ∧ a + k ≤ s.length := by
  rw [part_drop h] at e; unfold partA at e
  split at e
  · cases e
  split at e
  · cases e; omega
  split at e
  · cases e; omega
  split at e
  · cases e; omega
  · cases e
theorem pow16_le8 {i : Nat} (h : i ≤ 8) : 16 ^ i ≤ 4294967296 := by
  have : 16 ^ i ≤ 16 ^ 8 := Nat.pow_le_pow_right (by omega) h
  omega
theorem hex_byte {a b : Nat} (ha : a ≤ 15) (hb : b ≤ 15) : ((UInt8.ofNat (16 * a + b)).toNat : Int) = 16 * (a : Int) + b := by
  rw [UInt8.toNat_ofNat']; omega
def partV (o : Option (UInt8 × Nat)) : Value := .tuple #[.int .u8 ((o.getD (0, 0)).1.toNat : Int), .int .i64 ((o.getD (0, 0)).2 : Int)]
end Go.SK
namespace Go.SK
open Go.RowKit
theorem St.ofBelow {w w' : World} (h : Below w.heap.size w w') : St w NoM [] [] w' := (St.init w).keep (Kept.of_below h)
theorem Ret.ofEq {P : Program} {g : FuncId} {args : Array Value} {w : World} {v : Value} (h : Calls P g args w fun e w' => e = .returned v ∧ w' = w) : Ret P g args w (fun u w' => u = v ∧ St w NoM [] [] w') :=
  Calls.mono h fun e w' ⟨he, hw⟩ => ⟨v, he, rfl, hw ▸ St.init w⟩
theorem Ret.ofBelow {P : Program} {g : FuncId} {args : Array Value} {w : World} {v : Value} (h : Calls P g args w fun e w' => e = .returned v ∧ Below w.heap.size w w') : Ret P g args w (fun u w' => u = v ∧ St w NoM [] [] w') :=
  Calls.mono h fun e w' ⟨he, hw⟩ => ⟨v, he, rfl, St.ofBelow hw⟩
theorem str_size (s : List UInt8) : (ByteArray.mk s.toArray).size = s.length := by simp [ByteArray.size]
theorem str_list (s : List UInt8) : (ByteArray.mk s.toArray).data.toList = s := rfl
section
variable {P : Program} {ty : TypeId} {ρ : Operand → Value} {w0 w : World} {C : Value → World → Prop} {M : Nat → Prop} {L D : List Res} {T T2 e : TypeId} {x y : Operand} {sz bytes : Nat} {zs : List Value}
def ifaceB : TypeDesc → Bool
  | .interface _ => true
  | _ => false
theorem Op1.mkIface {d : TypeDesc} {v : Value} (hT : TyF P T d sz bytes zs) (hd : ifaceB d = false) (hx : ρ x = v) (h : C (.iface T v) w) : Op1 P (.makeInterface T x) ty ρ w C := by
  refine Op1.of (v := .iface T v) (w' := w) ?_ h
  simp only [execOp, hx, Instr.makeInterface, Sem.run_bind, hT.run_und, Result.andThen]
  cases d <;> first | rfl | cases hd
theorem equal_nn {m : Array (String × TypeId)} (hT : TyF P T (.interface m) sz bytes zs) : (Op.equal T .nilIface .nilIface).run P w = .ok true w := by
  show (Op.equalIn (9999 + 1) T .nilIface .nilIface).run P w = _
  rw [Op.equalIn]
  simp [Sem.run_bind, hT.run_und, Result.andThen]
theorem equal_in {m : Array (String × TypeId)} {U : TypeId} {p : Value} (hT : TyF P T (.interface m) sz bytes zs) : (Op.equal T (.iface U p) .nilIface).run P w = .ok false w := by
  show (Op.equalIn (9999 + 1) T (.iface U p) .nilIface).run P w = _
  rw [Op.equalIn]
  simp [Sem.run_bind, hT.run_und, Result.andThen]
theorem Op1.eqlNN {m : Array (String × TypeId)} (hT : TyF P T (.interface m) sz bytes zs) (hx : ρ x = .nilIface) (hy : ρ (.const .nilIface) = .nilIface) (h : C (.bool true) w) : Op1 P (.binOp .eql T x (.const .nilIface) T2) ty ρ w C := by
  refine Op1.of (v := .bool true) (w' := w) ?_ h
  simp only [execOp, hx, hy, eqGuard]
  simp [binOp, equal_nn hT, Result.andThen]
theorem Op1.eqlIN {m : Array (String × TypeId)} {U : TypeId} {p : Value} (hT : TyF P T (.interface m) sz bytes zs) (hx : ρ x = .iface U p) (hy : ρ y = .nilIface) (h : C (.bool false) w) : Op1 P (.binOp .eql T x y T2) ty ρ w C := by
  refine Op1.of (v := .bool false) (w' := w) ?_ h
  simp only [execOp, hx, hy, eqGuard]
  simp [binOp, equal_in hT, Result.andThen]
theorem Op1.neqNN {m : Array (String × TypeId)} (hT : TyF P T (.interface m) sz bytes zs) (hx : ρ x = .nilIface) (hy : ρ (.const .nilIface) = .nilIface) (h : C (.bool false) w) : Op1 P (.binOp .neq T x (.const .nilIface) T2) ty ρ w C := by
  refine Op1.of (v := .bool false) (w' := w) ?_ h
  simp only [execOp, hx, hy, eqGuard]
  simp [binOp, equal_nn hT, Result.andThen]
theorem Op1.neqIN {m : Array (String × TypeId)} {U : TypeId} {p : Value} (hT : TyF P T (.interface m) sz bytes zs) (hx : ρ x = .iface U p) (hy : ρ y = .nilIface) (h : C (.bool true) w) : Op1 P (.binOp .neq T x y T2) ty ρ w C := by
  refine Op1.of (v := .bool true) (w' := w) ?_ h
  simp only [execOp, hx, hy, eqGuard]
  simp [binOp, equal_in hT, Result.andThen]
theorem Op1.strBytes {S : TypeId} {s : List UInt8} {sz2 b2 es eb : Nat} {z2 ez : List Value} (hst : St w0 M L D w) (hS : TyF P S .string sz2 b2 z2) (hT : TyF P T (.slice e) sz bytes zs) (he : TyF P e (.int .u8) es eb ez) (hx : ρ x = str s)
    (h : ∀ (w' : World) (b cp : Nat), St w0 M (Res.rs (some ⟨b, 0, none⟩) s.length 1 (s.flatMap byC) :: L) D w' → C (.slice (some ⟨b, 0, none⟩) s.length cp) w') : Op1 P (.convert S T x) ty ρ w C := by
  have hr := Lib.run_convert_string_bytes (P := P) w S T e ⟨s.toArray⟩ hS.und hT.und he.und
  rw [str_size] at hr
  refine Inv.value (v := .slice (some ⟨w.heap.size, 0, none⟩) s.length (grownCap w s.length 0 e)) (w' := Lib.bytesWorld w e ⟨s.toArray⟩) ?_ (h (Lib.bytesWorld w e ⟨s.toArray⟩) w.heap.size (grownCap w s.length 0 e) (hst.push (Kept.of_below (Lib.bytesWorld_below _ _ _)) ?_ ?_))
  · simp only [execOp, hx, Sem.run_bind, str]
    rw [hr]; rfl
  · refine ⟨by rw [flat_len (es := 1) (fun _ => rfl)], .inr ⟨_, 0, rfl, fun i v hi => ?_⟩⟩
    rw [flat_byC] at hi
    have hi2 := (List.getElem?_eq_some_iff.1 hi)
    obtain ⟨h1, h2⟩ := hi2
    rw [List.length_map] at h1
    have := Lib.bytesWorld_cell w e ⟨s.toArray⟩ i (by rw [str_size]; exact h1)
    rw [Nat.zero_add, this, ← h2, str_list]; simp [List.getD, h1]
  · intro b ⟨_, o, ho⟩
    cases ho; exact Nat.le_refl _
end
theorem putRow_kept {α : Type} [Inhabited α] (enc : α → Value) (w : World) (b off : Nat) (d : Array α) (n : Nat) {cs : Array Value} {T : TypeId} {fz : Nat × Nat} (h : w.heap[b]? = some (.cells cs T fz)) :
    Kept (· = b) w ((Sort.putRow enc w b off d).drewN n) ∧ ((Sort.putRow enc w b off d).drewN n).heap[b]? = some (.cells (Sort.putCells enc off d cs) T fz) := by
  refine ⟨⟨rfl, rfl, rfl, ?_, ?_⟩, ?_⟩
  · simp [Sort.putRow, Sort.mapBlock, World.drewN]
  · intro c hc hne
    simp [Sort.putRow, Sort.mapBlock, World.drewN, Array.getElem?_modify, show b ≠ c from fun e => hne e.symm]
  · simp [Sort.putRow, Sort.mapBlock, World.drewN, Array.getElem?_modify, h, Sort.onCells]
end Go.SK
namespace Go.SK
def puO (s : Tx) : Option Nat := match Lib.parseUintB 32 s with
  | .ok u => some u
  | _ => none
def puV (s : Tx) : Nat := match Lib.parseUintB 32 s with
  | .ok u => u
  | .range => 4294967295
  | _ => 0
theorem puV_le (s : Tx) : puV s ≤ 4294967295 := by
  unfold puV
  cases h : Lib.parseUintB 32 s
  · exact Lib.parseUintB_le h
  · exact Nat.zero_le _
  · exact Nat.le_refl _
theorem digs_mono : ∀ (s : Tx) (a n : Nat), digsF s a = some n → a ≤ n
  | [], a, n, h => by cases h; exact Nat.le_refl _
  | c :: r, a, n, h => by
    rw [digsF] at h; split at h
    · have := digs_mono r _ n h; omega
    · cases h
theorem digs_parse : ∀ (s : Tx) (a n : Nat), digsF s a = some n → n ≤ 4294967295 → Lib.parseUintM 4294967295 a s = .ok n
  | [], a, n, h, _ => by cases h; rfl
  | c :: r, a, n, h, hn => by
    rw [digsF] at h; split at h
    · rename_i hd
      have hb := dig_bd hd
      have hm := digs_mono r _ n h
      rw [Lib.parseUintM, if_pos hb, if_neg (by omega), if_neg (by omega), Nat.mul_comm a 10]
      exact digs_parse r _ n h hn
    · cases h
theorem digs_app (c : UInt8) : ∀ (s : Tx) (a : Nat), digsF (s ++ [c]) a = (digsF s a).bind fun m => if digB c = true then some (10 * m + (c.toNat - 48)) else none
  | [], a => by simp [digsF]
  | d :: r, a => by
    rw [List.cons_append, digsF, digsF]
    split
    · exact digs_app c r _
    · rfl
theorem digs_dec (u : Nat) : digsF (Lib.decDigits u) 0 = some u := by
  induction u using Nat.strongRecOn with
  | _ u ih =>
    rw [Lib.decDigits]; split
    · rename_i h
      have h1 : (UInt8.ofNat (48 + u)).toNat = 48 + u := by rw [UInt8.toNat_ofNat']; omega
      rw [digsF, if_pos (show digB _ = true from decide_eq_true (by omega)), digsF, h1]; congr 1; omega
    · rename_i h
      have h1 : (UInt8.ofNat (48 + u % 10)).toNat = 48 + u % 10 := by rw [UInt8.toNat_ofNat']; omega
      rw [digs_app, ih (u / 10) (by omega), Option.bind_some, if_pos (show digB _ = true from decide_eq_true (by omega)), h1]; congr 1; omega
theorem getD_app0 {a b : Tx} (h : 0 < a.length) : (a ++ b).getD 0 0 = a.getD 0 0 := by
  cases a with
  | nil => exact absurd h (Nat.lt_irrefl _)
  | cons c r => rfl
theorem snoc_ind {p : Tx → Prop} (h0 : p []) (h1 : ∀ r c, p r → p (r ++ [c])) (s : Tx) : p s := by
  have : ∀ l : Tx, p l.reverse := fun l => by
    induction l with
    | nil => exact h0
    | cons c r ih => rw [List.reverse_cons]; exact h1 _ _ ih
  have h := this s.reverse
  rwa [List.reverse_reverse] at h
theorem dec_len (u : Nat) : (Lib.decDigits u).length = Lib.nDigits u := by rw [Lib.decDigits_eq]; simp
theorem dec_head {u : Nat} : 0 < (Lib.decDigits u).length ∧ (((Lib.decDigits u).getD 0 0).toNat = 48 → u = 0) := by
  induction u using Nat.strongRecOn with
  | _ u ih =>
    rw [Lib.decDigits]; split
    · rename_i h
      have h1 : (UInt8.ofNat (48 + u)).toNat = 48 + u := by rw [UInt8.toNat_ofNat']; omega
      refine ⟨Nat.one_pos, fun h2 => ?_⟩
      have : ((([UInt8.ofNat (48 + u)] : List UInt8).getD 0 0)).toNat = 48 + u := h1
      omega
    · rename_i h
      obtain ⟨h1, h2⟩ := ih (u / 10) (by omega)
      refine ⟨by rw [List.length_append]; omega, fun h3 => ?_⟩
      rw [getD_app0 h1] at h3
      have := h2 h3; omega
theorem nDigits_le {u k : Nat} (h : u < 10 ^ (k + 1)) : Lib.nDigits u ≤ k + 1 := by
  induction k generalizing u with
  | zero => rw [Lib.nDigits_small (by simpa using h)]; exact Nat.le_refl _
  | succ k ih =>
    by_cases h10 : u < 10
    · rw [Lib.nDigits_small h10]; omega
    · rw [Lib.nDigits_big h10]
      have := ih (u := u / 10) (by rw [Nat.pow_succ] at h; omega)
      omega
theorem dec_of (s : Tx) : ∀ n, 0 < s.length → (1 < s.length → (s.getD 0 0).toNat ≠ 48) → digsF s 0 = some n → Lib.decDigits n = s ∧ ((s.getD 0 0).toNat ≠ 48 → 1 ≤ n) := by
  refine snoc_ind (p := fun s => ∀ n, 0 < s.length → (1 < s.length → (s.getD 0 0).toNat ≠ 48) → digsF s 0 = some n → Lib.decDigits n = s ∧ ((s.getD 0 0).toNat ≠ 48 → 1 ≤ n)) ?_ ?_ s
  · intro n h; exact absurd h (Nat.lt_irrefl _)
  · intro r c ih n _ hz hd
    rw [digs_app] at hd
    cases hr : digsF r 0 with
    | none => rw [hr] at hd; cases hd
    | some m =>
      rw [hr, Option.bind_some] at hd
      split at hd
      · rename_i hc
        have hb := dig_bd hc
        cases hd
        rcases Nat.eq_zero_or_pos r.length with h0 | h0
        · obtain rfl := List.length_eq_zero_iff.1 h0
          cases hr
          refine ⟨?_, fun h => ?_⟩
          · rw [Lib.decDigits, dif_pos (by omega), List.nil_append]
            congr 1
            apply UInt8.toNat_inj.1; rw [UInt8.toNat_ofNat']; omega
          · have : (([] ++ [c] : List UInt8).getD 0 0).toNat = c.toNat := rfl
            omega
        · have e0 : (r ++ [c]).getD 0 0 = r.getD 0 0 := getD_app0 h0
          have hz2 := hz (by rw [List.length_append]; simp; omega)
          rw [e0] at hz2
          obtain ⟨h1, h2⟩ := ih m h0 (fun _ => hz2) hr
          have h3 := h2 hz2
          refine ⟨?_, fun _ => by omega⟩
          rw [Lib.decDigits, dif_neg (by omega), show (10 * m + (c.toNat - 48)) / 10 = m by omega, h1]
          congr 2
          apply UInt8.toNat_inj.1; rw [UInt8.toNat_ofNat']; omega
      · cases hd
theorem plain_dec {s : Tx} {n : Nat} (h : plainF s = some n) : Lib.decDigits n = s ∧ puV s = n ∧ (puO s).isSome = true := by
  have hn := plR_of h
  by_cases hb : badP s
  · have := (plR_bad hb).2; rw [h] at this; cases this
  · cases hd : digsF s 0 with
    | none => have := (plR_none hb hd).2; rw [h] at this; cases this
    | some m =>
      have e := plR_some hb hd
      have hm : m = n := e.1.symm.trans hn.1
      subst hm
      unfold badP at hb
      refine ⟨(dec_of s m (by omega) (by omega) hd).1, ?_⟩
      have hp : Lib.parseUintB 32 s = .ok m := by
        unfold Lib.parseUintB
        rw [if_neg (fun e => hb (.inl (by rw [e]; rfl)))]
        exact digs_parse s 0 m hd (by omega)
      unfold puV puO; rw [hp]; exact ⟨rfl, rfl⟩
theorem dec_plain {u : Nat} (h : u < 4294967296) : plainF (Lib.decDigits u) = some u := by
  have hl : ¬ badP (Lib.decDigits u) := by
    unfold badP
    have h1 := dec_head (u := u)
    have h2 := dec_len u
    have h3 := nDigits_le (u := u) (k := 9) (by omega)
    intro hq
    rcases hq with hq | hq | ⟨hq, hz⟩
    · omega
    · omega
    · have := h1.2 hz; subst this
      rw [h2, Lib.nDigits_small (by omega)] at hq; omega
  rw [plainF_eq, if_neg hl, digs_dec, Option.bind_some, if_pos h]
theorem plain_yes {s : Tx} (h : (puO s).isSome = true) : (plainF s).isSome = decide (Lib.decDigits (puV s) = s) := by
  by_cases e : Lib.decDigits (puV s) = s
  · rw [decide_eq_true e]
    have := dec_plain (u := puV s) (by have := puV_le s; omega)
    rw [e] at this; rw [this]; rfl
  · rw [decide_eq_false e]
    cases hp : plainF s with
    | none => rfl
    | some n =>
      obtain ⟨h1, h2, _⟩ := plain_dec hp
      rw [h2] at e; exact absurd h1 e
theorem plain_no {s : Tx} (h : (puO s).isSome = false) : (plainF s).isSome = false := by
  cases hp : plainF s with
  | none => rfl
  | some n => rw [(plain_dec hp).2.2] at h; cases h
end Go.SK
namespace Go.SK
open Go.RowKit
section
variable {P : Program} {ty : TypeId} {ρ : Operand → Value} {w : World} {C : Value → World → Prop} {T e : TypeId} {sz bytes es eb : Nat} {zs ez : List Value} {de : TypeDesc}
theorem Op1.sliceArrTo {x y : Operand} {b off k hi : Nat} {kk : IntKind} {a : Int} (hT : TyF P T (.array k e) sz bytes zs) (he : TyF P e de es eb ez) (hx : ρ x = .pointer (some ⟨b, off, none⟩)) (hy : ρ y = .int kk a) (ha : a = hi) (h1 : hi ≤ k)
    (h : C (.slice (some ⟨b, off, none⟩) hi k) w) : Op1 P (.slice T x none (some y) none) ty ρ w C := by
  subst ha
  refine Op1.of (v := .slice (some ⟨b, off, none⟩) hi k) (w' := w) ?_ h
  simp [execOp, Instr.sliceAt, Instr.slice, Instr.sliceBounds, Instr.sliceBound, asIntOf, hx, hy, Sem.run_bind, hT.run_und, he.run_size, Result.andThen, h1, addr_add, Instr.sureAddr]
end
theorem low_nat : ∀ n < 256, 0 ≤ bits .or .u8 ((n : Nat) : Int) 32 ∧ bits .or .u8 ((n : Nat) : Int) 32 ≤ 255 ∧ (97 ≤ n ∧ n ≤ 102 → bits .or .u8 ((n : Nat) : Int) 32 = n) ∧ (65 ≤ n ∧ n ≤ 70 → bits .or .u8 ((n : Nat) : Int) 32 = n + 32) ∧ (¬ (48 ≤ n ∧ n ≤ 57) → ¬ (97 ≤ n ∧ n ≤ 102 ∨ 65 ≤ n ∧ n ≤ 70) → ¬ (97 ≤ bits .or .u8 ((n : Nat) : Int) 32 ∧ bits .or .u8 ((n : Nat) : Int) 32 ≤ 102)) := by decide +kernel
theorem fmt_row {u k : Nat} {d : Array UInt8} {v' : Nat} (h : Lib.FmtInv k u 0 v' d) (hk : k = Lib.nDigits u) (xs : List Value) (hx : k ≤ xs.length) :
    (Sort.putCells (fun (b : UInt8) => Value.int .u8 (b.toNat : Int)) 0 d xs.toArray).toList.take k = (Lib.decDigits u).flatMap byC := by
  have hs := h.size
  apply List.ext_getElem?
  intro j
  rw [flat_byC, Lib.decDigits_eq, ← hk]
  by_cases hj : j < k
  · rw [List.getElem?_take_of_lt hj]
    have hd := h.done j (Nat.zero_le _) hj
    rw [getElem!_pos d j (by omega)] at hd
    simp [Sort.putCells, hj, hs, show j < xs.length by omega, hd]
  · rw [List.getElem?_eq_none (by simp; omega), List.getElem?_eq_none (by simp; omega)]
end Go.SK
namespace Go.SK
theorem take1 {s : Tx} {c : UInt8} (h : s.take 1 = [c]) : 0 < s.length ∧ (s.getD 0 0).toNat = c.toNat := by
  cases s with
  | nil => cases h
  | cons a r => cases h; exact ⟨Nat.succ_pos _, rfl⟩
theorem take1_no {s : Tx} {c : UInt8} (h : s.take 1 ≠ [c]) : s.length = 0 ∨ (s.getD 0 0).toNat ≠ c.toNat := by
  cases s with
  | nil => exact .inl rfl
  | cons a r => exact .inr fun e => h (by rw [List.take_succ_cons, List.take_zero]; exact congrArg (fun x => [x]) (UInt8.toNat_inj.1 e))
theorem take2 {s : Tx} {c d : UInt8} (h : s.take 2 = [c, d]) : 2 ≤ s.length ∧ (s.getD 0 0).toNat = c.toNat ∧ (s.getD 1 0).toNat = d.toNat := by
  match s, h with
  | a :: b :: r, h => cases h; exact ⟨by simp, rfl, rfl⟩
theorem take2_no {s : Tx} {c d : UInt8} (h : s.take 2 ≠ [c, d]) : s.length < 2 ∨ (s.getD 0 0).toNat ≠ c.toNat ∨ (s.getD 1 0).toNat ≠ d.toNat := by
  match s, h with
  | [], h => exact .inl (by simp)
  | [a], h => exact .inl (by simp)
  | a :: b :: r, h =>
    by_cases e : a = c
    · by_cases e2 : b = d
      · exact absurd (by rw [e, e2]; rfl) h
      · exact .inr (.inr fun e3 => e2 (UInt8.toNat_inj.1 e3))
    · exact .inr (.inl fun e3 => e (UInt8.toNat_inj.1 e3))
theorem trim_yes {s p : Tx} (h : Lib.hasPrefix s p = true) : Lib.trimPrefix s p = s.drop p.length ∧ s.take p.length = p := by
  refine ⟨by unfold Lib.trimPrefix; rw [if_pos h], ?_⟩
  unfold Lib.hasPrefix at h
  obtain ⟨t, rfl⟩ := List.isPrefixOf_iff_prefix.1 h
  simp
theorem trim_no {s p : Tx} (h : Lib.hasPrefix s p = false) : Lib.trimPrefix s p = s ∧ s.take p.length ≠ p := by
  refine ⟨by unfold Lib.trimPrefix; rw [h]; rfl, fun e => ?_⟩
  unfold Lib.hasPrefix at h
  have hq : p ++ s.drop p.length = s := by
    have h2 := List.take_append_drop p.length s
    rw [e] at h2; exact h2
  have : p.isPrefixOf s = true := List.isPrefixOf_iff_prefix.2 ⟨s.drop p.length, hq⟩
  rw [h] at this; cases this
theorem numF_minusBad2 {s : Tx} (h : plainF s = none) (h1 : 0 < s.length ∧ (s.getD 0 0).toNat = 45) (h2 : ∀ n, plainF (s.drop 1) = some n → ¬ (1 ≤ n ∧ n ≤ 2147483648)) : numLx s = (0, 62) := by
  by_cases hl : 1 < s.length
  · exact numF_minusBad h ⟨hl, h1.2⟩ h2
  · exact numF_bad h (fun q => hl q.1) (.inl (by omega))
theorem numF_minus2 {s : Tx} {n : Nat} (h : plainF s = none) (h1 : 0 < s.length ∧ (s.getD 0 0).toNat = 45) (h2 : plainF (s.drop 1) = some n) (h3 : 1 ≤ n ∧ n ≤ 2147483648) : numLx s = (4294967296 - (n : Int), 0) := by
  refine numF_minus h ⟨?_, h1.2⟩ h2 h3
  by_cases hl : 1 < s.length
  · exact hl
  · rw [List.drop_eq_nil_of_le (by omega)] at h2; cases h2
theorem numF_hexBad2 {s : Tx} (h : plainF s = none) (h1 : 2 ≤ s.length ∧ (s.getD 0 0).toNat = 48 ∧ (s.getD 1 0).toNat = 120) (h2 : 10 < s.length ∨ s.length = 2 ∨ hexsF (s.drop 2) 0 = none) : numLx s = (0, 62) := by
  by_cases hb : s.length < 3 ∨ 10 < s.length ∨ (s.getD 0 0).toNat ≠ 48 ∨ (s.getD 1 0).toNat ≠ 120
  · exact numF_bad h (by omega) hb
  · refine numF_hexBad h (by omega) hb ?_
    rcases h2 with h2 | h2 | h2
    · omega
    · omega
    · exact h2
theorem hexs_run : ∀ (s : Tx) (a n : Nat), hexsF s a = some n → runF s = s ∧ Lib.indexByte s 95 = -1
  | [], a, n, _ => ⟨rfl, rfl⟩
  | c :: r, a, n, h => by
    rw [hexsF] at h; split at h
    · rename_i hc
      obtain ⟨h1, h2⟩ := hexs_run r _ n h
      have hb := (hex_bd hc).1
      have hr : runB c = true := by
        unfold runB letB digB
        rw [Bool.or_eq_true, decide_eq_true_eq, decide_eq_true_eq]; omega
      refine ⟨?_, ?_⟩
      · unfold runF at h1 ⊢; rw [List.takeWhile_cons, if_pos hr, h1]
      · unfold Lib.indexByte
        have hne : (c == 95) = false := by
          rw [beq_eq_false_iff_ne]; intro e; subst e
          have : (95 : UInt8).toNat = 95 := rfl
          omega
        rw [hne, h2]; rfl
    · cases h
theorem neg_wrap {m : Nat} (h : 1 ≤ m ∧ m ≤ 2147483648) : IntKind.u32.wrap (0 - (m : Int)) = 4294967296 - (m : Int) := by
  simp [IntKind.wrap, IntKind.signed, IntKind.bits]; omega
theorem hexs_lt : ∀ (s : Tx) (a n k : Nat), hexsF s a = some n → a < 16 ^ k → n < 16 ^ (k + s.length)
  | [], a, n, k, h, ha => by cases h; exact ha
  | c :: r, a, n, k, h, ha => by
    rw [hexsF] at h; split at h
    · rename_i hc
      have := hexs_lt r _ n (k + 1) h (pow16_step ha (hex_bd hc).2)
      rw [List.length_cons, show k + (r.length + 1) = k + 1 + r.length by omega]; exact this
    · cases h
theorem hexs_bd {s : Tx} {n : Nat} (h : hexsF s 0 = some n) (hl : s.length ≤ 8) : n ≤ 4294967295 := by
  have h1 := hexs_lt s 0 n 0 h (by decide)
  have h2 := pow16_le8 (i := 0 + s.length) (by omega)
  omega
def escF (r : Tx) : Option (UInt8 × Nat) := (partF (92 :: r)).map fun q => (q.1, q.2 - 1)
theorem esc_mark {r : Tx} (h0 : 0 < r.length) (h : (r.getD 0 0).toNat = 34 ∨ (r.getD 0 0).toNat = 92) : escF r = some (r.getD 0 0, 1) := by
  unfold escF
  rw [show partF (92 :: r) = partF ((92 :: r).drop 0) from rfl, part_two (by simp) rfl (by simp; omega) h]; rfl
theorem num4 {r : Tx} (h : 3 ≤ r.length) (hx : (r.getD 0 0).toNat = 120) : numLx ([48] ++ r.take 3) = if hexB (r.getD 1 0) = true ∧ hexB (r.getD 2 0) = true then (((16 * worF (r.getD 1 0) + worF (r.getD 2 0) : Nat) : Int), 0) else (0, 62) := by
  match r, h with
  | a :: b :: c :: t, _ =>
    have ha : a = 120 := UInt8.toNat_inj.1 hx
    subst ha
    show numLx [48, 120, b, c] = if hexB b = true ∧ hexB c = true then _ else _
    have hp : plainF [48, 120, b, c] = none := by
      rw [plainF_eq, if_pos (show badP [48, 120, b, c] from .inr (.inr ⟨by simp, rfl⟩))]
    have hs : hexsF [b, c] 0 = if hexB b = true ∧ hexB c = true then some (16 * worF b + worF c) else none := by
      rw [hexsF]
      by_cases hb : hexB b = true
      · rw [if_pos hb, hexsF]
        by_cases hc : hexB c = true
        · rw [if_pos hc, if_pos ⟨hb, hc⟩, hexsF]; simp
        · rw [if_neg hc, if_neg (fun q => hc q.2)]
      · rw [if_neg hb, if_neg (fun q => hb q.1)]
    by_cases hq : hexB b = true ∧ hexB c = true
    · rw [if_pos hq]; rw [if_pos hq] at hs
      exact numF_hex hp (by simp) (by simp) hs
    · rw [if_neg hq]; rw [if_neg hq] at hs
      exact numF_hexBad hp (by simp) (by simp) hs
theorem esc_hex {r : Tx} (h : 3 ≤ r.length) (hx : (r.getD 0 0).toNat = 120) (hn : (numLx ([48] ++ r.take 3)).2 = 0) : escF r = some (UInt8.ofNat ((numLx ([48] ++ r.take 3)).1).toNat, 3) ∧ 0 ≤ (numLx ([48] ++ r.take 3)).1 ∧ (numLx ([48] ++ r.take 3)).1 ≤ 255 := by
  rw [num4 h hx] at hn ⊢
  split at hn
  · rename_i hq
    rw [if_pos hq]
    have h1 := (hex_bd hq.1).2
    have h2 := (hex_bd hq.2).2
    refine ⟨?_, by dsimp only; omega, by dsimp only; omega⟩
    unfold escF
    rw [show partF (92 :: r) = partF ((92 :: r).drop 0) from rfl, part_four (by simp) rfl (by simp; omega) hx hq.1 hq.2]; rfl
  · cases hn
theorem esc_noHex {r : Tx} (h : 3 ≤ r.length) (hx : (r.getD 0 0).toNat = 120) (hn : (numLx ([48] ++ r.take 3)).2 ≠ 0) : escF r = none := by
  rw [num4 h hx] at hn
  split at hn
  · exact absurd rfl hn
  · rename_i hq
    unfold escF
    rw [show partF (92 :: r) = partF ((92 :: r).drop 0) from rfl, part_no2 (by simp) rfl (fun q => ?_) (fun q => hq ⟨q.2.2.1, q.2.2.2⟩)]; rfl
    have : ((92 :: r).getD (0 + 1) 0).toNat = 120 := hx
    omega
theorem esc_no {r : Tx} (h0 : 0 < r.length) (h : ¬ ((r.getD 0 0).toNat = 34 ∨ (r.getD 0 0).toNat = 92)) (hx : ¬ ((r.getD 0 0).toNat = 120 ∧ 3 ≤ r.length)) : escF r = none := by
  unfold escF
  rw [show partF (92 :: r) = partF ((92 :: r).drop 0) from rfl, part_no2 (by simp) rfl (fun q => h q.2) (fun q => hx ⟨q.2.1, by have := q.1; simp at this; omega⟩)]; rfl
theorem part_esc {s : Tx} {a : Nat} (h : a < s.length) (hc : (s.getD a 0).toNat = 92) : partF (s.drop a) = (escF (s.drop (a + 1))).map fun q => (q.1, q.2 + 1) := by
  have e : s.drop a = 92 :: s.drop (a + 1) := by
    rw [dropC h]; congr 1; exact UInt8.toNat_inj.1 hc
  unfold escF
  rw [e]
  cases hp : partF (92 :: s.drop (a + 1)) with
  | none => rfl
  | some q =>
    have := part_len (s := 92 :: s.drop (a + 1)) (a := 0) (c := q.1) (k := q.2) (by simp) hp
    simp only [Option.map_some]; congr 1
    exact Prod.ext rfl (by show q.2 = q.2 - 1 + 1; omega)
end Go.SK
namespace Go.SK
open Go Go.Proofs Go.Shelf
def lx_lays137_ren : Go.Shelf.Ren := ⟨fun | 137 => 68 | 217 => 89 | 266 => 114 | n => n, fun | 9 => 9 | 5 => 5 | 3 => 3 | n => n, fun | n => n⟩
theorem lx_lays137 : Go.Proofs.Lays.n137 Tryd.prog lx_lays137_ren := {
 mixed := by kernel_rfl
 f137 := Tryd.func68.trans (congrArg some (by kernel_rfl))
 f217 := Tryd.func89.trans (congrArg some (by kernel_rfl))
 f266 := Tryd.func114.trans (congrArg some (by kernel_rfl))
 t3 := Tryd.underlying3
 a3 := Tryd.isAgg3
 z3 := Tryd.sizeOf3
 v3 := Tryd.zeroValue3
 t5 := Tryd.underlying5
 a5 := Tryd.isAgg5
 z5 := Tryd.sizeOf5
 v5 := Tryd.zeroValue5
 t9 := Tryd.underlying9
 a9 := Tryd.isAgg9
 z9 := Tryd.sizeOf9
 v9 := Tryd.zeroValue9 }
def lx_lays103_ren : Go.Shelf.Ren := ⟨fun | 103 => 66 | 210 => 86 | 206 => 107 | n => n, fun | 9 => 9 | 4 => 4 | 24 => 120 | 3 => 3 | n => n, fun | n => n⟩
theorem lx_lays103 : Go.Proofs.Lays.n103 Tryd.prog lx_lays103_ren := {
 mixed := by kernel_rfl
 f103 := Tryd.func66.trans (congrArg some (by kernel_rfl))
 f206 := Tryd.func107.trans (congrArg some (by kernel_rfl))
 f210 := Tryd.func86.trans (congrArg some (by kernel_rfl))
 t3 := Tryd.underlying3
 a3 := Tryd.isAgg3
 z3 := Tryd.sizeOf3
 v3 := Tryd.zeroValue3
 t4 := Tryd.underlying4
 a4 := Tryd.isAgg4
 z4 := Tryd.sizeOf4
 v4 := Tryd.zeroValue4
 t9 := Tryd.underlying9
 a9 := Tryd.isAgg9
 z9 := Tryd.sizeOf9
 v9 := Tryd.zeroValue9
 t24 := Tryd.underlying120
 a24 := Tryd.isAgg120
 z24 := Tryd.sizeOf120
 v24 := Tryd.zeroValue120 }
def lx_lays283_ren : Go.Shelf.Ren := ⟨fun | 283 => 76 | n => n, fun | 3 => 3 | 9 => 9 | 4 => 4 | n => n, fun | n => n⟩
theorem lx_lays283 : Go.Proofs.Lays.n283 Tryd.prog lx_lays283_ren := {
 mixed := by kernel_rfl
 f283 := Tryd.func76.trans (congrArg some (by kernel_rfl))
 t3 := Tryd.underlying3
 a3 := Tryd.isAgg3
 z3 := Tryd.sizeOf3
 v3 := Tryd.zeroValue3
 t4 := Tryd.underlying4
 a4 := Tryd.isAgg4
 z4 := Tryd.sizeOf4
 v4 := Tryd.zeroValue4
 t9 := Tryd.underlying9
 a9 := Tryd.isAgg9
 z9 := Tryd.sizeOf9
 v9 := Tryd.zeroValue9 }
def lx_laysM284_ren : Go.Shelf.Ren := ⟨fun | 284 => 77 | 129 => 98 | 317 => 97 | 318 => 99 | n => n, fun | 53 => 76 | 3 => 3 | 212 => 172 | 0 => 0 | 4 => 4 | 46 => 169 | 5 => 5 | 9 => 9 | n => n, fun | 17 => 0 | n => n⟩
theorem lx_laysM284 : Go.Proofs.LaysM.n284 Tryd.prog lx_laysM284_ren := {
 mixed := by kernel_rfl
 f129 := Tryd.func98.trans (congrArg some (by kernel_rfl))
 f284 := Tryd.func77.trans (congrArg some (by kernel_rfl))
 f317 := Tryd.func97.trans (congrArg some (by kernel_rfl))
 f318 := Tryd.func99.trans (congrArg some (by kernel_rfl))
 t0 := Tryd.underlying0
 a0 := Tryd.isAgg0
 z0 := Tryd.sizeOf0
 v0 := Tryd.zeroValue0
 t3 := Tryd.underlying3
 a3 := Tryd.isAgg3
 z3 := Tryd.sizeOf3
 v3 := Tryd.zeroValue3
 t4 := Tryd.underlying4
 a4 := Tryd.isAgg4
 z4 := Tryd.sizeOf4
 v4 := Tryd.zeroValue4
 t5 := Tryd.underlying5
 a5 := Tryd.isAgg5
 z5 := Tryd.sizeOf5
 v5 := Tryd.zeroValue5
 t9 := Tryd.underlying9
 a9 := Tryd.isAgg9
 z9 := Tryd.sizeOf9
 v9 := Tryd.zeroValue9
 t46 := Tryd.underlying169
 a46 := Tryd.isAgg169
 z46 := Tryd.sizeOf169
 v46 := Tryd.zeroValue169
 t53 := Tryd.underlying76
 a53 := Tryd.isAgg76
 z53 := Tryd.sizeOf76
 v53 := Tryd.zeroValue76
 t212 := Tryd.underlying172
 a212 := Tryd.isAgg172
 z212 := Tryd.sizeOf172
 v212 := Tryd.zeroValue172
 g17 := by kernel_rfl
 i0 := by kernel_rfl
 i3 := by kernel_rfl
 i4 := by kernel_rfl
 i5 := by kernel_rfl
 i9 := by kernel_rfl
 i46 := by kernel_rfl
 i53 := by kernel_rfl
 i212 := by kernel_rfl
 m17 := by kernel_rfl }
def lx_lays285_ren : Go.Shelf.Ren := ⟨fun | 285 => 78 | n => n, fun | 37 => 56 | 53 => 76 | 3 => 3 | 4 => 4 | 51 => 22 | 9 => 9 | 5 => 5 | 0 => 0 | n => n, fun | n => n⟩
theorem lx_lays285 : Go.Proofs.Lays.n285 Tryd.prog lx_lays285_ren := {
 mixed := by kernel_rfl
 f285 := Tryd.func78.trans (congrArg some (by kernel_rfl))
 t0 := Tryd.underlying0
 a0 := Tryd.isAgg0
 z0 := Tryd.sizeOf0
 v0 := Tryd.zeroValue0
 t3 := Tryd.underlying3
 a3 := Tryd.isAgg3
 z3 := Tryd.sizeOf3
 v3 := Tryd.zeroValue3
 t4 := Tryd.underlying4
 a4 := Tryd.isAgg4
 z4 := Tryd.sizeOf4
 v4 := Tryd.zeroValue4
 t5 := Tryd.underlying5
 a5 := Tryd.isAgg5
 z5 := Tryd.sizeOf5
 v5 := Tryd.zeroValue5
 t9 := Tryd.underlying9
 a9 := Tryd.isAgg9
 z9 := Tryd.sizeOf9
 v9 := Tryd.zeroValue9
 t37 := Tryd.underlying56
 a37 := Tryd.isAgg56
 z37 := Tryd.sizeOf56
 v37 := Tryd.zeroValue56
 t51 := Tryd.underlying22
 a51 := Tryd.isAgg22
 z51 := Tryd.sizeOf22
 v51 := Tryd.zeroValue22
 t53 := Tryd.underlying76
 a53 := Tryd.isAgg76
 z53 := Tryd.sizeOf76
 v53 := Tryd.zeroValue76 }
def lx_laysC245_ren : Go.Shelf.Ren := ⟨fun | 245 => 88 | 279 => 110 | 280 => 111 | 281 => 112 | 282 => 113 | 316 => 120 | 171 => 122 | 205 => 121 | 243 => 123 | 246 => 124 | 283 => 76 | 284 => 77 | 285 => 78 | 286 => 79 | 129 => 98 | 317 => 97 | 318 => 99 | 319 => 100 | 320 => 101 | 337 => 118 | 338 => 119 | n => n, fun | 9 => 9 | 3 => 3 | 75 => 92 | 167 => 181 | 4 => 4 | 168 => 182 | 210 => 191 | 37 => 56 | 0 => 0 | 127 => 104 | 145 => 197 | 143 => 195 | 2 => 2 | 171 => 149 | 53 => 76 | 5 => 5 | 173 => 152 | 212 => 172 | 51 => 22 | 20 => 20 | 213 => 173 | 46 => 169 | 232 => 193 | 233 => 194 | 80 => 69 | n => n, fun | 15 => 1 | 16 => 2 | 17 => 0 | 18 => 4 | 19 => 5 | n => n⟩
theorem lx_laysC245 : Go.Proofs.LaysC.n245 Tryd.prog lx_laysC245_ren := {
 mixed := by kernel_rfl
 f129 := Tryd.func98.trans (congrArg some (by kernel_rfl))
 f171 := Tryd.func122.trans (congrArg some (by kernel_rfl))
 f205 := Tryd.func121.trans (congrArg some (by kernel_rfl))
 f243 := Tryd.func123.trans (congrArg some (by kernel_rfl))
 f245 := Tryd.func88.trans (congrArg some (by kernel_rfl))
 f246 := Tryd.func124.trans (congrArg some (by kernel_rfl))
 f279 := Tryd.func110.trans (congrArg some (by kernel_rfl))
 f280 := Tryd.func111.trans (congrArg some (by kernel_rfl))
 f281 := Tryd.func112.trans (congrArg some (by kernel_rfl))
 f282 := Tryd.func113.trans (congrArg some (by kernel_rfl))
 f283 := Tryd.func76.trans (congrArg some (by kernel_rfl))
 f284 := Tryd.func77.trans (congrArg some (by kernel_rfl))
 f285 := Tryd.func78.trans (congrArg some (by kernel_rfl))
 f286 := Tryd.func79.trans (congrArg some (by kernel_rfl))
 f316 := Tryd.func120.trans (congrArg some (by kernel_rfl))
 f317 := Tryd.func97.trans (congrArg some (by kernel_rfl))
 f318 := Tryd.func99.trans (congrArg some (by kernel_rfl))
 f319 := Tryd.func100.trans (congrArg some (by kernel_rfl))
 f320 := Tryd.func101.trans (congrArg some (by kernel_rfl))
 f337 := Tryd.func118.trans (congrArg some (by kernel_rfl))
 f338 := Tryd.func119.trans (congrArg some (by kernel_rfl))
 t0 := Tryd.underlying0
 a0 := Tryd.isAgg0
 z0 := Tryd.sizeOf0
 v0 := Tryd.zeroValue0
 t2 := Tryd.underlying2
 a2 := Tryd.isAgg2
 z2 := Tryd.sizeOf2
 v2 := Tryd.zeroValue2
 t3 := Tryd.underlying3
 a3 := Tryd.isAgg3
 z3 := Tryd.sizeOf3
 v3 := Tryd.zeroValue3
 t4 := Tryd.underlying4
 a4 := Tryd.isAgg4
 z4 := Tryd.sizeOf4
 v4 := Tryd.zeroValue4
 t5 := Tryd.underlying5
 a5 := Tryd.isAgg5
 z5 := Tryd.sizeOf5
 v5 := Tryd.zeroValue5
 t9 := Tryd.underlying9
 a9 := Tryd.isAgg9
 z9 := Tryd.sizeOf9
 v9 := Tryd.zeroValue9
 t20 := Tryd.underlying20
 a20 := Tryd.isAgg20
 z20 := Tryd.sizeOf20
 v20 := Tryd.zeroValue20
 t37 := Tryd.underlying56
 a37 := Tryd.isAgg56
 z37 := Tryd.sizeOf56
 v37 := Tryd.zeroValue56
 t46 := Tryd.underlying169
 a46 := Tryd.isAgg169
 z46 := Tryd.sizeOf169
 v46 := Tryd.zeroValue169
 t51 := Tryd.underlying22
 a51 := Tryd.isAgg22
 z51 := Tryd.sizeOf22
 v51 := Tryd.zeroValue22
 t53 := Tryd.underlying76
 a53 := Tryd.isAgg76
 z53 := Tryd.sizeOf76
 v53 := Tryd.zeroValue76
 t75 := Tryd.underlying92
 a75 := Tryd.isAgg92
 z75 := Tryd.sizeOf92
 v75 := Tryd.zeroValue92
 t127 := Tryd.underlying104
 a127 := Tryd.isAgg104
 z127 := Tryd.sizeOf104
 v127 := Tryd.zeroValue104
 t143 := Tryd.underlying195
 a143 := Tryd.isAgg195
 z143 := Tryd.sizeOf195
 v143 := Tryd.zeroValue195
 t145 := Tryd.underlying197
 a145 := Tryd.isAgg197
 z145 := Tryd.sizeOf197
 v145 := Tryd.zeroValue197
 t167 := Tryd.underlying181
 a167 := Tryd.isAgg181
 z167 := Tryd.sizeOf181
 v167 := Tryd.zeroValue181
 t168 := Tryd.underlying182
 a168 := Tryd.isAgg182
 z168 := Tryd.sizeOf182
 v168 := Tryd.zeroValue182
 t171 := Tryd.underlying149
 a171 := Tryd.isAgg149
 z171 := Tryd.sizeOf149
 v171 := Tryd.zeroValue149
 t173 := Tryd.underlying152
 a173 := Tryd.isAgg152
 z173 := Tryd.sizeOf152
 v173 := Tryd.zeroValue152
 t210 := Tryd.underlying191
 a210 := Tryd.isAgg191
 z210 := Tryd.sizeOf191
 v210 := Tryd.zeroValue191
 t212 := Tryd.underlying172
 a212 := Tryd.isAgg172
 z212 := Tryd.sizeOf172
 v212 := Tryd.zeroValue172
 t213 := Tryd.underlying173
 a213 := Tryd.isAgg173
 z213 := Tryd.sizeOf173
 t232 := Tryd.underlying193
 a232 := Tryd.isAgg193
 z232 := Tryd.sizeOf193
 v232 := Tryd.zeroValue193
 t233 := Tryd.underlying194
 a233 := Tryd.isAgg194
 z233 := Tryd.sizeOf194
 v233 := Tryd.zeroValue194
 g15 := by kernel_rfl
 g16 := by kernel_rfl
 g17 := by kernel_rfl
 g18 := by kernel_rfl
 g19 := by kernel_rfl
 t80 := Tryd.underlying69
 a80 := Tryd.isAgg69
 z80 := Tryd.sizeOf69
 v80 := Tryd.zeroValue69
 i0 := by kernel_rfl
 i2 := by kernel_rfl
 i3 := by kernel_rfl
 i4 := by kernel_rfl
 i5 := by kernel_rfl
 i9 := by kernel_rfl
 i20 := by kernel_rfl
 i37 := by kernel_rfl
 i46 := by kernel_rfl
 i51 := by kernel_rfl
 i53 := by kernel_rfl
 i75 := by kernel_rfl
 i80 := by kernel_rfl
 i127 := by kernel_rfl
 i143 := by kernel_rfl
 i145 := by kernel_rfl
 i167 := by kernel_rfl
 i168 := by kernel_rfl
 i171 := by kernel_rfl
 i173 := by kernel_rfl
 i210 := by kernel_rfl
 i212 := by kernel_rfl
 i232 := by kernel_rfl
 i233 := by kernel_rfl
 m15 := by kernel_rfl
 m16 := by kernel_rfl
 m17 := by kernel_rfl
 m18 := by kernel_rfl
 m19 := by kernel_rfl
 c0 := by kernel_rfl
 c2 := by kernel_rfl
 c3 := by kernel_rfl
 c4 := by kernel_rfl
 c5 := by kernel_rfl
 c9 := by kernel_rfl
 c20 := by kernel_rfl
 c37 := by kernel_rfl
 c46 := by kernel_rfl
 c51 := by kernel_rfl
 c53 := by kernel_rfl
 c75 := by kernel_rfl
 c80 := by kernel_rfl
 c127 := by kernel_rfl
 c143 := by kernel_rfl
 c145 := by kernel_rfl
 c167 := by kernel_rfl
 c168 := by kernel_rfl
 c171 := by kernel_rfl
 c173 := by kernel_rfl
 c210 := by kernel_rfl
 c212 := by kernel_rfl
 c213 := by kernel_rfl
 c232 := by kernel_rfl
 c233 := by kernel_rfl }
def lx_lays321_ren : Go.Shelf.Ren := ⟨fun | 321 => 108 | n => n, fun | 5 => 5 | n => n, fun | n => n⟩
theorem lx_lays321 : Go.Proofs.Lays.n321 Tryd.prog lx_lays321_ren := {
 mixed := by kernel_rfl
 f321 := Tryd.func108.trans (congrArg some (by kernel_rfl))
 t5 := Tryd.underlying5
 a5 := Tryd.isAgg5
 z5 := Tryd.sizeOf5
 v5 := Tryd.zeroValue5 }
def lx_laysPu14_ren : Go.Shelf.Ren := ⟨fun | 14 => 67 | 16 => 87 | 17 => 88 | 19 => 108 | 20 => 109 | 21 => 110 | 22 => 111 | 23 => 112 | 24 => 113 | 25 => 120 | 27 => 122 | 26 => 121 | 28 => 123 | 29 => 124 | 30 => 76 | 31 => 77 | 32 => 78 | 33 => 79 | 35 => 98 | 34 => 97 | 36 => 99 | 37 => 100 | 38 => 101 | 39 => 118 | 40 => 119 | n => n, fun | 9 => 9 | 3 => 3 | 22 => 76 | 24 => 92 | 25 => 134 | 4 => 4 | 34 => 181 | 5 => 5 | 36 => 169 | 37 => 56 | 0 => 0 | 39 => 182 | 21 => 21 | 44 => 191 | 47 => 104 | 50 => 197 | 48 => 195 | 2 => 2 | 52 => 149 | 55 => 152 | 59 => 172 | 60 => 22 | 20 => 20 | 61 => 173 | 65 => 193 | 66 => 194 | 67 => 69 | n => n, fun | 0 => 1 | 1 => 2 | 2 => 0 | 3 => 4 | 4 => 5 | n => n⟩
theorem lx_laysPu14 : Go.Proofs.LaysPu.n14 Tryd.prog lx_laysPu14_ren := {
 mixed := by kernel_rfl
 f14 := Tryd.func67.trans (congrArg some (by kernel_rfl))
 f16 := Tryd.func87.trans (congrArg some (by kernel_rfl))
 f17 := Tryd.func88.trans (congrArg some (by kernel_rfl))
 f19 := Tryd.func108.trans (congrArg some (by kernel_rfl))
 f20 := Tryd.func109.trans (congrArg some (by kernel_rfl))
 f21 := Tryd.func110.trans (congrArg some (by kernel_rfl))
 f22 := Tryd.func111.trans (congrArg some (by kernel_rfl))
 f23 := Tryd.func112.trans (congrArg some (by kernel_rfl))
 f24 := Tryd.func113.trans (congrArg some (by kernel_rfl))
 f25 := Tryd.func120.trans (congrArg some (by kernel_rfl))
 f26 := Tryd.func121.trans (congrArg some (by kernel_rfl))
 f27 := Tryd.func122.trans (congrArg some (by kernel_rfl))
 f28 := Tryd.func123.trans (congrArg some (by kernel_rfl))
 f29 := Tryd.func124.trans (congrArg some (by kernel_rfl))
 f30 := Tryd.func76.trans (congrArg some (by kernel_rfl))
 f31 := Tryd.func77.trans (congrArg some (by kernel_rfl))
 f32 := Tryd.func78.trans (congrArg some (by kernel_rfl))
 f33 := Tryd.func79.trans (congrArg some (by kernel_rfl))
 f34 := Tryd.func97.trans (congrArg some (by kernel_rfl))
 f35 := Tryd.func98.trans (congrArg some (by kernel_rfl))
 f36 := Tryd.func99.trans (congrArg some (by kernel_rfl))
 f37 := Tryd.func100.trans (congrArg some (by kernel_rfl))
 f38 := Tryd.func101.trans (congrArg some (by kernel_rfl))
 f39 := Tryd.func118.trans (congrArg some (by kernel_rfl))
 f40 := Tryd.func119.trans (congrArg some (by kernel_rfl))
 t0 := Tryd.underlying0
 a0 := Tryd.isAgg0
 z0 := Tryd.sizeOf0
 v0 := Tryd.zeroValue0
 i0 := by kernel_rfl
 t2 := Tryd.underlying2
 a2 := Tryd.isAgg2
 z2 := Tryd.sizeOf2
 v2 := Tryd.zeroValue2
 i2 := by kernel_rfl
 t3 := Tryd.underlying3
 a3 := Tryd.isAgg3
 z3 := Tryd.sizeOf3
 v3 := Tryd.zeroValue3
 i3 := by kernel_rfl
 t4 := Tryd.underlying4
 a4 := Tryd.isAgg4
 z4 := Tryd.sizeOf4
 v4 := Tryd.zeroValue4
 i4 := by kernel_rfl
 t5 := Tryd.underlying5
 a5 := Tryd.isAgg5
 z5 := Tryd.sizeOf5
 v5 := Tryd.zeroValue5
 i5 := by kernel_rfl
 t9 := Tryd.underlying9
 a9 := Tryd.isAgg9
 z9 := Tryd.sizeOf9
 v9 := Tryd.zeroValue9
 i9 := by kernel_rfl
 t20 := Tryd.underlying20
 a20 := Tryd.isAgg20
 z20 := Tryd.sizeOf20
 v20 := Tryd.zeroValue20
 i20 := by kernel_rfl
 t21 := Tryd.underlying21
 a21 := Tryd.isAgg21
 z21 := Tryd.sizeOf21
 v21 := Tryd.zeroValue21
 i21 := by kernel_rfl
 t22 := Tryd.underlying76
 a22 := Tryd.isAgg76
 z22 := Tryd.sizeOf76
 v22 := Tryd.zeroValue76
 i22 := by kernel_rfl
 t24 := Tryd.underlying92
 a24 := Tryd.isAgg92
 z24 := Tryd.sizeOf92
 v24 := Tryd.zeroValue92
 i24 := by kernel_rfl
 t25 := Tryd.underlying134
 a25 := Tryd.isAgg134
 z25 := Tryd.sizeOf134
 v25 := Tryd.zeroValue134
 i25 := by kernel_rfl
 t34 := Tryd.underlying181
 a34 := Tryd.isAgg181
 z34 := Tryd.sizeOf181
 v34 := Tryd.zeroValue181
 i34 := by kernel_rfl
 c34 := by kernel_rfl
 t36 := Tryd.underlying169
 a36 := Tryd.isAgg169
 z36 := Tryd.sizeOf169
 v36 := Tryd.zeroValue169
 i36 := by kernel_rfl
 t37 := Tryd.underlying56
 a37 := Tryd.isAgg56
 z37 := Tryd.sizeOf56
 v37 := Tryd.zeroValue56
 i37 := by kernel_rfl
 t39 := Tryd.underlying182
 a39 := Tryd.isAgg182
 z39 := Tryd.sizeOf182
 v39 := Tryd.zeroValue182
 i39 := by kernel_rfl
 t44 := Tryd.underlying191
 a44 := Tryd.isAgg191
 z44 := Tryd.sizeOf191
 v44 := Tryd.zeroValue191
 i44 := by kernel_rfl
 t47 := Tryd.underlying104
 a47 := Tryd.isAgg104
 z47 := Tryd.sizeOf104
 v47 := Tryd.zeroValue104
 i47 := by kernel_rfl
 t48 := Tryd.underlying195
 a48 := Tryd.isAgg195
 z48 := Tryd.sizeOf195
 v48 := Tryd.zeroValue195
 i48 := by kernel_rfl
 t50 := Tryd.underlying197
 a50 := Tryd.isAgg197
 z50 := Tryd.sizeOf197
 v50 := Tryd.zeroValue197
 i50 := by kernel_rfl
 t52 := Tryd.underlying149
 a52 := Tryd.isAgg149
 z52 := Tryd.sizeOf149
 v52 := Tryd.zeroValue149
 i52 := by kernel_rfl
 t55 := Tryd.underlying152
 a55 := Tryd.isAgg152
 z55 := Tryd.sizeOf152
 v55 := Tryd.zeroValue152
 i55 := by kernel_rfl
 t59 := Tryd.underlying172
 a59 := Tryd.isAgg172
 z59 := Tryd.sizeOf172
 v59 := Tryd.zeroValue172
 i59 := by kernel_rfl
 t60 := Tryd.underlying22
 a60 := Tryd.isAgg22
 z60 := Tryd.sizeOf22
 v60 := Tryd.zeroValue22
 i60 := by kernel_rfl
 t61 := Tryd.underlying173
 a61 := Tryd.isAgg173
 z61 := Tryd.sizeOf173
 t65 := Tryd.underlying193
 a65 := Tryd.isAgg193
 z65 := Tryd.sizeOf193
 v65 := Tryd.zeroValue193
 i65 := by kernel_rfl
 t66 := Tryd.underlying194
 a66 := Tryd.isAgg194
 z66 := Tryd.sizeOf194
 v66 := Tryd.zeroValue194
 i66 := by kernel_rfl
 t67 := Tryd.underlying69
 a67 := Tryd.isAgg69
 z67 := Tryd.sizeOf69
 v67 := Tryd.zeroValue69
 i67 := by kernel_rfl
 g0 := by kernel_rfl
 m0 := by kernel_rfl
 g1 := by kernel_rfl
 m1 := by kernel_rfl
 g2 := by kernel_rfl
 m2 := by kernel_rfl
 g3 := by kernel_rfl
 m3 := by kernel_rfl
 g4 := by kernel_rfl
 m4 := by kernel_rfl }
end Go.SK
namespace Go.SK
open Go Go.Proofs
theorem ent47 : Enters Tryd.prog 47 := ⟨Tryd.f47, _, Tryd.func47, by kernel_rfl, rfl⟩
theorem ty5 : TyF Tryd.prog 5 (.int .u8) 1 1 [.int .u8 0] := TyF.of (by kernel_rfl) (by kernel_rfl)
theorem ty76 : TyF Tryd.prog 76 (.int .u64) 1 8 [.int .u64 0] := TyF.of (by kernel_rfl) (by kernel_rfl)
end Go.SK
