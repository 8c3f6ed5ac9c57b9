/-
  Range over functions.
-/
import Derived.Test.YtnbapjkldjhjoaaSkF
set_option linter.unusedVariables false
set_option linter.unusedSimpArgs false
namespace Go.SK
open Go.RowKit

/-! a range over a function -/
/-- several resources as one -/
def Res.star (L : List Res) : Res where
  foot := fun b => ∃ r ∈ L, r.foot b
  holds := fun w => (∀ r ∈ L, r.holds w) ∧ L.Pairwise Apart
  stable := fun w w' h hh => ⟨fun r hr => r.stable w w' (fun b hb => h b ⟨r, hr, hb⟩) (hh.1 r hr), hh.2⟩
  inb := fun w hh b ⟨r, hr, hb⟩ => r.inb w (hh.1 r hr) b hb

section
variable {w0 w w' ws : World} {M : Nat → Prop} {L L' L1 L2 D : List Res} {r : Res}

theorem St.pack (h : St w0 M (L1 ++ L2) D w) : St w0 M (Res.star L1 :: L2) D w where
  kept := h.kept
  hL := fun s hs => by cases hs with
    | head => exact ⟨fun r hr => h.hL r (List.mem_append_left _ hr), (List.pairwise_append.1 h.sep).1⟩
    | tail _ hs => exact h.hL s (List.mem_append_right _ hs)
  hD := h.hD
  new := fun s hs b hb => by cases hs with
    | head => obtain ⟨r, hr, hrb⟩ := hb; exact h.new r (List.mem_append_left _ hr) b hrb
    | tail _ hs => exact h.new s (List.mem_append_right _ hs) b hb
  sep := List.pairwise_cons.2 ⟨fun s hs b ⟨r, hr, hrb⟩ hsb => (List.pairwise_append.1 h.sep).2.2 r hr s hs b hrb hsb, (List.pairwise_append.1 h.sep).2.1⟩
  sepD := fun s hs d hd b hb hdb => by cases hs with
    | head => obtain ⟨r, hr, hrb⟩ := hb; exact h.sepD r (List.mem_append_left _ hr) d hd b hrb hdb
    | tail _ hs => exact h.sepD s (List.mem_append_right _ hs) d hd b hb hdb

theorem St.unpack (h : St w0 M (Res.star L1 :: L2) D w) : St w0 M (L1 ++ L2) D w where
  kept := h.kept
  hL := fun s hs => by
    rcases List.mem_append.1 hs with hs | hs
    · exact (h.hL _ (.head _)).1 s hs
    · exact h.hL s (.tail _ hs)
  hD := h.hD
  new := fun s hs b hb => by
    rcases List.mem_append.1 hs with hs | hs
    · exact h.new _ (.head _) b ⟨s, hs, hb⟩
    · exact h.new s (.tail _ hs) b hb
  sep := List.pairwise_append.2 ⟨(h.hL _ (.head _)).2, (List.pairwise_cons.1 h.sep).2, fun s hs t ht b hsb htb => (List.pairwise_cons.1 h.sep).1 t ht b ⟨s, hs, hsb⟩ htb⟩
  sepD := fun s hs d hd b hb hdb => by
    rcases List.mem_append.1 hs with hs | hs
    · exact h.sepD _ (.head _) d hd b ⟨s, hs, hb⟩ hdb
    · exact h.sepD s (.tail _ hs) d hd b hb hdb

/-- a call that is given one resource and may know D -/
theorem St.enter1 (hr : r.holds w) (hD : ∀ d ∈ D, d.holds w) (ha : ∀ d ∈ D, Apart r d) : St w r.foot [r] D w where
  kept := Kept.refl _ _
  hL := fun s hs => by cases hs with
    | head => exact hr
    | tail _ hs => cases hs
  hD := hD
  new := fun s hs b hb => by cases hs with
    | head => exact .inr hb
    | tail _ hs => cases hs
  sep := List.pairwise_cons.2 ⟨fun _ h => absurd h List.not_mem_nil, List.Pairwise.nil⟩
  sepD := fun s hs d hd => by cases hs with
    | head => exact ha d hd
    | tail _ hs => cases hs

theorem St.one (h : St w0 M (r :: L) D w) : St w0 M [r] [] w where
  kept := h.kept
  hL := fun s hs => by cases hs with
    | head => exact h.hL r (.head _)
    | tail _ hs => cases hs
  hD := by simp
  new := fun s hs => by cases hs with
    | head => exact h.new r (.head _)
    | tail _ hs => cases hs
  sep := List.pairwise_cons.2 ⟨fun _ h => absurd h List.not_mem_nil, List.Pairwise.nil⟩
  sepD := by simp

/-- behind a call that was given the first resource -/
theorem St.call1 (h : St w0 M (r :: L) D w) (hc : St w r.foot L1 [] w') : St w0 M (L1 ++ L) D w' :=
  St.call (L1 := [r]) h hc (fun b hb => ⟨r, .head _, hb⟩)
end

theorem getObj_run {P : Program} {w : World} {l : Nat} {o : Obj} (h : w.heap[l]? = some o) (hc : ∀ c t f, o ≠ .cells c t f) : (getObj l).run P w = .ok o w := by
  simp only [getObj, Sem.run, h]
theorem setObj_run {P : Program} {w : World} {l : Nat} {o o' : Obj} (h : w.heap[l]? = some o) (hc : ∀ c t f, o ≠ .cells c t f) : (setObj l o').run P w = .ok () { w with heap := w.heap.setIfInBounds l o' } := by
  simp only [setObj, Sem.run, h]

theorem putObj_get {w : World} {l : Nat} {o o' : Obj} (h : w.heap[l]? = some o) : (w.heap.setIfInBounds l o')[l]? = some o' := by
  have := (Array.getElem?_eq_some_iff.1 h).1
  simp [this]

theorem getLoop_run {P : Program} {w : World} {l : Nat} {lp : Loop} (h : w.heap[l]? = some (.loop lp)) : (Instr.getLoop l).run P w = .ok lp w := by
  simp only [Instr.getLoop, Sem.run_bind, getObj_run h (by simp), Result.andThen]
  rfl

/-- What a round ends in: a value for the function that was ranged over. -/
def EndsRound (P : Program) (C : Value → World → Prop) : Frame → World → Prop :=
  fun fr w' => ∃ v w'', C v w'' ∧ ∀ caller cs, step P (lone fr (caller :: cs) w') = .next (lone (caller.finish v) cs w'')

def rbase (fn : FuncId) (n : Nat) (l : Nat) : Base := ⟨fn, n, [], .normal, some l⟩

def setPs (f : Nat → Value) : List (Tmp × Value) → (Nat → Value)
  | [] => f
  | (t, v) :: l => setPs (upd f t v) l

theorem setPs_foldl (n : Nat) : ∀ (ps : List (Tmp × Value)) (f : Nat → Value), ps.foldl (fun (tmps : Array Value) (p : Tmp × Value) => tmps.setIfInBounds p.1 p.2) (tm n f) = tm n (setPs f ps)
  | [], f => rfl
  | (t, v) :: ps, f => by
    simp only [List.foldl_cons, setPs]
    rw [← tm_upd]
    exact setPs_foldl n ps _

theorem CallV.round {P : Program} {l : Nat} {lp : Loop} {args : List Value} {ps : List Tmp} {w : World} {C : Value → World → Prop} {n : Nat} {f : Nat → Value}
    (h : w.heap[l]? = some (.loop lp)) (hp : lp.params = ps.toArray) (hn : args.length = ps.length) (ht : lp.tmps = tm n f)
    (hr : Run P (rbase lp.fn n l) [.code lp.assign, .beginRound, .code lp.body] (setPs f (ps.zip args)) w (EndsRound P C)) :
    CallV P (.func (.yield l) #[] #[]) args w C := by
  intro fr cs hok hstep
  obtain ⟨fr2, w2, hs, v, w3, hC, hend⟩ := hr (fr :: cs)
  refine ⟨v, w3, hC, .head (m₁ := lone (Frame.round l lp.fn (tm n (setPs f (ps.zip args))) lp.assign lp.body .normal) (fr :: cs) w) (step_lone_go ?_) ?_⟩
  · rw [hstep]
    have hrun : (do let d ← Deferred.ofValue (.func (.yield l) #[] #[]) args.toArray; invoke d.target d.args : Sem Next).run P w =
        .ok (.round l lp.fn (tm n (setPs f (ps.zip args))) lp.assign lp.body) w := by
      simp only [Deferred.ofValue, Sem.run_bind, invoke, Instr.yield, getLoop_run h, hp]
      simp [Result.andThen, hn, Sem.run_bind, getLoop_run h, hp, ht]
      rw [← setPs_foldl]
    simp only [stepG.apply, Sem.runT_eq, hrun, GStep.bare_after, if_true]
    rfl
  · exact hs.trans (.one (hend fr cs))

section
variable {P : Program} {fn n l : Nat} {k : List Item} {f : Nat → Value} {w0 w : World} {M : Nat → Prop} {L L' D : List Res} {C : Value → World → Prop} {lp : Loop}

theorem run_beginRound (hst : St w0 M L D w) (hs : Sel (Res.obj l (.loop lp)) (Res.obj l (.loop { lp with state := .busy })) L L') (hready : lp.state = .ready)
    (h : ∀ w', St w0 M L' D w' → Run P (rbase fn n l) k f w' (EndsRound P C)) : Run P (rbase fn n l) (.beginRound :: k) f w (EndsRound P C) := by
  have hh := hst.hL _ hs.mem
  simp only [Res.obj] at hh
  have hrun : (Instr.beginRound l).run P w = .ok () { w with heap := w.heap.setIfInBounds l (.loop { lp with state := .busy }) } := by
    simp only [Instr.beginRound, Sem.run_bind, getLoop_run hh, Result.andThen, setObj_run hh (by simp), hready]
    rfl
  refine Run.step1 (fun cs => step_lone_go ?_) (h _ (hst.upd hs (Kept.put _ _ _) (by simpa [Res.obj] using putObj_get hh) (fun b hb => .inl hb)))
  simp only [stepG, stepG.exec, Base.fr, rbase, stepG.apply, Option.elim, Sem.runT_eq, Sem.run_bind, hrun, Result.andThen, GStep.bare_after, if_true]
  rfl

/-- the body's end: on with the next round -/
theorem run_roundEnd (hst : St w0 M L D w) (hs : Sel (Res.obj l (.loop lp)) (Res.obj l (.loop { lp with state := .ready, pending := none })) L L') (h : ∀ w', St w0 M L' D w' → C (.bool true) w') :
    Run P (rbase fn n l) [] f w (EndsRound P C) := fun cs => by
  have hh := hst.hL _ hs.mem
  simp only [Res.obj] at hh
  have hrun : (Instr.endRound l none).run P w = .ok (.bool true) { w with heap := w.heap.setIfInBounds l (.loop { lp with state := .ready, pending := none }) } := by
    simp only [Instr.endRound, Sem.run_bind, getLoop_run hh, Result.andThen, setObj_run hh (by simp)]
    rfl
  refine ⟨_, w, Steps.refl _ _, .bool true, _, h _ (hst.upd hs (Kept.put _ _ _) (by simpa [Res.obj] using putObj_get hh) (fun b hb => .inl hb)), fun caller cs => step_lone_go ?_⟩
  simp only [stepG, stepG.exec, Base.fr, rbase, Sem.runT_eq, hrun, GStep.bare_after, doReturn]
  rfl

theorem run_roundRet (hst : St w0 M L D w) (hs : Sel (Res.obj l (.loop lp)) (Res.obj l (.loop { lp with state := .done, pending := some .ret })) L L') (h : ∀ w', St w0 M L' D w' → C (.bool false) w') :
    Run P (rbase fn n l) (.code .ret :: k) f w (EndsRound P C) := fun cs => by
  have hh := hst.hL _ hs.mem
  simp only [Res.obj] at hh
  have hrun : (Instr.endRound l (some .ret)).run P w = .ok (.bool false) { w with heap := w.heap.setIfInBounds l (.loop { lp with state := .done, pending := some .ret }) } := by
    simp only [Instr.endRound, Sem.run_bind, getLoop_run hh, Result.andThen, setObj_run hh (by simp)]
    rfl
  refine ⟨_, w, Steps.refl _ _, .bool false, _, h _ (hst.upd hs (Kept.put _ _ _) (by simpa [Res.obj] using putObj_get hh) (fun b hb => .inl hb)), fun caller cs => step_lone_go ?_⟩
  simp only [stepG, stepG.exec, Base.fr, rbase, Sem.runT_eq, hrun, GStep.bare_after, doReturn]
  rfl

theorem run_roundExit {id : Nat} (hx : exitTo id k = none) (hst : St w0 M L D w) (hs : Sel (Res.obj l (.loop lp)) (Res.obj l (.loop { lp with state := .done, pending := some (.exit id) })) L L') (h : ∀ w', St w0 M L' D w' → C (.bool false) w') :
    Run P (rbase fn n l) (.code (.exit id) :: k) f w (EndsRound P C) := fun cs => by
  have hh := hst.hL _ hs.mem
  simp only [Res.obj] at hh
  have hrun : (Instr.endRound l (some (.exit id))).run P w = .ok (.bool false) { w with heap := w.heap.setIfInBounds l (.loop { lp with state := .done, pending := some (.exit id) }) } := by
    simp only [Instr.endRound, Sem.run_bind, getLoop_run hh, Result.andThen, setObj_run hh (by simp)]
    rfl
  refine ⟨_, w, Steps.refl _ _, .bool false, _, h _ (hst.upd hs (Kept.put _ _ _) (by simpa [Res.obj] using putObj_get hh) (fun b hb => .inl hb)), fun caller cs => step_lone_go ?_⟩
  simp only [stepG, stepG.exec, Base.fr, rbase, hx, Option.elim, Sem.runT_eq, hrun, GStep.bare_after, doReturn]
  rfl
end

def busyLp (lp : Loop) : Loop := { lp with state := .busy }
def doneLp (lp : Loop) (c : Code) : Loop := { lp with state := .done, pending := some c }
def Res.prop (p : Prop) : Res := ⟨fun _ => False, fun _ => p, fun _ _ _ h => h, fun _ _ _ h => h.elim⟩

def markOf (r : Nat) : Deferred := { target := .collected r, args := #[] }

theorem run_rangeFunc {P : Program} {fid n g : Nat} {ds : List Deferred} {fo : Operand} {ps : List Tmp} {assign body : Code} {k : List Item} {f : Nat → Value} {w0 w : World} {M : Nat → Prop} {L D : List Res} {E : Frame → World → Prop} {cap : List Value}
    (hst : St w0 M L D w) (hf : ev n f fo = .func (.func g) #[] cap.toArray) (hg : Enters P g)
    (h : ∀ w1 l r, St w0 M (Res.obj l (.loop ⟨.ready, none, fid, tm n f, ps.toArray, assign, body, r⟩) :: Res.obj r (.deferred (some [])) :: L) D w1 →
      Ret P g (.func (.yield l) #[] #[] :: cap).toArray w1 fun v w2 => ∃ lp L', lp.state ≠ .busy ∧ St w0 M (Res.obj l (.loop lp) :: L') D w2 ∧
        ∀ w3, St w0 M (Res.obj l (.loop { lp with state := .exhausted }) :: L') D w3 → Run P (fbase fid n (markOf r :: ds)) ((lp.pending.map Item.code).toList ++ k) f w3 E) :
    Run P (fbase fid n ds) (.code (.rangeFunc fo ps.toArray assign body) :: k) f w E := by
  let o1 : Obj := .deferred (some [])
  let o2 : Obj := .loop ⟨.ready, none, fid, tm n f, ps.toArray, assign, body, w.heap.size⟩
  have hst1 : St w0 M (Res.obj w.heap.size o1 :: L) D (w.alloc o1) := hst.push (Kept.alloc _ _ _) (alloc_new w o1) (fun b hb => Nat.le_of_eq hb.symm)
  have hst2 : St w0 M (Res.obj (w.alloc o1).heap.size o2 :: Res.obj w.heap.size o1 :: L) D ((w.alloc o1).alloc o2) := hst1.push (Kept.alloc _ _ _) (alloc_new (w.alloc o1) o2) (fun b hb => Nat.le_of_eq hb.symm)
  have hc := h _ _ _ hst2
  intro cs
  obtain ⟨e, w2, fr2, ⟨v, rfl, lp, L', hbusy, hst3, hrest⟩, hcomes, hfn, hleave⟩ := hc ((fbase fid n (markOf w.heap.size :: ds)).fr (.inRangeFunc (w.alloc o1).heap.size :: k) f :: cs)
  have hl := hst3.hL _ (.head _)
  simp only [Res.obj] at hl
  have hend : (Instr.endLoop (w.alloc o1).heap.size).run P w2 = .ok lp.pending { w2 with heap := w2.heap.setIfInBounds (w.alloc o1).heap.size (.loop { lp with state := .exhausted }) } := by
    have hb : (lp.state == LoopState.busy) = false := by
      cases hs : lp.state <;> first | rfl | exact absurd hs hbusy
    simp only [Instr.endLoop, Sem.run_bind, getLoop_run hl, Result.andThen, hb, Bool.false_eq_true, if_false, setObj_run hl (by simp)]
    rfl
  have hst4 := hst3.upd (r' := Res.obj (w.alloc o1).heap.size (.loop { lp with state := .exhausted })) .here (Kept.put w2 _ _) (by simpa [Res.obj] using putObj_get hl) (fun b hb => .inl hb)
  obtain ⟨fr3, w4, hs4, hE⟩ := hrest _ hst4 cs
  refine ⟨fr3, w4, ?_, hE⟩
  -- into the call
  have hent : step P (lone ((fbase fid n ds).fr (.code (.rangeFunc fo ps.toArray assign body) :: k) f) cs w) =
      .next (lone (Frame.enter P g (.func (.yield (w.alloc o1).heap.size) #[] #[] :: cap).toArray .normal) ((fbase fid n (markOf w.heap.size :: ds)).fr (.inRangeFunc (w.alloc o1).heap.size :: k) f :: cs) ((w.alloc o1).alloc o2)) := by
    obtain ⟨fn, c, h1, h2, h3⟩ := hg
    have h2' : fn.name ≠ "runtime.NumGoroutine" := by simpa using h2
    have hef := fr_eval (fbase fid n (markOf w.heap.size :: ds)) (.inRangeFunc (w.alloc o1).heap.size :: k) f
    have hentl : (Instr.enterLoop fid (tm n f) ps.toArray assign body none).run P w = .ok ((w.alloc o1).heap.size, [markOf w.heap.size]) ((w.alloc o1).alloc o2) := by
      simp [Instr.enterLoop, Sem.run_bind, Result.andThen, o1, o2, markOf]
    let c1 : Call := { callee := .value fo, args := #[.const (.func (.yield (w.alloc o1).heap.size) #[] #[])], argTypes := #[] }
    have hcall : (do let d ← resolve (ev n f) c1 0; invoke d.target d.args : Sem Next).run P ((w.alloc o1).alloc o2) = .ok (.enter g (.func (.yield (w.alloc o1).heap.size) #[] #[] :: cap).toArray) ((w.alloc o1).alloc o2) := by
      have hy : ev n f (.const (.func (.yield (w.alloc o1).heap.size) #[] #[])) = .func (.yield (w.alloc o1).heap.size) #[] #[] := rfl
      have hy2 : ev n f (.const (.func (.yield (w.heap.size + 1)) #[] #[])) = .func (.yield (w.heap.size + 1)) #[] #[] := rfl
      simp [c1, resolve, hf, hy, hy2, Deferred.ofValue, invoke, callFunc, Sem.run_bind, program, Sem.run, h1, h2', h3, Result.andThen]
    refine step_lone_go ?_
    rw [show (fbase fid n (markOf w.heap.size :: ds)).n = n from rfl] at hef
    simp only [Base.fr, fbase, List.cons_append, List.nil_append] at hef
    simp only [stepG, stepG.exec, Base.fr, fbase, Sem.runT_eq, hentl, List.cons_append, List.nil_append, GStep.bare_after, hef]
    simp only [stepG.apply, Sem.runT_eq, GStep.bare_after, if_true]
    erw [hcall]
    rfl
  have hr2 : step P (lone (((fbase fid n (markOf w.heap.size :: ds)).fr (.inRangeFunc (w.alloc o1).heap.size :: k) f).finish v) cs w2) =
      .next (lone ((fbase fid n (markOf w.heap.size :: ds)).fr ((lp.pending.map Item.code).toList ++ k) f) cs { w2 with heap := w2.heap.setIfInBounds (w.alloc o1).heap.size (.loop { lp with state := .exhausted }) }) := by
    refine step_lone_go ?_
    simp only [stepG, stepG.exec, Base.fr, fbase, Frame.finish, Sem.runT_eq, hend, GStep.bare_after]
    rfl
  exact .head hent (hcomes.trans (.head (step_leave_returned hleave) (.head hr2 hs4)))

theorem run_ret_mark {P : Program} {fid n r : Nat} {fn : Func} {k : List Item} {f : Nat → Value} {w0 w : World} {M : Nat → Prop} {L L' D : List Res} {C : Value → World → Prop}
    (hf : P.funcs[fid]? = some fn) (hst : St w0 M L D w) (hs : Sel (Res.obj r (.deferred (some []))) (Res.obj r (.deferred none)) L L')
    (h : ∀ w', St w0 M L' D w' → ∃ v, (results fn (tm n f)).run P w' = .ok v w' ∧ C v w') : Run P (fbase fid n [markOf r]) (.code .ret :: k) f w (Leaves P fid C) := fun cs => by
  have hh := hst.hL _ hs.mem
  simp only [Res.obj] at hh
  have htake : (Instr.takeDeferred r).run P w = .ok [] { w with heap := w.heap.setIfInBounds r (.deferred none) } := by
    simp only [Instr.takeDeferred, Sem.run_bind, getObj_run hh (by simp), Result.andThen, setObj_run hh (by simp)]
    rfl
  obtain ⟨v, hv, hC⟩ := h _ (hst.upd hs (Kept.put _ _ _) (by simpa [Res.obj] using putObj_get hh) (fun b hb => .inl hb))
  refine ⟨{ (fbase fid n []).fr (.code .ret :: k) f with mode := .returning }, _, .head (m₁ := lone { (fbase fid n [markOf r]).fr (.code .ret :: k) f with mode := .returning } cs w) (step_lone_go (by simp [stepG, stepG.exec, Base.fr, fbase])) (.one (step_lone_go ?_)), leave_of hf hv hC⟩
  simp only [stepG, Base.fr, fbase, unwind, markOf, Sem.runT_eq, htake, GStep.bare_after]
  rfl
theorem run_end_mark {P : Program} {fid n r : Nat} {fn : Func} {f : Nat → Value} {w0 w : World} {M : Nat → Prop} {L L' D : List Res} {C : Value → World → Prop}
    (hf : P.funcs[fid]? = some fn) (hst : St w0 M L D w) (hs : Sel (Res.obj r (.deferred (some []))) (Res.obj r (.deferred none)) L L')
    (h : ∀ w', St w0 M L' D w' → ∃ v, (results fn (tm n f)).run P w' = .ok v w' ∧ C v w') : Run P (fbase fid n [markOf r]) [] f w (Leaves P fid C) := fun cs => by
  have hh := hst.hL _ hs.mem
  simp only [Res.obj] at hh
  have htake : (Instr.takeDeferred r).run P w = .ok [] { w with heap := w.heap.setIfInBounds r (.deferred none) } := by
    simp only [Instr.takeDeferred, Sem.run_bind, getObj_run hh (by simp), Result.andThen, setObj_run hh (by simp)]
    rfl
  obtain ⟨v, hv, hC⟩ := h _ (hst.upd hs (Kept.put _ _ _) (by simpa [Res.obj] using putObj_get hh) (fun b hb => .inl hb))
  refine ⟨{ (fbase fid n []).fr [] f with mode := .returning }, _, .head (m₁ := lone { (fbase fid n [markOf r]).fr [] f with mode := .returning } cs w) (step_lone_go (by simp [stepG, stepG.exec, Base.fr, fbase])) (.one (step_lone_go ?_)), leave_of hf hv hC⟩
  simp only [stepG, Base.fr, fbase, unwind, markOf, Sem.runT_eq, htake, GStep.bare_after]
  rfl

/-- a loop's record, as it is when the loop begins -/
structure Lp (lp : Loop) (fid n : Nat) (f : Nat → Value) (ps : List Tmp) (assign body : Code) : Prop where
  state : lp.state = .ready
  pending : lp.pending = none
  fn : lp.fn = fid
  tmps : lp.tmps = tm n f
  params : lp.params = ps.toArray
  assign : lp.assign = assign
  body : lp.body = body

theorem Lp.back {lp : Loop} {fid n : Nat} {f : Nat → Value} {ps : List Tmp} {assign body : Code} (h : Lp lp fid n f ps assign body) : ({ busyLp lp with state := .ready, pending := none } : Loop) = lp := by
  have h1 := h.state
  have h2 := h.pending
  cases lp
  simp only at h1 h2
  subst h1; subst h2
  rfl

section
variable {P : Program} {fn n l : Nat} {k : List Item} {f : Nat → Value} {w0 w : World} {M : Nat → Prop} {L L' D : List Res} {C : Value → World → Prop} {lp : Loop} {fid n2 : Nat} {f2 : Nat → Value} {ps : List Tmp} {assign body : Code}
theorem run_beginR (hlp : Lp lp fid n2 f2 ps assign body) (hst : St w0 M L D w) (hs : Sel (Res.obj l (.loop lp)) (Res.obj l (.loop (busyLp lp))) L L')
    (h : ∀ w', St w0 M L' D w' → Run P (rbase fn n l) k f w' (EndsRound P C)) : Run P (rbase fn n l) (.beginRound :: k) f w (EndsRound P C) := run_beginRound hst hs hlp.state h
theorem run_endR (hlp : Lp lp fid n2 f2 ps assign body) (hst : St w0 M L D w) (hs : Sel (Res.obj l (.loop (busyLp lp))) (Res.obj l (.loop lp)) L L') (h : ∀ w', St w0 M L' D w' → C (.bool true) w') :
    Run P (rbase fn n l) [] f w (EndsRound P C) := run_roundEnd hst (by rw [hlp.back]; exact hs) h
theorem run_retR (hst : St w0 M L D w) (hs : Sel (Res.obj l (.loop (busyLp lp))) (Res.obj l (.loop (doneLp lp .ret))) L L') (h : ∀ w', St w0 M L' D w' → C (.bool false) w') :
    Run P (rbase fn n l) (.code .ret :: k) f w (EndsRound P C) := run_roundRet hst hs h
theorem run_exitR {id : Nat} (hx : exitTo id k = none) (hst : St w0 M L D w) (hs : Sel (Res.obj l (.loop (busyLp lp))) (Res.obj l (.loop (doneLp lp (.exit id)))) L L') (h : ∀ w', St w0 M L' D w' → C (.bool false) w') :
    Run P (rbase fn n l) (.code (.exit id) :: k) f w (EndsRound P C) := run_roundExit hx hst hs h
end

/-- What a function that is ranged over does in world w: it hands 'item 0', 'item 1' .. 'item (n - 1)' to yield, one behind the other, and stops where yield says so. FD: what it reads. -/
def IterOk (P : Program) (g : FuncId) (cap : List Value) (n : Nat) (item : Nat → List Value) (FD : Nat → Prop) (w : World) : Prop :=
  ∀ (yv : Value) (R S : Nat → Res), (R 0).holds w → (∀ b, (R 0).foot b → ¬ FD b) →
    (∀ i, i < n → ∀ w1, St w (R 0).foot [R i] [] w1 → CallV P yv (item i) w1 fun v w2 => (v = .bool true ∧ St w1 (R i).foot [R (i + 1)] [] w2) ∨ (v = .bool false ∧ St w1 (R i).foot [S i] [] w2)) →
    Ret P g (yv :: cap).toArray w fun _ w' => St w (R 0).foot [R n] [] w' ∨ ∃ i, i < n ∧ St w (R 0).foot [S i] [] w'

theorem St.root {w0 w : World} {M : Nat → Prop} {X L2 D : List Res} (h : St w0 M (X ++ L2) D w) : St w (Res.star X).foot X (L2 ++ D) w where
  kept := Kept.refl _ _
  hL := fun r hr => h.hL r (List.mem_append_left _ hr)
  hD := fun r hr => (List.mem_append.1 hr).elim (fun hr => h.hL r (List.mem_append_right _ hr)) (fun hr => h.hD r hr)
  new := fun r hr b hb => .inr ⟨r, hr, hb⟩
  sep := (List.pairwise_append.1 h.sep).1
  sepD := fun r hr d hd => (List.mem_append.1 hd).elim (fun hd => (List.pairwise_append.1 h.sep).2.2 r hr d hd) (fun hd => h.sepD r (List.mem_append_left _ hr) d hd)

theorem St.star_of {w0 w : World} {M : Nat → Prop} {X D : List Res} (h : St w0 M X D w) : St w0 M [Res.star X] [] w := by
  have := (St.pack (L1 := X) (L2 := []) (by simpa using h)).noD
  exact this

theorem run_rangeIter {P : Program} {fid n g : Nat} {ds : List Deferred} {fo : Operand} {ps : List Tmp} {assign body : Code} {k : List Item} {f : Nat → Value} {w0 w : World} {M : Nat → Prop} {L1 L2 D : List Res} {E : Frame → World → Prop} {cap : List Value}
    {N : Nat} {item : Nat → List Value} {FD : Nat → Prop} (A B : Nat → List Res) (jc : Nat → Code)
    (hst : St w0 M (L1 ++ L2) D w) (hA : A 0 = L1) (hf : ev n f fo = .func (.func g) #[] cap.toArray) (hg : Enters P g)
    (hfd : ∀ b, FD b → (∃ r ∈ L2, r.foot b) ∨ ∃ r ∈ D, r.foot b)
    (hit : ∀ w1, St w0 M (L1 ++ L2) D w1 → IterOk P g cap N item FD w1)
    (hlen : ∀ i, i < N → (item i).length = ps.length)
    (hround : ∀ i, i < N → ∀ w1 l r lp, Lp lp fid n f ps assign body → St w1 (Res.star (Res.obj l (.loop lp) :: Res.obj r (.deferred (some [])) :: A i)).foot (Res.obj l (.loop lp) :: Res.obj r (.deferred (some [])) :: A i) (L2 ++ D) w1 →
      (∀ w2, Kept (Res.star (Res.obj l (.loop lp) :: Res.obj r (.deferred (some [])) :: A i)).foot w1 w2 → Kept M w0 w2) →
      Run P (rbase fid n l) [.code assign, .beginRound, .code body] (setPs f (ps.zip (item i))) w1 (EndsRound P fun v w2 =>
        (v = .bool true ∧ ∃ D', St w1 (Res.star (Res.obj l (.loop lp) :: Res.obj r (.deferred (some [])) :: A i)).foot (Res.obj l (.loop lp) :: Res.obj r (.deferred (some [])) :: A (i + 1)) D' w2) ∨
        (v = .bool false ∧ ∃ D', St w1 (Res.star (Res.obj l (.loop lp) :: Res.obj r (.deferred (some [])) :: A i)).foot (Res.obj l (.loop (doneLp lp (jc i))) :: Res.obj r (.deferred (some [])) :: B i) D' w2)))
    (hend : ∀ w2 l r lp, St w0 M (Res.obj l (.loop lp) :: Res.obj r (.deferred (some [])) :: (A N ++ L2)) D w2 → Run P (fbase fid n (markOf r :: ds)) k f w2 E)
    (hstop : ∀ i, i < N → ∀ w2 l r lp, St w0 M (Res.obj l (.loop lp) :: Res.obj r (.deferred (some [])) :: (B i ++ L2)) D w2 → Run P (fbase fid n (markOf r :: ds)) (.code (jc i) :: k) f w2 E) :
    Run P (fbase fid n ds) (.code (.rangeFunc fo ps.toArray assign body) :: k) f w E := by
  refine run_rangeFunc hst hf hg fun w1 l r hst1 => ?_
  obtain ⟨lp, hlp, hst1⟩ : ∃ lp, Lp lp fid n f ps assign body ∧ St w0 M (Res.obj l (.loop lp) :: Res.obj r (.deferred (some [])) :: (L1 ++ L2)) D w1 := ⟨_, ⟨rfl, rfl, rfl, rfl, rfl, rfl, rfl⟩, hst1⟩
  subst hA
  let X : Nat → List Res := fun i => Res.obj l (.loop lp) :: Res.obj r (.deferred (some [])) :: A i
  have hX : St w0 M (X 0 ++ L2) D w1 := hst1
  have hplain : St w0 M (A 0 ++ L2) D w1 := (hst1.drop .here).drop .here
  have hi := hit w1 hplain
  refine (hi (.func (.yield l) #[] #[]) (fun i => Res.star (X i)) (fun i => Res.star (Res.obj l (.loop (doneLp lp (jc i))) :: Res.obj r (.deferred (some [])) :: B i)) (hX.pack.hL _ (.head _)) ?_ ?_).mono ?_
  · intro b hb hfb
    have hp := hX.pack
    rcases hfd b hfb with ⟨s, hs, hsb⟩ | ⟨s, hs, hsb⟩
    · exact (List.pairwise_cons.1 hp.sep).1 s hs b hb hsb
    · exact hp.sepD _ (.head _) s hs b hb hsb
  · intro i hiN w2 hw2
    have h2 : St w0 M (X i ++ L2) D w2 := (hX.pack.call1 hw2).unpack
    have hr := hround i hiN w2 l r lp hlp h2.root (fun w3 hk3 => h2.kept.trans hk3 fun x hx hf => by
      obtain ⟨s, hs, hsx⟩ := hf
      exact (h2.new s (List.mem_append_left _ hs) x hsx).resolve_left (by omega))
    have hl : w2.heap[l]? = some (.loop lp) := h2.hL _ (.head _)
    refine CallV.round (ps := ps) (n := n) (f := f) hl hlp.params (hlen i hiN) hlp.tmps ?_
    rw [hlp.fn, hlp.assign, hlp.body]
    refine hr.mono fun fr w3 ⟨v, w4, hC, hs⟩ => ⟨v, w4, ?_, hs⟩
    rcases hC with ⟨hv, D', hC⟩ | ⟨hv, D', hC⟩
    · exact .inl ⟨hv, hC.star_of⟩
    · exact .inr ⟨hv, hC.star_of⟩
  · rintro v w2 (h2 | ⟨i, hiN, h2⟩)
    · have h3 : St w0 M (X N ++ L2) D w2 := (hX.pack.call1 h2).unpack
      refine ⟨lp, _, by rw [hlp.state]; decide, h3, fun w3 h4 => ?_⟩
      rw [hlp.pending]
      exact hend w3 l r _ h4
    · have h3 := (hX.pack.call1 h2).unpack
      refine ⟨doneLp lp (jc i), _, by simp [doneLp], h3, fun w3 h4 => ?_⟩
      exact hstop i hiN w3 l r _ h4
end Go.SK
namespace Go.SK
inductive Pick : List Res → List Res → Prop
  | nil {L : List Res} : Pick [] L
  | cons {r : Res} {L L1 L' : List Res} : Rem r L L1 → Pick L' L1 → Pick (r :: L') L

theorem Pick.sub {L L' : List Res} (h : Pick L' L) : ∀ r ∈ L', r ∈ L := by
  induction h with
  | nil => intro r hr; cases hr
  | cons hr _ ih => intro s hs; cases hs with
    | head => exact hr.mem
    | tail _ hs => exact hr.sub s (ih s hs)
theorem Pick.apart {L L' : List Res} (h : Pick L' L) (hp : L.Pairwise Apart) : L'.Pairwise Apart := by
  induction h with
  | nil => exact .nil
  | cons hr hpk ih => exact List.pairwise_cons.2 ⟨fun s hs => (hr.apart hp).2 s (hpk.sub s hs), ih (hr.apart hp).1⟩
theorem St.pick {w0 w : World} {M : Nat → Prop} {L L' D : List Res} (h : St w0 M L D w) (hp : Pick L' L) : St w0 M L' D w where
  kept := h.kept
  hL := fun s hs => h.hL s (hp.sub s hs)
  hD := h.hD
  new := fun s hs => h.new s (hp.sub s hs)
  sep := hp.apart h.sep
  sepD := fun s hs => h.sepD s (hp.sub s hs)
theorem St.addProp {w0 w : World} {M : Nat → Prop} {L D : List Res} {p : Prop} (h : St w0 M L D w) (hp : p) : St w0 M (Res.prop p :: L) D w :=
  h.push (Kept.refl _ _) hp (fun _ hf => hf.elim)
end Go.SK
namespace Go.SK
theorem St.init_Ds {D : List Res} {w : World} (h : ∀ d ∈ D, d.holds w) : St w NoM [] D w where
  kept := Kept.refl _ _
  hL := by simp
  hD := h
  new := by simp
  sep := List.Pairwise.nil
  sepD := by simp
theorem St.init_D {r : Res} {w : World} (h : r.holds w) : St w NoM [] [r] w := St.init_Ds (by simpa using h)
end Go.SK
