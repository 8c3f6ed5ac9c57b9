/-
  Functions held against nil; several ranges in one body.
-/
import Derived.Test.YtnbapjkldjhjoaaSkL
set_option linter.unusedVariables false
set_option linter.unusedSimpArgs false
namespace Go.SK
open Go.RowKit

/-! functions held against nil; several ranges over functions in one body -/
section
variable {P : Program} {ty : TypeId} {ρ : Operand → Value} {w : World} {C : Value → World → Prop} {T T2 : TypeId} {x y : Operand} {sz bytes : Nat} {zs : List Value} {ps rs : Array TypeId} {va : Bool}
theorem equal_fn {fn : Fn} {a b : Array Value} (hT : TyF P T (.func ps rs va) sz bytes zs) : (Op.equal T (.func fn a b) .nilFunc).run P w = .ok false w := by
  show (Op.equalIn (9999 + 1) T (.func fn a b) .nilFunc).run P w = _
  rw [Op.equalIn]
  simp [Sem.run_bind, hT.run_und, Result.andThen]
theorem Op1.eqlFn {fn : Fn} {a b : Array Value} (hT : TyF P T (.func ps rs va) sz bytes zs) (hx : ρ x = .func fn a b) (hy : ρ y = .nilFunc) (h : C (.bool false) w) : Op1 P (.binOp .eql T x y T2) ty ρ w C := by
  refine Op1.of (v := .bool false) (w' := w) ?_ h
  simp only [execOp, hx, hy, eqGuard]
  simp [binOp, equal_fn hT, Result.andThen]
end

abbrev markR (r : Nat) : Res := Res.obj r (.deferred (some []))
theorem ret_marks {P : Program} {fid n : Nat} {fn : Func} {f : Nat → Value} {k : List Item} {C : Value → World → Prop} (hf : P.funcs[fid]? = some fn) {w0 : World} {M : Nat → Prop} {L D : List Res} :
    ∀ (rs : List Nat) (w : World) (cs : List Frame), St w0 M (rs.map markR ++ L) D w → (∀ w', St w0 M L D w' → ∃ v, (results fn (tm n f)).run P w' = .ok v w' ∧ C v w') →
      ∃ w', Steps P (lone { (fbase fid n (rs.map markOf)).fr k f with mode := .returning } cs w) (lone { (fbase fid n []).fr k f with mode := .returning } cs w') ∧ Leaves P fid C { (fbase fid n []).fr k f with mode := .returning } w'
  | [], w, cs, hst, h => by
    obtain ⟨v, hv, hC⟩ := h w hst
    exact ⟨w, Steps.refl _ _, leave_of hf hv hC⟩
  | r :: rs, w, cs, hst, h => by
    have hh := hst.hL _ (.head _)
    simp only [Res.obj] at hh
    have htake : (Instr.takeDeferred r).run P w = .ok [] { w with heap := w.heap.setIfInBounds r (.deferred none) } := by
      simp only [Instr.takeDeferred, Sem.run_bind, getObj_run hh (by simp), Result.andThen, setObj_run hh (by simp)]
      rfl
    have h2 := hst.upd (r' := Res.obj r (.deferred none)) .here (Kept.put _ _ _) (by simpa [Res.obj] using putObj_get hh) (fun b hb => .inl hb)
    obtain ⟨w', hs, hl⟩ := ret_marks hf (k := k) rs _ cs (h2.drop .here) h
    refine ⟨w', .head (step_lone_go ?_) hs, hl⟩
    simp only [stepG, Base.fr, fbase, List.map_cons, unwind, markOf, Sem.runT_eq, htake, GStep.bare_after]
    rfl
theorem run_ret_marks {P : Program} {fid n : Nat} {fn : Func} {f : Nat → Value} {k : List Item} {C : Value → World → Prop} {w0 w : World} {M : Nat → Prop} {L D : List Res} (rs : List Nat)
    (hf : P.funcs[fid]? = some fn) (hst : St w0 M (rs.map markR ++ L) D w) (h : ∀ w', St w0 M L D w' → ∃ v, (results fn (tm n f)).run P w' = .ok v w' ∧ C v w') :
    Run P (fbase fid n (rs.map markOf)) (.code .ret :: k) f w (Leaves P fid C) := fun cs => by
  obtain ⟨w', hs, hl⟩ := ret_marks hf (k := .code .ret :: k) rs w cs hst h
  exact ⟨_, w', .head (step_lone_go (fr' := { (fbase fid n (rs.map markOf)).fr (.code .ret :: k) f with mode := .returning }) (by simp [stepG, stepG.exec, Base.fr, fbase])) hs, hl⟩
theorem run_end_marks {P : Program} {fid n : Nat} {fn : Func} {f : Nat → Value} {C : Value → World → Prop} {w0 w : World} {M : Nat → Prop} {L D : List Res} (rs : List Nat)
    (hf : P.funcs[fid]? = some fn) (hst : St w0 M (rs.map markR ++ L) D w) (h : ∀ w', St w0 M L D w' → ∃ v, (results fn (tm n f)).run P w' = .ok v w' ∧ C v w') :
    Run P (fbase fid n (rs.map markOf)) [] f w (Leaves P fid C) := fun cs => by
  obtain ⟨w', hs, hl⟩ := ret_marks hf (k := []) rs w cs hst h
  exact ⟨_, w', .head (step_lone_go (fr' := { (fbase fid n (rs.map markOf)).fr [] f with mode := .returning }) (by simp [stepG, stepG.exec, Base.fr, fbase])) hs, hl⟩
end Go.SK
