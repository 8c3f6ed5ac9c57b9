/-
  Steps of functions, plain law, and walks of functions: what the laws rest on.
-/
import Derived.Test.YtoodfjpigminkaaSkG0d
set_option linter.unusedVariables false
set_option linter.unusedSimpArgs false
set_option linter.unusedSectionVars false
namespace Go.SK
open Go.RowKit Go.ChangeShapes Go.WideShapes Go.ChangeAt
inductive All2 {A B : Type} (R : A → B → Prop) : List A → List B → Prop
  | nil : All2 R [] []
  | cons {a : A} {b : B} {xs : List A} {bs : List B} : R a b → All2 R xs bs → All2 R (a :: xs) (b :: bs)
theorem All2.of_get {A B : Type} {R : A → B → Prop} : ∀ (xs : List A) (bs : List B), xs.length = bs.length → (∀ (i : Nat) (a : A) (b : B), xs[i]? = some a → bs[i]? = some b → R a b) → All2 R xs bs
  | [], [], _, _ => .nil
  | a :: xs, b :: bs, hl, h => .cons (h 0 a b rfl rfl) (All2.of_get xs bs (by simpa using hl) (fun i x y hx hy => h (i + 1) x y (by simpa using hx) (by simpa using hy)))
  | [], _ :: _, hl, _ => by simp at hl
  | _ :: _, [], hl, _ => by simp at hl
theorem row_cells {P : Program} {w : World} {r : Reach} {base : Nat} {t : TypeId} {cs : Array Value} {ts : List TypeId} (h : Row.okWide P w r base t cs) (ht : P.cellTypes P.depth t = some ts) (hs : cs.size = ts.length) :
    All2 (fun u v => Cell.okWide P w r base u v) ts cs.toList := by
  obtain ⟨ts', ht', _, hc⟩ := h
  rw [ht] at ht'
  obtain rfl := Option.some.inj ht'
  refine All2.of_get _ _ (by simpa using hs.symm) fun i a b ha hb => ?_
  have hi : i < ts.length := (List.getElem?_eq_some_iff.1 ha).1
  obtain ⟨u, hu, hok⟩ := hc i b (by simpa using hb)
  rw [Nat.mod_eq_of_lt hi, ha] at hu
  obtain rfl := Option.some.inj hu
  exact hok
theorem agg_cells {P : Program} {w : World} {r : Reach} {base : Nat} {t : TypeId} {v : Value} {ts : List TypeId} {d : TypeDesc} (h : Value.okWide P w r base t v) (hu : P.underlying t = some d) (hd : aggB d = true)
    (ht : P.cellTypes P.depth t = some ts) (hs : P.cellsOf t = ts.length) : ∃ cs : List Value, v = .agg cs.toArray ∧ All2 (fun u v => Cell.okWide P w r base u v) ts cs := by
  simp only [Value.okWide, hu] at h
  have : ∃ cs, v = .agg cs ∧ cs.size = P.cellsOf t ∧ Row.okWide P w r base t cs := by
    cases d <;> simp [aggB] at hd <;> exact h
  obtain ⟨cs, rfl, hsz, hrow⟩ := this
  exact ⟨cs.toList, by simp, row_cells hrow ht (hsz.trans hs)⟩
end Go.SK
namespace Go.SK
open Go.RowKit Go.ChangeShapes Go.WideShapes Go.ChangeAt
section
variable {H : Type} {enc : TypeId × Value → H} {P : Program} {w : World} {base : Nat} {spare : Nat → Bool} {held : Bool} {M I A : TypeId}
theorem wf_u16 {n : Int} (h : (Lit.int .u16 n).wf = true) : 0 ≤ n ∧ n ≤ 65535 := by
  simpa [Lit.wf, IntKind.min, IntKind.max, IntKind.signed, IntKind.bits] using h
theorem wf_u32 {n : Int} (h : (Lit.int .u32 n).wf = true) : 0 ≤ n ∧ n ≤ 4294967295 := by
  simpa [Lit.wf, IntKind.min, IntKind.max, IntKind.signed, IntKind.bits] using h
def relL {H : Type} {α : Type} (r : α → DataW H → Prop) (l : List α) (d : DataW H) : Prop := (d = .nil ∧ l = []) ∨ ∃ elems sp, d = .slice elems sp ∧ elems.length = l.length ∧ ∀ (i : Nat) (a : α) (y : DataW H), l[i]? = some a → elems[i]? = some y → r a y
theorem slice_one {t e : TypeId} {c : Value} {n : Nat} {y : DataW H × List MemPlace} (ht : P.underlying t = some (.slice e)) (h : DataW.trod enc P w base spare held n t [c] = some y) : c.cells.toList = [c] := by
  cases n with
  | zero => simp [DataW.trod] at h
  | succ n =>
    unfold DataW.trod at h
    rw [ht] at h
    split at h <;> simp_all
    all_goals first | rfl | (subst_vars; rfl) | skip
end
end Go.SK
