/-
  Facts, loops, splits.
-/
import Derived.Test.YtnbapjkldjhjoaaSkE
import Derived.KernelRfl
set_option linter.unusedVariables false
set_option linter.unusedSimpArgs false
namespace Go.SK
open Go.RowKit

/-! facts that the kernel reads off the program's tables -/
def tyRow (P : Program) (T : TypeId) : Option (Nat × Nat × Option (List Value)) := (P.info? T).map fun i => (i.size, i.bytes, i.zero.map fun z => z.cells.toList)
theorem TyF.of {P : Program} {T : TypeId} {d : TypeDesc} {sz bytes : Nat} {zs : List Value} (h : tyRow P T = some (sz, bytes, some zs)) (hu : P.underlying T = some d) : TyF P T d sz bytes zs := by
  refine ⟨?_, hu⟩
  simp only [tyRow] at h
  cases hi : P.info? T with
  | none => simp [hi] at h
  | some i =>
    simp only [hi, Option.map_some, Option.some.injEq, Prod.mk.injEq] at h
    cases hz : i.zero with
    | none => simp [hz] at h
    | some z => exact ⟨i, z, rfl, h.1, h.2.1, hz, by have := h.2.2; simp [hz] at this; simp [← this]⟩

def fieldsOf (P : Program) (T : TypeId) : Array Field := match P.underlying T with
  | some (.struct fs) => fs
  | _ => #[]
def methodsOf (P : Program) (T : TypeId) : Array (String × TypeId) := match P.underlying T with
  | some (.interface ms) => ms
  | _ => #[]
def fldRow (P : Program) (S i : Nat) : Option (Nat × Option Nat) := match P.underlying S with
  | some (.struct fs) => (fs[i]?).map fun fd => (fd.offset, (P.info? fd.type).map (·.size))
  | _ => none
theorem FldF.of {P : Program} {S i o n : Nat} (h : fldRow P S i = some (o, some (n + 1))) : FldF P S i o := by
  simp only [fldRow] at h
  split at h
  · rename_i fs hu
    cases hf : fs[i]? with
    | none => simp [hf] at h
    | some fd =>
      simp only [hf, Option.map_some, Option.some.injEq, Prod.mk.injEq] at h
      cases hi : P.info? fd.type with
      | none => simp [hi] at h
      | some inf => exact ⟨fs, fd, inf, hu, hf, h.1, hi, by have := h.2; simp [hi] at this; omega⟩
  · simp at h

theorem St.keepc {w0 w w' : World} {M : Nat → Prop} {L D : List Res} (h : St w0 M L D w) (hc : St w NoM [] [] w') : St w0 M L D w' := h.keep hc.kept
theorem St.pure {w0 w : World} {L D : List Res} (h : St w0 NoM L D w) : St w0 NoM [] [] w := h.nil

theorem run_cond_dec {P : Program} {b : Base} {k : List Item} {f : Nat → Value} {w : World} {E : Frame → World → Prop} {c : Operand} {x y : Code} {p : Prop} [Decidable p] (hc : ev b.n f c = .bool (decide p)) (h1 : p → Run P b (.code x :: k) f w E)
    (h2 : ¬ p → Run P b (.code y :: k) f w E) : Run P b (.code (.cond c x y) :: k) f w E :=
  run_cond_split hc (fun h => h1 (of_decide_eq_true h)) (fun h => h2 (of_decide_eq_false h))

/-! loops -/
def Keep (F f : Nat → Value) : List Nat → Prop
  | [] => True
  | t :: l => f t = F t ∧ Keep F f l

theorem upd_self {f : Nat → Value} {t : Nat} {v : Value} (h : f t = v) : upd f t v = f := by
  funext u
  by_cases hu : u = t
  · subst hu; rw [upd_same, h]
  · rw [upd_ne _ _ hu]

def sts : List (Nat × Value) → (Nat → Value) → (Nat → Value)
  | [], f => f
  | (t, v) :: l, f => upd (sts l f) t v
def Slots (f : Nat → Value) : List (Nat × Value) → Prop
  | [] => True
  | (t, v) :: l => f t = v ∧ Slots f l
theorem sts_self {f : Nat → Value} : ∀ {l : List (Nat × Value)}, Slots f l → sts l f = f
  | [], _ => rfl
  | (t, v) :: l, h => by
    have ih := sts_self h.2
    simp only [sts]
    rw [ih]
    exact upd_self h.1

theorem Run.ind {α : Type} {P : Program} {b : Base} {k : List Item} {E : Frame → World → Prop} (st : α → List (Nat × Value)) (keep : List Nat) (I : α → World → Prop) (μ : α → Nat) {F : Nat → Value} {w : World} (a0 : α)
    (h0 : I a0 w) (hf : Slots F (st a0)) (hk : Keep F F keep)
    (h : ∀ (a : α) (f : Nat → Value) (w : World), Keep F f keep → I a w → (∀ (a' : α) (f' : Nat → Value) (w' : World), μ a' < μ a → I a' w' → Keep F f' keep → Slots f' (st a') → Run P b k f' w' E) → Run P b k (sts (st a) f) w E) : Run P b k F w E := by
  have key : ∀ (n : Nat) (a : α) (f : Nat → Value) (w : World), μ a = n → Keep F f keep → I a w → Run P b k (sts (st a) f) w E := by
    intro n
    induction n using Nat.strongRecOn with
    | _ n ih =>
      intro a f w hn hkf hI
      exact h a f w hkf hI fun a' f' w' hlt hI' hkf' hs => by
        have := ih _ (hn ▸ hlt) a' f' w' rfl hkf' hI'
        rwa [sts_self hs] at this
  have := key _ a0 F w rfl hk h0
  rwa [sts_self hf] at this

/-- where ways meet -/
theorem Run.cut {α : Type} {P : Program} {b : Base} {i : Item} {k : List Item} {E : Frame → World → Prop} (st : α → List (Nat × Value)) (keep : List Nat) (J : α → World → Prop) {F : Nat → Value} {w : World}
    (h2 : ∀ (a : α) (f : Nat → Value) (w : World), Keep F f keep → J a w → Run P b k (sts (st a) f) w E)
    (h1 : (∀ (a : α) (f : Nat → Value) (w : World), J a w → Keep F f keep → Slots f (st a) → Run P b k f w E) → Run P b (i :: k) F w E) : Run P b (i :: k) F w E :=
  h1 fun a f w hJ hk hs => by
    have := h2 a f w hk hJ
    rwa [sts_self hs] at this

theorem Keep.refl (F : Nat → Value) : ∀ l : List Nat, Keep F F l
  | [] => trivial
  | _ :: l => ⟨rfl, Keep.refl F l⟩
end Go.SK
namespace Go.SK
section
variable {P : Program} {b : Base} {k : List Item} {f : Nat → Value} {w : World} {E : Frame → World → Prop} {ops : Array Oper} {l : List Oper}
theorem RunL.split {d : Nat} {t : Bool} (hv : ev b.n f (.tmp d) = .bool t) (h1 : t = true → RunL P b ops l k f w E) (h2 : t = false → RunL P b ops l k f w E) : RunL P b ops l k f w E := by
  cases t with
  | true => exact h1 rfl
  | false => exact h2 rfl
theorem RunL.splitD {d : Nat} {p : Prop} [Decidable p] (hv : ev b.n f (.tmp d) = .bool (decide p)) (h1 : p → RunL P b ops l k f w E) (h2 : ¬ p → RunL P b ops l k f w E) : RunL P b ops l k f w E := by
  by_cases h : p
  · exact h1 h
  · exact h2 h
theorem RunL.slots {sl : List (Nat × Value)} (h : Slots f sl) (hr : RunL P b ops l k (sts sl f) w E) : RunL P b ops l k f w E := by
  rw [sts_self h] at hr; exact hr
theorem Run.slots {sl : List (Nat × Value)} (h : Slots f sl) (hr : Run P b k (sts sl f) w E) : Run P b k f w E := by
  rw [sts_self h] at hr; exact hr
theorem RunL.slot {t : Nat} {v : Value} (h : f t = v) (hr : RunL P b ops l k (upd f t v) w E) : RunL P b ops l k f w E := by
  rw [upd_self h] at hr; exact hr
theorem RunD.split {pd : Pend} {bs : List Nat} {ds : List (Option Nat)} {w0 : World} {M : Nat → Prop} {L D : List Res} {i : Nat} {ws : Nat → Word} {j : Nat} {t : Bool} (hj : ws j = cw (det (.bool t))) (h1 : t = true → RunD pd P b ops bs ds k E f w0 M L D w i l ws)
    (h2 : t = false → RunD pd P b ops bs ds k E f w0 M L D w i l ws) : RunD pd P b ops bs ds k E f w0 M L D w i l ws := by
  cases t with
  | true => exact h1 rfl
  | false => exact h2 rfl
theorem RunD.splitD {pd : Pend} {bs : List Nat} {ds : List (Option Nat)} {w0 : World} {M : Nat → Prop} {L D : List Res} {i : Nat} {ws : Nat → Word} {j : Nat} {p : Prop} [Decidable p] (hj : ws j = cw (det (.bool (decide p)))) (h1 : p → RunD pd P b ops bs ds k E f w0 M L D w i l ws)
    (h2 : ¬ p → RunD pd P b ops bs ds k E f w0 M L D w i l ws) : RunD pd P b ops bs ds k E f w0 M L D w i l ws := by
  by_cases h : p
  · exact h1 h
  · exact h2 h
theorem Run.split {d : Nat} {t : Bool} (hv : ev b.n f (.tmp d) = .bool t) (h1 : t = true → Run P b k f w E) (h2 : t = false → Run P b k f w E) : Run P b k f w E := by
  cases t with
  | true => exact h1 rfl
  | false => exact h2 rfl
end
section
variable {P : Program} {ty : TypeId} {ρ : Operand → Value} {w : World} {C : Value → World → Prop}
theorem Op1.notD {x : Operand} {p : Prop} [Decidable p] {T : TypeId} (hx : ρ x = .bool (decide p)) (h : C (.bool (decide (¬ p))) w) : Op1 P (.unOp .not T x) ty ρ w C :=
  Op1.not hx (by rw [show (!decide p) = decide (¬ p) by by_cases h : p <;> simp [h]]; exact h)
theorem Op1.pickB {c x y : Operand} {t p q : Bool} (hc : ρ c = .bool t) (hx : ρ x = .bool p) (hy : ρ y = .bool q) (h : C (.bool (if t then p else q)) w) : Op1 P (.pick c x y) ty ρ w C :=
  Op1.pick hc hx hy (by cases t <;> exact h)
theorem Op1.pickAnd {c x y : Operand} {t p : Bool} (hc : ρ c = .bool t) (hx : ρ x = .bool p) (hy : ρ y = .bool false) (h : C (.bool (t && p)) w) : Op1 P (.pick c x y) ty ρ w C :=
  Op1.pick hc hx hy (by cases t <;> exact h)
theorem Op1.pickOr {c x y : Operand} {t p : Bool} (hc : ρ c = .bool t) (hx : ρ x = .bool true) (hy : ρ y = .bool p) (h : C (.bool (t || p)) w) : Op1 P (.pick c x y) ty ρ w C :=
  Op1.pick hc hx hy (by cases t <;> exact h)
end
end Go.SK
