/-
  Append of slices; tables; where ways meet, and loops, told by values.
-/
import Derived.Test.YtnbapjkldjhjoaaSkM
set_option linter.unusedVariables false
set_option linter.unusedSimpArgs false
namespace Go.SK
open Go.RowKit

/-! append of a whole slice; arrays that are tables -/
section
variable {P : Program} {ty : TypeId} {ρ : Operand → Value} {w0 w : World} {C : Value → World → Prop} {M : Nat → Prop} {L L' D : List Res}
variable {T e : TypeId} {de : TypeDesc} {sz bytes es eb : Nat} {zs ez : List Value} {ao ao2 : Option Addr} {n cap m c : Nat} {xs ys : List Value}

theorem Op1.appendNone {x y : Operand} (hst : St w0 M L D w) (hT : TyF P T (.slice e) sz bytes zs) (he : TyF P e de es eb ez)
    (hr : Rem (Res.sl ao n cap e es xs) L L') (hx : ρ x = .slice ao n cap) (hy : ρ y = .slice none 0 c)
    (h : St w0 M (Res.sl ao n cap e es xs :: L') D w → C (.slice ao n cap) w) : Op1 P (.call ⟨.builtin .append, #[x, y], #[T, T]⟩) ty ρ w C := by
  have hown : w.ownsRow 0 e es (.slice ao n cap) n xs := hst.hL _ hr.mem
  have hcap : n ≤ cap := by
    rcases hown.2 with ⟨hv, h0⟩ | ⟨g, cc, cur, hv, hb0, hg, hnc, hrest⟩
    · cases hv; omega
    · cases hv; exact hnc
  refine Op1.builtin (args := [x, y]) (v := .slice ao n cap) (w' := w) (fun cs => ?_) (h (hst.front hr))
  simp only [List.map_cons, List.map_nil, hx, hy]
  cases ao with
  | none => simp [Go.builtin, Builtin.append_, Sem.run_bind, hT.run_und, he.run_size, Result.andThen, Builtin.lenOf, Builtin.firstCells, hcap]
  | some a => simp [Go.builtin, Builtin.append_, Sem.run_bind, hT.run_und, he.run_size, Result.andThen, Builtin.lenOf, Builtin.firstCells, hcap, storeCells]

/-- append of a slice: what it gives is the call's own -/
theorem Op1.appendSl {x y : Operand} (hst : St w0 M L D w) (hT : TyF P T (.slice e) sz bytes zs) (he : TyF P e de es eb ez) (hes : Nat.ble 1 es = true) (hebs : Nat.ble 1 eb = true)
    (hr : Rem (Res.sl ao n cap e es xs) L L') (hx : ρ x = .slice ao n cap) (hy : ρ y = .slice ao2 m c) (hown : (Res.sl ao2 m c e es ys).holds w) (hok : ys.all okCell = true)
    (hez : ez.length = es) (hb : (n + m) * eb ≤ 140737488355328)
    (h : ∀ (w' : World) (ao' : Option Addr) (cap' : Nat), St w0 M (Res.sl ao' (n + m) cap' e es (xs ++ ys) :: L') D w' → C (.slice ao' (n + m) cap') w') :
    Op1 P (.call ⟨.builtin .append, #[x, y], #[T, T]⟩) ty ρ w C := by
  have hl : ys.length = m * es := hown.1
  rcases hown.2 with ⟨hv, h0⟩ | ⟨g, cc, cur, hv, _⟩
  · cases hv
    have : ys = [] := List.length_eq_zero_iff.1 (by omega)
    subst this
    exact Op1.appendNone hst hT he hr hx hy fun hs => by
      have := h w ao cap (by simpa using hs)
      simpa using this
  · cases hv
    exact Op1.append hst hT he hes hebs hr hx hy hl (Res.sl_cells (k := ys.length) hown ys (by simp)) hok hez hb h
end

theorem Run.cutL {α : Type} {P : Program} {b : Base} {i : Item} {k : List Item} {E : Frame → World → Prop} {w0 : World} {M : Nat → Prop} {L1 L2 D : List Res} {F : Nat → Value} {w : World} (hst : St w0 M (L1 ++ L2) D w) (st : α → List (Nat × Value)) (keep : List Nat) (Lm : α → List Res) (J : α → Prop)
    (h2 : ∀ (a : α) (f : Nat → Value) (w : World), Keep F f keep → St w0 M (Lm a ++ L2) D w → J a → Run P b k (sts (st a) f) w E)
    (h1 : (∀ (a : α) (f : Nat → Value) (w : World), St w0 M (Lm a ++ L2) D w → J a → Keep F f keep → Slots f (st a) → Run P b k f w E) → Run P b (i :: k) F w E) : Run P b (i :: k) F w E :=
  h1 fun a f w hs hJ hk hsl => by
    have := h2 a f w hk hs hJ
    rwa [sts_self hsl] at this

theorem sts_app (l m : List (Nat × Value)) (f : Nat → Value) : sts (l ++ m) f = sts l (sts m f) := by
  induction l with
  | nil => rfl
  | cons p l ih => obtain ⟨t, v⟩ := p; simp only [List.cons_append, sts, ih]
theorem Slots.app {f : Nat → Value} : ∀ {l m : List (Nat × Value)}, Slots f l → Slots f m → Slots f (l ++ m)
  | [], _, _, h => h
  | (_, _) :: _, _, h1, h2 => ⟨h1.1, Slots.app h1.2 h2⟩
theorem Slots.left {f : Nat → Value} : ∀ {l m : List (Nat × Value)}, Slots f (l ++ m) → Slots f l
  | [], _, _ => trivial
  | (_, _) :: _, _, h => ⟨h.1, Slots.left h.2⟩
/-- where ways meet: kv tells what the slots hold that stay -/
theorem Run.cutW {α : Type} {P : Program} {b : Base} {i : Item} {k : List Item} {E : Frame → World → Prop} {w0 : World} {M : Nat → Prop} {L1 L2 D : List Res} {F : Nat → Value} {w : World} (kv : List (Nat × Value)) (hst : St w0 M (L1 ++ L2) D w) (hkv : Slots F kv) (st : α → List (Nat × Value)) (Lm : α → List Res) (J : α → Prop)
    (h2 : ∀ (a : α) (f : Nat → Value) (w : World), St w0 M (Lm a ++ L2) D w → J a → Run P b k (sts (st a) (sts kv f)) w E)
    (h1 : (∀ (a : α) (f : Nat → Value) (w : World), St w0 M (Lm a ++ L2) D w → J a → Slots f kv → Slots f (st a) → Run P b k f w E) → Run P b (i :: k) F w E) : Run P b (i :: k) F w E :=
  h1 fun a f w hs hJ hk hsl => by
    have := h2 a f w hs hJ
    rw [sts_self hk] at this
    rwa [sts_self hsl] at this
theorem Run.indW {α : Type} {P : Program} {b : Base} {k : List Item} {E : Frame → World → Prop} {w0 : World} {M : Nat → Prop} {L2 D : List Res} {F : Nat → Value} {w : World} (kv : List (Nat × Value)) (hkv : Slots F kv) (st : α → List (Nat × Value)) (Lm : α → List Res) (J : α → Prop) (μ : α → Nat) (a0 : α)
    (hst : St w0 M (Lm a0 ++ L2) D w) (hJ : J a0) (hf : Slots F (st a0))
    (h : ∀ (a : α) (f : Nat → Value) (w : World), St w0 M (Lm a ++ L2) D w → J a →
      (∀ (a' : α) (f' : Nat → Value) (w' : World), μ a' < μ a → St w0 M (Lm a' ++ L2) D w' → J a' → Slots f' kv → Slots f' (st a') → Run P b k f' w' E) → Run P b k (sts (st a) (sts kv f)) w E) : Run P b k F w E :=
  Run.ind (fun a => st a ++ kv) [] (fun a w => St w0 M (Lm a ++ L2) D w ∧ J a) μ a0 ⟨hst, hJ⟩ (hf.app hkv) trivial fun a f w _ hI ih => by
    rw [sts_app]
    exact h a f w hI.1 hI.2 fun a' f' w' hlt hs hJ' hk hsl => ih a' f' w' hlt ⟨hs, hJ'⟩ trivial (hsl.app hk)

theorem flat_ok {α : Type} {g : α → List Value} (hg : ∀ a, (g a).all okCell = true) : ∀ l : List α, (l.flatMap g).all okCell = true
  | [] => rfl
  | a :: l => by rw [List.flatMap_cons, List.all_append, hg a, flat_ok hg l]; rfl

/-- an array of n ints, as a function -/
def tabOf (k : IntKind) (n : Nat) (f : Nat → Int) : List Value := (List.range n).map fun j => .int k (f j)
theorem tabOf_len (k : IntKind) (n : Nat) (f : Nat → Int) : (tabOf k n f).length = n := by simp [tabOf]
theorem tabOf_get {k : IntKind} {n : Nat} {f : Nat → Int} {i j : Nat} (hi : i = j) (h : j < n) : (tabOf k n f)[i]? = some (.int k (f j)) := by
  subst hi; simp [tabOf, h]
theorem tabOf_zero (k : IntKind) (n : Nat) : List.replicate n (Value.int k 0) = tabOf k n (fun _ => 0) := by
  apply List.ext_getElem
  · simp [tabOf]
  · intro i h1 h2; simp [tabOf]
theorem tabOf_set {k : IntKind} {n : Nat} {f g : Nat → Int} {i j : Nat} {v : Int} (hi : i = j) (hv : g j = v) (h : ∀ l, l < n → l ≠ j → g l = f l) : setSeg (tabOf k n f) i [.int k v] = tabOf k n g := by
  subst hi; subst hv
  simp only [setSeg]
  apply List.ext_getElem
  · simp [tabOf]
  · intro l h1 h2
    simp only [tabOf, List.length_map, List.length_range] at h2
    by_cases hl : l = i
    · subst hl; simp [tabOf]
    · rw [List.getElem_set_ne (fun e => hl e.symm)]
      simp [tabOf, h l h2 hl]
end Go.SK
