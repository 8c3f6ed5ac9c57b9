/-
  Plain law: instructions and modules, compared and copied.
-/
import Derived.Test.YtnbapjkldjhjoaaSkT
set_option linter.unusedVariables false
set_option linter.unusedSimpArgs false
namespace Go.SK
open Go.RowKit Go.ChangeShapes Go.WideShapes Go.ChangeAt

/-! instructions and modules, as they lie in memory -/
structure ArgP where
  kind : Int
  n : Int
  s : List UInt8
  deriving DecidableEq
abbrev argC (a : ArgP) : List Value := [.int .u8 a.kind, .int .u32 a.n, str a.s]
theorem argC_len (a : ArgP) : (argC a).length = 3 := rfl
def zeroA : ArgP := ⟨0, 0, []⟩
structure InstP where
  op : Int
  ty : Int
  res : Int
  ao : Option Addr
  cap : Nat
  args : List ArgP
abbrev instC (i : InstP) : List Value := [.int .u16 i.op, .int .u32 i.ty, .int .u32 i.res, .slice i.ao i.args.length i.cap]
theorem instC_len (i : InstP) : (instC i).length = 4 := rfl
def zeroI : InstP := ⟨0, 0, 0, none, 0, []⟩
/-- what an instruction says, wherever it lies -/
structure InstL where
  op : Int
  ty : Int
  res : Int
  args : List ArgP
  deriving DecidableEq
abbrev InstP.L (i : InstP) : InstL := ⟨i.op, i.ty, i.res, i.args⟩
theorem InstP.L_eq {i j : InstP} : i.L = j.L ↔ i.op = j.op ∧ i.ty = j.ty ∧ i.res = j.res ∧ i.args = j.args := by
  simp [InstP.L]

/-- several known resources as one -/
def Res.all (L : List Res) : Res where
  foot := fun b => ∃ r ∈ L, r.foot b
  holds := fun w => ∀ r ∈ L, r.holds w
  stable := fun w w' h hh r hr => r.stable w w' (fun b hb => h b ⟨r, hr, hb⟩) (hh r hr)
  inb := fun w hh b ⟨r, hr, hb⟩ => r.inb w (hh r hr) b hb
abbrev Res.rargs (i : InstP) : Res := Res.rs i.ao i.args.length 3 (i.args.flatMap argC)
/-- instructions that are only read -/
abbrev Res.rmod (ao : Option Addr) (l : List InstP) : Res := Res.all (Res.rs ao l.length 4 (l.flatMap instC) :: l.map Res.rargs)
theorem Res.rmod_insts {ao : Option Addr} {l : List InstP} {w : World} (h : (Res.rmod ao l).holds w) : (Res.rs ao l.length 4 (l.flatMap instC)).holds w := h _ (.head _)
theorem Res.rmod_args {ao : Option Addr} {l : List InstP} {w : World} (h : (Res.rmod ao l).holds w) {i : InstP} (hi : i ∈ l) : (Res.rargs i).holds w := h _ (.tail _ (List.mem_map_of_mem hi))
theorem getD_memD {α : Type} {l : List α} {i : Nat} {d : α} (hi : i < l.length) : l.getD i d ∈ l := by
  simp only [List.getD, List.getElem?_eq_getElem hi, Option.getD_some]; exact List.getElem_mem hi
theorem Res.rmod_argsI {ao : Option Addr} {l : List InstP} {w : World} (h : (Res.rmod ao l).holds w) {i : Nat} (hi : i < l.length) : (Res.rargs (l.getD i zeroI)).holds w := Res.rmod_args h (getD_memD hi)

/-- instructions that are the call's own (Ti, Ta: the types of an instruction, an argument) -/
abbrev Res.oargs (Ta : TypeId) (i : InstP) : Res := Res.sl i.ao i.args.length i.cap Ta 3 (i.args.flatMap argC)
abbrev Res.omod (Ti Ta : TypeId) (ao : Option Addr) (cap : Nat) (l : List InstP) : Res := Res.star (Res.sl ao l.length cap Ti 4 (l.flatMap instC) :: l.map (Res.oargs Ta))
theorem Res.rmod_of_omod {Ti Ta : TypeId} {ao : Option Addr} {cap : Nat} {l : List InstP} {w : World} (h : (Res.omod Ti Ta ao cap l).holds w) : (Res.rmod ao l).holds w := by
  intro r hr
  cases hr with
  | head => exact Res.rs_of_sl (h.1 _ (.head _))
  | tail _ hr =>
    obtain ⟨i, hi, rfl⟩ := List.mem_map.1 hr
    exact Res.rs_of_sl (h.1 (Res.oargs Ta i) (.tail _ (List.mem_map_of_mem hi)))
/-- one more -/
theorem St.starSnoc {w0 w : World} {M : Nat → Prop} {X L D : List Res} {r : Res} (h : St w0 M (r :: Res.star X :: L) D w) : St w0 M (Res.star (X ++ [r]) :: L) D w := by
  have h1 : St w0 M (Res.star X :: r :: L) D w := h.perm (List.Perm.swap _ _ _)
  have h2 := h1.unpack
  refine St.pack (L1 := X ++ [r]) ?_
  rw [List.append_assoc]; exact h2
theorem St.starNil {w0 w : World} {M : Nat → Prop} {L D : List Res} (h : St w0 M L D w) : St w0 M (Res.star [] :: L) D w := St.pack (L1 := []) (by simpa using h)
theorem St.starCons {w0 w : World} {M : Nat → Prop} {X L D : List Res} {r : Res} (h : St w0 M (r :: Res.star X :: L) D w) : St w0 M (Res.star (r :: X) :: L) D w := by
  have h1 : St w0 M (Res.star X :: r :: L) D w := h.perm (List.Perm.swap _ _ _)
  have h2 : St w0 M ((X ++ [r]) ++ L) D w := by rw [List.append_assoc]; exact h1.unpack
  refine St.pack (L1 := r :: X) ?_
  exact h2.perm (List.Perm.append_right L (List.perm_append_comm.trans (List.Perm.refl _)))

/-! a list copied into zeroes -/
theorem setSeg_app (l m : List Value) : ∀ (vs : List Value) (i : Nat), setSeg (l ++ m) (l.length + i) vs = l ++ setSeg m i vs
  | [], i => rfl
  | v :: vs, i => by
    simp only [setSeg]
    rw [List.set_append_right _ _ (by omega), show l.length + i - l.length = i by omega, Nat.add_assoc, setSeg_app l _ vs (i + 1)]
theorem setSeg_front : ∀ (vs l m : List Value), l.length = vs.length → setSeg (l ++ m) 0 vs = vs ++ m
  | [], l, m, h => by rw [List.length_eq_zero_iff.1 h]; rfl
  | v :: vs, [], m, h => by cases h
  | v :: vs, x :: l, m, h => by
    simp only [List.cons_append, setSeg, List.set_cons_zero, Nat.zero_add]
    rw [show (1 : Nat) = 0 + 1 from rfl, setSeg_cons, setSeg_front vs l m (by simpa using h)]
theorem setSeg_flat {α : Type} {g : α → List Value} {es : Nat} (hg : ∀ a, (g a).length = es) (x : α) : ∀ (l : List α) (i : Nat), i < l.length → setSeg (l.flatMap g) (i * es) (g x) = (l.set i x).flatMap g
  | [], i, h => by simp at h
  | a :: l, 0, _ => by
    rw [Nat.zero_mul, List.flatMap_cons, setSeg_front _ _ _ (by rw [hg, hg]), List.set_cons_zero, List.flatMap_cons]
  | a :: l, i + 1, h => by
    rw [List.flatMap_cons, show (i + 1) * es = (g a).length + i * es by rw [hg, Nat.add_mul]; omega, setSeg_app, setSeg_flat hg x l i (by simpa using h), List.set_cons_succ, List.flatMap_cons]
def cpG {α : Type} (d : α) (l : List α) (n i : Nat) : List α := l.take i ++ List.replicate (n - i) d
theorem cpG_zero {α : Type} {g : α → List Value} {d : α} {ez : List Value} (hd : g d = ez) (l : List α) (n : Nat) : zerosOf ez n = (cpG d l n 0).flatMap g := by
  unfold cpG zerosOf
  simp only [List.take_zero, List.nil_append, Nat.sub_zero]
  induction n with
  | zero => rfl
  | succ n ih => rw [List.range_succ, List.flatMap_append, ih, List.replicate_succ', List.flatMap_append, ← hd]; simp
theorem cpG_all {α : Type} (d : α) (l : List α) : cpG d l l.length l.length = l := by simp [cpG]
theorem cpG_set {α : Type} {d : α} {l : List α} {n i : Nat} (hi : i < l.length) (hn : i < n) : (cpG d l n i).set i (l.getD i d) = cpG d l n (i + 1) := by
  unfold cpG
  have e : l.getD i d = l[i] := by simp [List.getD, hi]
  rw [e, List.set_append_right _ _ (by simp; omega), List.length_take, Nat.min_eq_left (by omega), Nat.sub_self, show n - i = (n - (i + 1)) + 1 by omega, List.replicate_succ, List.set_cons_zero, List.take_succ_eq_append_getElem hi, List.append_assoc]
  rfl
theorem cpG_step {α : Type} {g : α → List Value} {es : Nat} (hg : ∀ a, (g a).length = es) {d : α} {l : List α} {i : Nat} {x : List Value} (hi : i < l.length) (hx : x = g (l.getD i d)) : setSeg ((cpG d l l.length i).flatMap g) (0 + (i : Int).toNat * es) x = (cpG d l l.length (i + 1)).flatMap g := by
  subst hx
  rw [Nat.zero_add, Int.toNat_natCast, setSeg_flat hg _ _ _ (by simp [cpG]; omega), cpG_set hi hi]
/-- the same where what is written is not the list itself -/
theorem cpS_step {α : Type} {g : α → List Value} {es : Nat} (hg : ∀ a, (g a).length = es) {d y : α} {done : List α} {n i : Nat} {x : List Value} (hl : done.length = i) (hn : i < n) (hx : x = g y) : setSeg ((done ++ List.replicate (n - i) d).flatMap g) (0 + (i : Int).toNat * es) x = ((done ++ [y]) ++ List.replicate (n - (i + 1)) d).flatMap g := by
  subst hx
  rw [Nat.zero_add, Int.toNat_natCast, setSeg_flat hg _ _ _ (by simp; omega)]
  congr 1
  rw [List.set_append_right _ _ (by omega), hl, Nat.sub_self, show n - i = (n - (i + 1)) + 1 by omega, List.replicate_succ, List.set_cons_zero, List.append_assoc]
  rfl

/-! comparing -/
theorem list_ext_getD2 {α : Type} (d : α) {l m : List α} (hl : l.length = m.length) (h : ∀ j, j < l.length → l.getD j d = m.getD j d) : l = m := by
  apply List.ext_getElem hl
  intro j h1 h2
  have := h j h1
  simpa [List.getD, h1, h2] using this
theorem map_getD2 {α β : Type} (f : α → β) {l : List α} {j : Nat} (d : α) (h : j < l.length) : (l.map f).getD j (f d) = f (l.getD j d) := by
  simp [List.getD, h]
theorem insts_ext {l m : List InstP} (hl : l.length = m.length) (h : ∀ j, j < l.length → (l.getD j zeroI).L = (m.getD j zeroI).L) : l.map InstP.L = m.map InstP.L := by
  refine list_ext_getD2 zeroI.L (by simpa using hl) fun j hj => ?_
  simp only [List.length_map] at hj
  rw [map_getD2 _ _ hj, map_getD2 _ _ (by omega)]
  exact h j hj
theorem insts_getD {l m : List InstP} (h : l.map InstP.L = m.map InstP.L) {j : Nat} (hj : j < l.length) : (l.getD j zeroI).L = (m.getD j zeroI).L := by
  have hl : l.length = m.length := by simpa using congrArg List.length h
  have : (l.map InstP.L).getD j zeroI.L = (m.map InstP.L).getD j zeroI.L := by rw [h]
  rwa [map_getD2 _ _ hj, map_getD2 _ _ (by omega)] at this
theorem insts_len {l m : List InstP} (h : l.map InstP.L = m.map InstP.L) : l.length = m.length := by simpa using congrArg List.length h
theorem step_all {p : Nat → Prop} {i : Nat} (h : ∀ j, j < i → p j) (hi : p i) : ∀ j, j < i + 1 → p j := fun j hj => by
  by_cases e : j = i
  · rw [e]; exact hi
  · exact h j (by omega)
theorem arg_eq {a b : ArgP} : [decide (a.kind = b.kind), decide (a.n = b.n), decide (a.s = b.s)].all id = decide (a = b) := by
  cases a; cases b
  simp [ArgP.mk.injEq, Bool.and_assoc]
def sameM (g b : Int) (l : List InstP) (g' b' : Int) (l' : List InstP) : Bool := decide (g = g' ∧ b = b' ∧ l.map InstP.L = l'.map InstP.L)
theorem take_getD2 {α : Type} {l : List α} {i : Nat} {d : α} (h : i < l.length) : l.take (i + 1) = l.take i ++ [l.getD i d] := by
  rw [List.take_succ_eq_append_getElem h]; simp [List.getD, h]
theorem zeros_rep {α : Type} {g : α → List Value} {d : α} {ez : List Value} (hd : g d = ez) (n : Nat) : zerosOf ez n = (([] : List α) ++ List.replicate (n - 0) d).flatMap g := by
  rw [cpG_zero hd [] n]; simp [cpG]
theorem sameM_congr {ga ba gb bb : Int} {l l' m m' : List InstP} (h1 : l'.map InstP.L = l.map InstP.L) (h2 : m'.map InstP.L = m.map InstP.L) : sameM ga ba l' gb bb m' = sameM ga ba l gb bb m := by
  unfold sameM; rw [h1, h2]
theorem sameM_comm (ga ba gb bb : Int) (l m : List InstP) : sameM gb bb m ga ba l = sameM ga ba l gb bb m := by
  unfold sameM; rw [decide_eq_decide]
  constructor <;> rintro ⟨h1, h2, h3⟩ <;> exact ⟨h1.symm, h2.symm, h3.symm⟩
theorem sameM_self {g b : Int} {l m : List InstP} (h : l.map InstP.L = m.map InstP.L) : sameM g b l g b m = true := decide_eq_true ⟨rfl, rfl, h⟩
theorem insts_la {l m : List InstP} {N : Nat} (h : m.map InstP.L = l.map InstP.L) (hl : ∀ i ∈ l, i.args.length ≤ N) : ∀ i ∈ m, i.args.length ≤ N := fun i hi => by
  have : i.L ∈ l.map InstP.L := by rw [← h]; exact List.mem_map_of_mem hi
  obtain ⟨j, hj, he⟩ := List.mem_map.1 this
  have e := congrArg InstL.args he
  simp only at e
  rw [← e]; exact hl j hj
end Go.SK
namespace Go.SK
theorem insts_laL {l m : List InstP} (h : m.map InstP.L = l.map InstP.L) (hl : ∀ i ∈ l, i.args.length ≤ 5864062014806) : ∀ i ∈ m, i.args.length ≤ 9000000000000000000 := fun i hi => Nat.le_trans (insts_la h hl i hi) (by decide)
end Go.SK
