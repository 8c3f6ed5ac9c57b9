/-
  Operations on memory.
-/
import Derived.Test.YtnbapjkldjhjoaaSkB
set_option linter.unusedVariables false
set_option linter.unusedSimpArgs false
namespace Go.SK
open Go.RowKit

/-! what is known of a type -/
structure TyF (P : Program) (T : TypeId) (d : TypeDesc) (sz bytes : Nat) (zs : List Value) : Prop where
  info : ∃ i z, P.info? T = some i ∧ i.size = sz ∧ i.bytes = bytes ∧ i.zero = some z ∧ z.cells = zs.toArray
  und : P.underlying T = some d

def aggB : TypeDesc → Bool
  | .struct _ | .array _ _ => true
  | _ => false

section
variable {P : Program} {T : TypeId} {d : TypeDesc} {sz bytes : Nat} {zs : List Value} {w : World}

theorem TyF.run_und (h : TyF P T d sz bytes zs) (w : World) : (underlying T).run P w = .ok d w := run_underlying h.und w
theorem TyF.run_size (h : TyF P T d sz bytes zs) (w : World) : (sizeOf T).run P w = .ok sz w := by
  obtain ⟨i, z, h1, h2, h3, h4, h5⟩ := h.info
  simp [sizeOf, typeInfo, h1, h2]
theorem TyF.run_bytes (h : TyF P T d sz bytes zs) (w : World) : ∃ i z, (typeInfo T).run P w = .ok i w ∧ i.size = sz ∧ i.bytes = bytes ∧ i.zero = some z ∧ z.cells = zs.toArray := by
  obtain ⟨i, z, h1, h2, h3, h4, h5⟩ := h.info
  exact ⟨i, z, by simp [typeInfo, h1], h2, h3, h4, h5⟩
theorem TyF.run_zero (h : TyF P T d sz bytes zs) (w : World) : ∃ z, (zeroValue T).run P w = .ok z w ∧ z.cells = zs.toArray := by
  obtain ⟨i, z, h1, h2, h3, h4, h5⟩ := h.info
  exact ⟨z, by simp [zeroValue, typeInfo, h1, h4], h5⟩
theorem TyF.run_isAgg (h : TyF P T d sz bytes zs) (w : World) : (isAgg T).run P w = .ok (aggB d) w := by
  simp only [isAgg, Sem.run_bind, h.run_und, Result.andThen]
  cases d <;> rfl
end

theorem addr_add (b off n : Nat) : (⟨b, off, none⟩ : Addr).add n = ⟨b, off + n, none⟩ := by
  unfold Addr.add; split <;> simp_all

/-! cells -/
theorem St.cellL {w0 w : World} {M : Nat → Prop} {L D : List Res} {b : Nat} {T : TypeId} {l : List Value} {fr : Nat × Nat} {off : Nat} {v : Value} (h : St w0 M L D w)
    (hm : Res.obj b (.cells l.toArray T fr) ∈ L) (hv : l[off]? = some v) : w.cell? ⟨b, off, none⟩ = some v := by
  have := h.hL _ hm
  simp only [Res.obj] at this
  simp [World.cell?, this, hv]
theorem St.cellD {w0 w : World} {M : Nat → Prop} {L D : List Res} {b : Nat} {T : TypeId} {l : List Value} {fr : Nat × Nat} {off : Nat} {v : Value} (h : St w0 M L D w)
    (hm : Res.obj b (.cells l.toArray T fr) ∈ D) (hv : l[off]? = some v) : w.cell? ⟨b, off, none⟩ = some v := by
  have := h.hD _ hm
  simp only [Res.obj] at this
  simp [World.cell?, this, hv]

theorem St.objL {w0 w : World} {M : Nat → Prop} {L D : List Res} {b : Nat} {o : Obj} (h : St w0 M L D w) (hm : Res.obj b o ∈ L) : w.heap[b]? = some o := h.hL _ hm
theorem St.objD {w0 w : World} {M : Nat → Prop} {L D : List Res} {b : Nat} {o : Obj} (h : St w0 M L D w) (hm : Res.obj b o ∈ D) : w.heap[b]? = some o := h.hD _ hm

/-- n cells from off on -/
def Cells (w : World) (b off : Nat) (vs : List Value) : Prop := ∀ i v, vs[i]? = some v → w.cell? ⟨b, off + i, none⟩ = some v

theorem cells_of_obj {w : World} {b off n : Nat} {T : TypeId} {l : List Value} {fr : Nat × Nat} (h : w.heap[b]? = some (.cells l.toArray T fr)) (vs : List Value) (hv : (l.drop off).take n = vs) :
    Cells w b off vs := by
  subst hv
  intro i v hi
  rw [List.getElem?_take] at hi
  split at hi
  · rw [List.getElem?_drop] at hi
    simp [World.cell?, h, hi]
  · simp at hi

theorem run_loadCellsFrom {P : Program} {w : World} {b off : Nat} : ∀ (vs : List Value) (i : Nat) (acc : Array Value), (∀ j v, vs[j]? = some v → w.cell? ⟨b, off + (i + j), none⟩ = some v) →
    (loadCellsFrom ⟨b, off, none⟩ i vs.length acc).run P w = .ok (acc ++ vs.toArray) w
  | [], i, acc, h => by simp [loadCellsFrom]
  | v :: vs, i, acc, h => by
    have h0 : w.cell? ⟨b, off + i, none⟩ = some v := by simpa using h 0 v (by simp)
    have ih := run_loadCellsFrom (P := P) vs (i + 1) (acc.push v) (fun j u hj => by
      have := h (j + 1) u (by simpa using hj)
      rw [show i + 1 + j = i + (j + 1) by omega]; exact this)
    simp only [List.length_cons, loadCellsFrom, Sem.run_bind, addr_add]
    have hl : (load ⟨b, off + i, none⟩).run P w = .ok v w := by simp [load, Sem.run, h0]
    rw [hl]
    simp only [Result.andThen]
    rw [ih]
    simp

theorem run_loadCells {P : Program} {w : World} {b off : Nat} {vs : List Value} (h : Cells w b off vs) : (loadCells ⟨b, off, none⟩ vs.length).run P w = .ok vs.toArray w := by
  have := run_loadCellsFrom (P := P) (w := w) (b := b) (off := off) vs 0 #[] (fun j v hj => by simpa using h j v hj)
  simpa [loadCells] using this

theorem run_loadVar1 {P : Program} {T : TypeId} {d : TypeDesc} {sz bytes : Nat} {zs : List Value} {w : World} {a : Addr} {v : Value} (hT : TyF P T d sz bytes zs) (hd : aggB d = false) (hc : w.cell? a = some v) :
    (loadVar T a).run P w = .ok v w := by
  simp only [loadVar, Sem.run_bind, hT.run_isAgg, hd, Result.andThen]
  simp [load, Sem.run, hc]
theorem run_loadVarA {P : Program} {T : TypeId} {d : TypeDesc} {sz bytes : Nat} {zs : List Value} {w : World} {b off : Nat} {vs : List Value} (hT : TyF P T d sz bytes zs) (hd : aggB d = true)
    (hn : vs.length = sz) (hc : Cells w b off vs) : (loadVar T ⟨b, off, none⟩).run P w = .ok (.agg vs.toArray) w := by
  subst hn
  simp only [loadVar, Sem.run_bind, hT.run_isAgg, hd, Result.andThen, if_true, hT.run_size, run_loadCells hc]
  rfl

theorem RV.cell1 {P : Program} {n : Nat} {f : Nat → Value} {w : World} {p : Tmp} {T : TypeId} {d : TypeDesc} {sz bytes : Nat} {zs : List Value} {a : Addr} {v : Value} (hp : ev n f (.tmp p) = .pointer (some a))
    (hT : TyF P T d sz bytes zs) (hd : aggB d = false) (hc : w.cell? a = some v) : RV P n f w (.cell p T) v := by
  simp only [RV, rvSem, tm_getD, hp, Sem.run_bind]
  simp [asAddr, run_loadVar1 hT hd hc]
theorem RV.cellA {P : Program} {n : Nat} {f : Nat → Value} {w : World} {p : Tmp} {T : TypeId} {d : TypeDesc} {sz bytes : Nat} {zs : List Value} {b off : Nat} {vs : List Value} (hp : ev n f (.tmp p) = .pointer (some ⟨b, off, none⟩))
    (hT : TyF P T d sz bytes zs) (hd : aggB d = true) (hn : vs.length = sz) (hc : Cells w b off vs) : RV P n f w (.cell p T) (.agg vs.toArray) := by
  simp only [RV, rvSem, tm_getD, hp, Sem.run_bind]
  simp [asAddr, run_loadVarA hT hd hn hc]

/-! lists, a segment put in -/
def setSeg (l : List Value) (off : Nat) : List Value → List Value
  | [] => l
  | v :: vs => setSeg (l.set off v) (off + 1) vs

theorem setSeg_length (l : List Value) (off : Nat) (vs : List Value) : (setSeg l off vs).length = l.length := by
  induction vs generalizing l off with
  | nil => rfl
  | cons v vs ih => simp [setSeg, ih]

inductive Put : List Value → Nat → List Value → List Value → Prop
  | nil {l : List Value} {n : Nat} : Put l n [] l
  | put {x v : Value} {l vs l' : List Value} : Put l 0 vs l' → Put (x :: l) 0 (v :: vs) (v :: l')
  | skip {x : Value} {n : Nat} {l vs l' : List Value} : Put l n vs l' → Put (x :: l) (n + 1) vs (x :: l')

theorem setSeg_cons (x : Value) (l : List Value) (n : Nat) (vs : List Value) : setSeg (x :: l) (n + 1) vs = x :: setSeg l n vs := by
  induction vs generalizing l n with
  | nil => rfl
  | cons v vs ih => simp [setSeg, ih]

theorem Put.eq {l vs l' : List Value} {n : Nat} (h : Put l n vs l') : setSeg l n vs = l' ∧ (n + vs.length ≤ l.length ∨ vs = []) := by
  induction h with
  | nil => exact ⟨rfl, .inr rfl⟩
  | @put x v l vs l' h ih =>
    refine ⟨?_, ?_⟩
    · simp only [setSeg, List.set_cons_zero, Nat.zero_add]
      rw [show (1 : Nat) = 0 + 1 from rfl, setSeg_cons, ih.1]
    · left
      rcases ih.2 with h | h
      · simp at h ⊢; omega
      · subst h; simp
  | @skip x n l vs l' h ih =>
    refine ⟨by rw [setSeg_cons, ih.1], ih.2.imp (fun h => by simp; omega) id⟩

/-! stores -/
def okCell : Value → Bool
  | .agg _ | .tuple _ => false
  | _ => true

theorem setCell_row {w : World} {b off : Nat} {T : TypeId} {l : List Value} (v : Value) (h : w.heap[b]? = some (.cells l.toArray T (0, 0))) :
    (w.setCell ⟨b, off, none⟩ v).heap[b]? = some (.cells (l.set off v).toArray T (0, 0)) ∧ Kept (· = b) w (w.setCell ⟨b, off, none⟩ v) := by
  refine ⟨?_, ⟨rfl, rfl, rfl, by simp [World.setCell], fun c hc hne => ?_⟩⟩
  · simp [World.setCell, Array.getElem?_modify, h]
  · simp only [World.setCell, Array.getElem?_modify]
    rw [if_neg (fun e => hne e.symm)]

theorem run_storeCells {P : Program} {b : Nat} {T : TypeId} {off : Nat} : ∀ (vs : List Value) (i : Nat) (l : List Value) (w : World), vs.all okCell = true → off + i + vs.length ≤ l.length →
    w.heap[b]? = some (.cells l.toArray T (0, 0)) →
    ∃ w', (storeCells ⟨b, off, none⟩ vs i).run P w = .ok () w' ∧ w'.heap[b]? = some (.cells (setSeg l (off + i) vs).toArray T (0, 0)) ∧ Kept (· = b) w w'
  | [], i, l, w, _, _, h => ⟨w, by simp [storeCells], h, Kept.refl _ _⟩
  | v :: vs, i, l, w, hok, hl, h => by
    simp only [List.length_cons] at hl
    simp only [List.all_cons, Bool.and_eq_true] at hok
    obtain ⟨h1, h2⟩ := setCell_row (off := off + i) v h
    have hc : w.cell? ⟨b, off + i, none⟩ = some l[off + i] := by simp [World.cell?, h]
    have hfz : w.frozen? ⟨b, off + i, none⟩ = false := by simp [World.frozen?, h]
    obtain ⟨w', hr, hb, hk⟩ := run_storeCells (P := P) (off := off) vs (i + 1) (l.set (off + i) v) _ hok.2 (by rw [List.length_set]; omega) h1
    refine ⟨w', ?_, by simpa [setSeg, Nat.add_assoc] using hb, h2.trans hk (fun _ _ h => h)⟩
    simp only [storeCells, Sem.run_bind, addr_add]
    have hs : (store ⟨b, off + i, none⟩ v).run P w = .ok () (w.setCell ⟨b, off + i, none⟩ v) := by
      have := hok.1
      cases v <;> simp [okCell] at this <;> simp [store, Sem.run, hc, hfz]
    rw [hs]
    exact hr

theorem run_storeVar {P : Program} {T T' : TypeId} {d : TypeDesc} {sz bytes : Nat} {zs : List Value} {w : World} {b off : Nat} {l vs : List Value} {v : Value} (hT : TyF P T d sz bytes zs)
    (hv : v.cells = vs.toArray) (hn : vs.length = sz) (hok : vs.all okCell = true) (h : w.heap[b]? = some (.cells l.toArray T' (0, 0))) (hl : vs = [] ∨ off + vs.length ≤ l.length) :
    ∃ w', (storeVar T ⟨b, off, none⟩ v).run P w = .ok () w' ∧ w'.heap[b]? = some (.cells (setSeg l off vs).toArray T' (0, 0)) ∧ Kept (· = b) w w' := by
  rcases hl with rfl | hl
  · refine ⟨w, ?_, h, Kept.refl _ _⟩
    have : v.cells.size = sz := by rw [hv, ← hn]; simp
    simp only [storeVar, Sem.run_bind, hT.run_size, Result.andThen, this]
    simp [hv, storeCells]
  · obtain ⟨w', hr, hb, hk⟩ := run_storeCells (P := P) (b := b) (T := T') (off := off) vs 0 l w hok (by omega) h
    refine ⟨w', ?_, by simpa using hb, hk⟩
    have : v.cells.size = sz := by rw [hv, ← hn]; simp
    simp only [storeVar, Sem.run_bind, hT.run_size, Result.andThen, this]
    simp [hv, hr]

theorem alloc_new (w : World) (o : Obj) : (w.alloc o).heap[w.heap.size]? = some o := by
  show (w.heap.push o)[w.heap.size]? = some o
  simp

/-! operations on memory -/
section
variable {P : Program} {ty : TypeId} {ρ : Operand → Value} {w0 w : World} {C : Value → World → Prop} {M : Nat → Prop} {L L' D : List Res}
variable {T T' : TypeId} {d : TypeDesc} {sz bytes : Nat} {zs : List Value}

theorem Op1.alloc (hst : St w0 M L D w) (hT : TyF P T d sz bytes zs) (h : ∀ (w' : World) (b : Nat), St w0 M (Res.row b T zs :: L) D w' → C (.pointer (some ⟨b, 0, none⟩)) w') : Op1 P (.alloc T) ty ρ w C := by
  obtain ⟨z, hz, hzs⟩ := hT.run_zero w
  refine Inv.value (v := .pointer (some ⟨w.heap.size, 0, none⟩)) (w' := w.alloc (.cells z.cells T)) ?_ (h _ _ ?_)
  · simp [execOp, Instr.alloc, Sem.run_bind, hz, newVar, newRow, Result.andThen]
  · refine hst.push (Kept.alloc _ _ _) ?_ ?_
    · simp only [Res.obj]; rw [alloc_new, hzs]
    · intro b hb; exact Nat.le_of_eq hb.symm

theorem Op1.box {x : Operand} {v : Value} {vs : List Value} (hst : St w0 M L D w) (hx : ρ x = v) (hv : v.cells = vs.toArray) (h : ∀ (w' : World) (b : Nat), St w0 M (Res.row b T vs :: L) D w' → C (.pointer (some ⟨b, 0, none⟩)) w') :
    Op1 P (.box T x) ty ρ w C := by
  refine Inv.value (v := .pointer (some ⟨w.heap.size, 0, none⟩)) (w' := w.alloc (.cells v.cells T)) ?_ (h _ _ ?_)
  · simp [execOp, Instr.box, hx, newVar, newRow, Result.andThen]
  · refine hst.push (Kept.alloc _ _ _) ?_ ?_
    · simp only [Res.obj]; rw [alloc_new, hv]
    · intro b hb; exact Nat.le_of_eq hb.symm

theorem Op1.load1 {x : Operand} {a : Addr} {v : Value} (hT : TyF P T d sz bytes zs) (hd : aggB d = false) (hx : ρ x = .pointer (some a)) (hc : w.cell? a = some v) (h : C v w) : Op1 P (.load T x) ty ρ w C :=
  Inv.value (by simp [execOp, Instr.loadAt, hx, Instr.sureAddr, run_loadVar1 hT hd hc]) h
theorem Op1.loadA {x : Operand} {b off : Nat} {vs : List Value} (hT : TyF P T d sz bytes zs) (hd : aggB d = true) (hx : ρ x = .pointer (some ⟨b, off, none⟩)) (hn : vs.length = sz) (hc : Cells w b off vs) (h : C (.agg vs.toArray) w) :
    Op1 P (.load T x) ty ρ w C :=
  Inv.value (by simp [execOp, Instr.loadAt, hx, Instr.sureAddr, run_loadVarA hT hd hn hc]) h

theorem Op1.store {x y : Operand} {b off : Nat} {v : Value} {l vs l' : List Value} (hst : St w0 M L D w) (hT : TyF P T d sz bytes zs) (hx : ρ x = .pointer (some ⟨b, off, none⟩)) (hy : ρ y = v) (hv : v.cells = vs.toArray)
    (hn : vs.length = sz) (hok : vs.all okCell = true) (hs : Sel (Res.row b T' l) (Res.row b T' l') L L') (hp : Put l off vs l') (h : ∀ w' : World, St w0 M L' D w' → C undef w') : Op1 P (.store T x y) ty ρ w C := by
  have hb := hst.hL _ hs.mem
  simp only [Res.obj] at hb
  obtain ⟨w', hr, hb', hk⟩ := run_storeVar (P := P) (T' := T') (off := off) (l := l) hT hv hn hok hb (hp.eq.2.symm)
  refine Inv.skip (w' := w') ?_ (h w' (hst.upd hs hk ?_ (fun c hc => .inl hc)))
  · simp [execOp, Instr.storeAt, hx, hy, Instr.sureAddr, hr]
  · simpa [Res.obj, hp.eq.1] using hb'
/-- the same where the place is computed -/
theorem Op1.storeAt {x y : Operand} {b off : Nat} {v : Value} {l vs : List Value} (hst : St w0 M L D w) (hT : TyF P T d sz bytes zs) (hx : ρ x = .pointer (some ⟨b, off, none⟩)) (hy : ρ y = v) (hv : v.cells = vs.toArray)
    (hn : vs.length = sz) (hok : vs.all okCell = true) (hs : Sel (Res.row b T' l) (Res.row b T' (setSeg l off vs)) L L') (hl : off + vs.length ≤ l.length) (h : ∀ w' : World, St w0 M L' D w' → C undef w') : Op1 P (.store T x y) ty ρ w C := by
  have hb := hst.hL _ hs.mem
  simp only [Res.obj] at hb
  obtain ⟨w', hr, hb', hk⟩ := run_storeVar (P := P) (T' := T') (off := off) (l := l) hT hv hn hok hb (.inr hl)
  refine Inv.skip (w' := w') ?_ (h w' (hst.upd hs hk (by simpa [Res.obj] using hb') (fun c hc => .inl hc)))
  simp [execOp, Instr.storeAt, hx, hy, Instr.sureAddr, hr]

/-- field i of struct S lies at o -/
def FldF (P : Program) (S i o : Nat) : Prop := ∃ fs fd inf, P.underlying S = some (.struct fs) ∧ fs[i]? = some fd ∧ fd.offset = o ∧ P.info? fd.type = some inf ∧ inf.size ≠ 0

theorem Op1.fieldAddr {S i o : Nat} {x : Operand} {b off : Nat} (hf : FldF P S i o) (hx : ρ x = .pointer (some ⟨b, off, none⟩)) (h : C (.pointer (some ⟨b, off + o, none⟩)) w) : Op1 P (.fieldAddr S x i) ty ρ w C := by
  obtain ⟨fs, fd, inf, h1, h2, rfl, h4, h5⟩ := hf
  refine Inv.value (v := .pointer (some ⟨b, off + fd.offset, none⟩)) (w' := w) ?_ h
  simp [execOp, Instr.fieldAt, hx, Sem.run_bind, run_underlying h1, h2, Instr.sureAddr, fieldPlace, sizeOf, typeInfo, h4, h5, addr_add, Result.andThen]

theorem Op1.indexArr {e : TypeId} {de : TypeDesc} {es eb : Nat} {ez : List Value} {n : Nat} {x y : Operand} {b off : Nat} {k : IntKind} {i : Int} (hT : TyF P T (.array n e) sz bytes zs) (he : TyF P e de es eb ez)
    (hx : ρ x = .pointer (some ⟨b, off, none⟩)) (hy : ρ y = .int k i) (h0 : 0 ≤ i) (h1 : i < n) (h : C (.pointer (some ⟨b, off + i.toNat * es, none⟩)) w) : Op1 P (.indexAddr T x y) ty ρ w C := by
  refine Inv.value (v := .pointer (some ⟨b, off + i.toNat * es, none⟩)) (w' := w) ?_ h
  simp [execOp, Instr.indexAt, hx, hy, asIntOf, Sem.run_bind, hT.run_und, Instr.sureAddr, he.run_size, addr_add, Result.andThen, h0, h1]

theorem Op1.indexSl {e : TypeId} {de : TypeDesc} {es eb : Nat} {ez : List Value} {x y : Operand} {b off len cap : Nat} {k : IntKind} {i : Int} (hT : TyF P T (.slice e) sz bytes zs) (he : TyF P e de es eb ez)
    (hx : ρ x = .slice (some ⟨b, off, none⟩) len cap) (hy : ρ y = .int k i) (h0 : 0 ≤ i) (h1 : i < len) (h : C (.pointer (some ⟨b, off + i.toNat * es, none⟩)) w) : Op1 P (.indexAddr T x y) ty ρ w C := by
  refine Inv.value (v := .pointer (some ⟨b, off + i.toNat * es, none⟩)) (w' := w) ?_ h
  simp [execOp, Instr.indexAt, hx, hy, asIntOf, Sem.run_bind, hT.run_und, Instr.sureAddr, he.run_size, addr_add, Result.andThen, h0, h1]

/-! build -/
inductive Fills (ρ : Operand → Value) (place : Nat → Option (Nat × Nat)) : List Value → List (Nat × Operand) → List Value → Prop
  | nil {l : List Value} : Fills ρ place l [] l
  | cons {l vs l1 l' : List Value} {i : Nat} {x : Operand} {off size : Nat} {v : Value} {rest : List (Nat × Operand)} (hp : place i = some (off, size)) (hx : ρ x = v) (hv : v.cells = vs.toArray) (hn : vs.length = size) (hs : Nat.ble 1 size = true) (hput : Put l off vs l1)
      (h : Fills ρ place l1 rest l') : Fills ρ place l ((i, x) :: rest) l'

theorem foldl_seg : ∀ (vs : List Value) (l : List Value) (off k : Nat), (vs.zipIdx k).foldl (fun (cs : Array Value) (p : Value × Nat) => cs.setIfInBounds (off + p.2) p.1) l.toArray = (setSeg l (off + k) vs).toArray
  | [], l, off, k => rfl
  | v :: vs, l, off, k => by
    simp only [List.zipIdx_cons, List.foldl_cons, List.setIfInBounds_toArray, setSeg]
    exact foldl_seg vs _ off (k + 1)

theorem Fills.fill {place : Nat → Option (Nat × Nat)} {l l' : List Value} {parts : List (Nat × Operand)} (h : Fills ρ place l parts l') : Instr.fill place l.toArray (parts.map fun p => (p.1, ρ p.2)) = some l'.toArray := by
  induction h with
  | nil => rfl
  | @cons l vs l1 l' i x off size v rest hp hx hv hn hs hput h ih =>
    have h2 := hput.eq
    have hf : (vs.toArray.zipIdx).foldl (fun (cs : Array Value) (p : Value × Nat) => cs.setIfInBounds (off + p.2) p.1) l.toArray = l1.toArray := by
      rw [← h2.1]
      have := foldl_seg vs l off 0
      simpa [← Array.foldl_toList] using this
    simp only [List.map_cons, Instr.fill, hp, hx, hv]
    rw [if_neg]
    · rw [← ih, ← hf]
    · rcases h2.2 with h | h
      · simp; omega
      · subst h; simp at hn; subst hn; simp at hs


theorem Fills.build {place : Nat → Option (Nat × Nat)} {l l' : List Value} {parts : List (Nat × Operand)} (h : Fills ρ place l parts l') :
    Instr.fill place l.toArray (parts.toArray.map fun p => (p.1, ρ p.2)).toList = some l'.toArray := by
  have := h.fill
  simpa using this

/-- where the parts of an array lie -/
def arrPlace (es : Nat) : Nat → Option (Nat × Nat) := fun i => some (i * es, es)

theorem Op1.buildArr {e : TypeId} {de : TypeDesc} {es eb : Nat} {ez : List Value} {n : Nat} {parts : List (Nat × Operand)} {l' : List Value} (hT : TyF P T (.array n e) sz bytes zs) (he : TyF P e de es eb ez)
    (hf : Fills ρ (arrPlace es) zs parts l') (h : C (.agg l'.toArray) w) : Op1 P (.build T parts.toArray) ty ρ w C := by
  obtain ⟨z, hz, hzs⟩ := hT.run_zero w
  have hb := hf.build
  have hr : (Instr.build T (parts.toArray.map fun p => (p.1, ρ p.2))).run P w = .ok (.agg l'.toArray) w := by
    unfold Instr.build
    simp only [Sem.run_bind, hz, Result.andThen, hT.run_und, he.run_size, hzs]
    unfold arrPlace at hb
    rw [hb]
    rfl
  refine Inv.value (v := .agg l'.toArray) (w' := w) ?_ h
  simp only [execOp, Sem.run_bind]
  rw [hr]
  rfl

/-- where the fields of a struct lie -/
def StructF (P : Program) (S : TypeId) (pl : List (Nat × Nat)) : Prop :=
  ∃ fs : Array Field, P.underlying S = some (.struct fs) ∧ ∀ w : World, (fs.mapM fun f => do pure (f.offset, ← sizeOf f.type) : Sem (Array (Nat × Nat))).run P w = .ok pl.toArray w

theorem Op1.buildStruct {pl : List (Nat × Nat)} {parts : List (Nat × Operand)} {l' : List Value} (hT : TyF P T d sz bytes zs) (hS : StructF P T pl)
    (hf : Fills ρ (fun i => pl[i]?) zs parts l') (h : C (.agg l'.toArray) w) : Op1 P (.build T parts.toArray) ty ρ w C := by
  obtain ⟨z, hz, hzs⟩ := hT.run_zero w
  obtain ⟨fs, h1, h2⟩ := hS
  have hb := hf.build
  have hr : (Instr.build T (parts.toArray.map fun p => (p.1, ρ p.2))).run P w = .ok (.agg l'.toArray) w := by
    unfold Instr.build
    simp only [Sem.run_bind, hz, Result.andThen, run_underlying h1, hzs]
    have e := h2 w
    rw [e]
    simp only [List.getElem?_toArray]
    rw [hb]
    rfl
  refine Inv.value (v := .agg l'.toArray) (w' := w) ?_ h
  simp only [execOp, Sem.run_bind]
  rw [hr]
  rfl
end
end Go.SK
