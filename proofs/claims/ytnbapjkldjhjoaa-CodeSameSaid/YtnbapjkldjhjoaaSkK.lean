/-
  Slices that the call made.
-/
import Derived.Test.YtnbapjkldjhjoaaSkJ
import Derived.Laws.MakeOwn
import Derived.ArgAppend
set_option linter.unusedVariables false
set_option linter.unusedSimpArgs false
namespace Go.SK
open Go.RowKit

/-! slices that the call made -/
/-- the slice (ao, n, cap) of elements of type e, es cells each, is the call's own: its cells are xs -/
def Res.sl (ao : Option Addr) (n cap : Nat) (e : TypeId) (es : Nat) (xs : List Value) : Res where
  foot := fun b => (Value.slice ao n cap).ownBlock = some b
  holds := fun w => w.ownsRow 0 e es (.slice ao n cap) n xs
  stable := fun w w' h hh => by
    refine ⟨hh.1, ?_⟩
    rcases hh.2 with hn | ⟨g, c, cur, hv, hb, hg, rest⟩
    · exact .inl hn
    · refine .inr ⟨g, c, cur, hv, hb, ?_, rest⟩
      rw [h g (by rw [hv]; rfl)]; exact hg
  inb := fun w hh b hb => (hh.lt b hb).2

section
variable {P : Program} {ty : TypeId} {ρ : Operand → Value} {w0 w : World} {C : Value → World → Prop} {M : Nat → Prop} {L L' D : List Res}
variable {T e : TypeId} {de : TypeDesc} {d : TypeDesc} {sz bytes es eb : Nat} {zs ez : List Value} {ao : Option Addr} {n cap : Nat} {xs : List Value}

theorem St.pushNil (h : St w0 M L D w) (e : TypeId) (es : Nat) : St w0 M (Res.sl none 0 0 e es [] :: L) D w :=
  h.push (Kept.refl _ _) (World.ownsRow_nil _ _ _ _) (fun b hb => by cases hb)

theorem Res.sl_some (h : (Res.sl ao n cap e es xs).holds w) (hn : 0 < n) : ∃ b, ao = some ⟨b, 0, none⟩ := by
  rcases h.2 with ⟨_, h0⟩ | ⟨g, c, cur, hv, _⟩
  · omega
  · cases hv; exact ⟨g, rfl⟩
theorem Res.sl_len (h : (Res.sl ao n cap e es xs).holds w) : xs.length = n * es := h.1
theorem Res.sl_cells {b off k : Nat} (h : (Res.sl (some ⟨b, 0, none⟩) n cap e es xs).holds w) (vs : List Value) (hv : (xs.drop off).take k = vs) : Cells w b off vs := by
  subst hv
  intro i v hi
  rw [List.getElem?_take] at hi
  split at hi
  · rw [List.getElem?_drop] at hi
    have := h.cells (g := b) rfl _ _ hi
    rwa [addr_add, Nat.zero_add] at this
  · simp at hi
theorem Res.sl_cell {b off : Nat} {v : Value} (h : (Res.sl (some ⟨b, 0, none⟩) n cap e es xs).holds w) (hv : xs[off]? = some v) : w.cell? ⟨b, off, none⟩ = some v := by
  have := h.cells (g := b) rfl _ _ hv
  rwa [addr_add, Nat.zero_add] at this

theorem maxLen_eq : maxLen = 9223372036854775807 := by simp [maxLen]

theorem oneCell_ok {v : Value} (h : okCell v = true) : v.oneCell' = true := by
  cases v <;> first | rfl | simp [okCell] at h

/-- append: what it gives is the call's own -/
theorem Op1.append {x y : Operand} {b o m c : Nat} {news : List Value} (hst : St w0 M L D w) (hT : TyF P T (.slice e) sz bytes zs) (he : TyF P e de es eb ez) (hes : Nat.ble 1 es = true) (hebs : Nat.ble 1 eb = true)
    (hr : Rem (Res.sl ao n cap e es xs) L L') (hx : ρ x = .slice ao n cap) (hy : ρ y = .slice (some ⟨b, o, none⟩) m c) (hl : news.length = m * es) (hc : Cells w b o news) (hok : news.all okCell = true)
    (hez : ez.length = es) (hb : (n + m) * eb ≤ 140737488355328)
    (h : ∀ (w' : World) (ao' : Option Addr) (cap' : Nat), St w0 M (Res.sl ao' (n + m) cap' e es (xs ++ news) :: L') D w' → C (.slice ao' (n + m) cap') w') :
    Op1 P (.call ⟨.builtin .append, #[x, y], #[T, T]⟩) ty ρ w C := by
  obtain ⟨i, z, h1, h2, h3, h4, h5⟩ := he.info
  have hown : w.ownsRow 0 e es (.slice ao n cap) n xs := hst.hL _ hr.mem
  have hes' : 0 < es := Nat.le_of_ble_eq_true hes
  have hebs' : 0 < eb := Nat.le_of_ble_eq_true hebs
  have hnm : n + m ≤ (n + m) * eb := Nat.le_mul_of_pos_right _ hebs'
  have hcell : ∀ j u, news[j]? = some u → w.cell? ((⟨b, o, none⟩ : Addr).add j) = some u := fun j u hj => by rw [addr_add]; exact hc j u hj
  have h1c : ∀ u ∈ news, u.oneCell' = true := fun u hu => oneCell_ok (List.all_eq_true.1 hok u hu)
  have hzs : z.cells.size = es := by rw [h5]; simpa using hez
  have key : ∃ v' w', (Builtin.append_ #[T, T] ty #[.slice ao n cap, .slice (some ⟨b, o, none⟩) m c]).run P w = .ok v' w' ∧ w'.ownsRow 0 e es v' (n + m) (xs ++ news) ∧ w.grownBy w' (Value.slice ao n cap).ownBlock ∧
      ∀ k, v'.ownBlock = some k → (Value.slice ao n cap).ownBlock = some k ∨ w.heap.size ≤ k := by
    rcases hown.2 with ⟨hv, h0⟩ | ⟨g, cc, cur, hv, hb0, hg, hnc, hcm, hcs, htake⟩
    · obtain ⟨v', w', r1, r2, r3, _⟩ := run_append_own w w.heap.size T ty e i z es eb hT.und h1 h4 h2 h3 hzs hes' (.slice ao n cap) n xs ⟨hown.1, .inl ⟨hv, h0⟩⟩ ⟨b, o, none⟩ m c news hl hcell h1c (by rw [maxLen_eq]; omega) hb (Nat.le_refl _)
      exact ⟨v', w', r1, ⟨r2.1, r2.2.imp id fun ⟨g, cc, cur, e1, _, e2⟩ => ⟨g, cc, cur, e1, Nat.zero_le _, e2⟩⟩, r3, fun k hk => .inr (r2.lt k hk).1⟩
    · cases hv
      by_cases hroom : n + m ≤ cap
      · obtain ⟨v', w', r1, r2, r3, _⟩ := run_append_own w 0 T ty e i z es eb hT.und h1 h4 h2 h3 hzs hes' _ n xs hown ⟨b, o, none⟩ m c news hl hcell h1c (by rw [maxLen_eq]; omega) hb (Nat.zero_le _)
        have r4 := run_append_room (P := P) w T ty e i hT.und h1 g n cap cur hg ⟨b, o, none⟩ m c news (by rw [h2]; exact hl) hcell h1c hroom (by rw [h2, hl, hcs, ← Nat.add_mul]; exact Nat.mul_le_mul_right _ hroom)
        rw [r1] at r4
        injection r4 with e1 e2
        refine ⟨v', w', r1, r2, r3, fun k hk => .inl ?_⟩
        rw [e1] at hk
        exact hk
      · obtain ⟨v', w', r1, r2, r3⟩ := run_append_arg_grows (P := P) w T ty e i z es eb hT.und h1 h4 h2 h3 hzs hes' ⟨g, 0, none⟩ n cap xs hown.1 (hown.cells (g := g) rfl) ⟨b, o, none⟩ m c news hl hcell (by omega) (by rw [maxLen_eq]; omega) hb
        exact ⟨v', w', r1, ⟨r2.1, r2.2.imp id fun ⟨g, cc, cur, e1, _, e2⟩ => ⟨g, cc, cur, e1, Nat.zero_le _, e2⟩⟩, ⟨r3.os, r3.tape, r3.output, r3.size, fun k hk _ => r3.block k hk (by simp)⟩, fun k hk => .inr (r2.lt k hk).1⟩
  obtain ⟨v', w', hrun, hown', hg, hblk⟩ := key
  have hshape : ∃ ao' cap', v' = .slice ao' (n + m) cap' := by
    rcases hown'.2 with ⟨hv, h0⟩ | ⟨g, cc, cur, hv, _⟩
    · exact ⟨none, 0, by rw [hv, h0]⟩
    · exact ⟨_, _, hv⟩
  obtain ⟨ao', cap', rfl⟩ := hshape
  refine Op1.builtin (args := [x, y]) (v := .slice ao' (n + m) cap') (w' := w') (fun cs => ?_) (h w' ao' cap' ?_)
  · simp only [List.map_cons, List.map_nil, hx, hy]
    simp [Go.builtin, hrun]
  · exact (hst.front hr).upd .here ⟨hg.os, hg.tape, hg.output, hg.size, fun k hk hne => hg.block k hk (fun e => hne e.symm)⟩ hown' hblk

theorem flat_drop {α : Type} {g : α → List Value} {es : Nat} (hg : ∀ a, (g a).length = es) : ∀ (l : List α) (i : Nat), (l.flatMap g).drop (i * es) = (l.drop i).flatMap g
  | l, 0 => by simp
  | [], i + 1 => by simp
  | a :: l, i + 1 => by
    rw [List.flatMap_cons, List.drop_succ_cons, ← flat_drop hg l i, show (i + 1) * es = (g a).length + i * es by rw [hg]; grind, List.drop_append]
    simp
theorem flat_seg {α : Type} {g : α → List Value} {d : α} {es : Nat} (hg : ∀ a, (g a).length = es) (l : List α) (i : Nat) (h : i < l.length) : ((l.flatMap g).drop (0 + i * es)).take es = g (l.getD i d) := by
  rw [Nat.zero_add, flat_drop hg]
  have : l.drop i = l.getD i d :: l.drop (i + 1) := by
    rw [List.drop_eq_getElem_cons h]; simp [List.getD, h]
  rw [this, List.flatMap_cons, List.take_append_of_le_length (by rw [hg]; exact Nat.le_refl _), List.take_of_length_le (by rw [hg]; exact Nat.le_refl _)]
theorem flat_cell {α : Type} {g : α → List Value} {d : α} {es : Nat} {v : Value} (hg : ∀ a, (g a).length = es) {l : List α} {i o : Nat} (hv : (g (l.getD i d))[o]? = some v) (h : i < l.length) : (l.flatMap g)[0 + i * es + o]? = some v := by
  have h1 := flat_seg (d := d) hg l i h
  rw [← h1, List.getElem?_take] at hv
  split at hv
  · rw [List.getElem?_drop] at hv; exact hv
  · cases hv
theorem flat_cell0 {α : Type} {g : α → List Value} {d : α} {es : Nat} {v : Value} (hg : ∀ a, (g a).length = es) {l : List α} {i : Nat} (hv : (g (l.getD i d))[0]? = some v) (h : i < l.length) : (l.flatMap g)[0 + i * es]? = some v :=
  flat_cell (o := 0) hg hv h
theorem Res.sl_snoc {α : Type} (g : α → List Value) (ao : Option Addr) (cap : Nat) (e : TypeId) (es : Nat) (l : List α) (a : α) : Res.sl ao (l.length + 1) cap e es (l.flatMap g ++ g a) = Res.sl ao (l ++ [a]).length cap e es ((l ++ [a]).flatMap g) := by
  simp

/-- n copies of a type's zero cells -/
def zerosOf (zs : List Value) (n : Nat) : List Value := (List.range n).flatMap fun _ => zs

theorem Op1.buildSl {parts : List (Nat × Operand)} {z0 l' : List Value} {k : Nat} (hst : St w0 M L D w) (hT : TyF P T (.slice e) sz bytes zs) (he : TyF P e de es eb ez) (hk : Nat.ble (k * es) 16777216 = true) (hp : Nat.ble 1 (k * es) = true)
    (hz : (Array.range (k * es)).map (fun j => ez.toArray[j % ez.toArray.size]!) = z0.toArray) (hf : Fills ρ (arrPlace es) z0 parts l')
    (h : ∀ (w' : World) (b : Nat), St w0 M (Res.row b e l' :: L) D w' → C (.slice (some ⟨b, 0, none⟩) k k) w') : Op1 P (.buildSlice T k parts.toArray) ty ρ w C := by
  obtain ⟨z, hzz, hzs⟩ := he.run_zero w
  have hb := hf.build
  have hk' := Nat.le_of_ble_eq_true hk
  have hp' := Nat.le_of_ble_eq_true hp
  have hr : (Instr.buildSlice T k (parts.toArray.map fun p => (p.1, ρ p.2))).run P w = .ok (.slice (some ⟨w.heap.size, 0, none⟩) k k) (w.alloc (.cells l'.toArray e)) := by
    unfold Instr.buildSlice
    simp only [Sem.run_bind, hT.run_und, Result.andThen, he.run_size]
    rw [if_neg (by omega), if_neg (by omega)]
    simp only [Sem.run_bind, hzz, Result.andThen, Sem.run_pure, hzs, hz]
    unfold arrPlace at hb
    rw [hb]
    simp [newRow, Result.andThen]
  refine Inv.value (v := .slice (some ⟨w.heap.size, 0, none⟩) k k) (w' := w.alloc (.cells l'.toArray e)) ?_ (h _ _ ?_)
  · simp only [execOp, Sem.run_bind]
    rw [hr]
    rfl
  · refine hst.push (Kept.alloc _ _ _) ?_ ?_
    · simp only [Res.obj]; rw [alloc_new]
    · intro b hb; exact Nat.le_of_eq hb.symm

theorem Op1.makeSl {x y : Operand} {z0 : List Value} {kl kc : IntKind} {k : Nat} (hst : St w0 M L D w) (hT : TyF P T (.slice e) sz bytes zs) (he : TyF P e de es eb ez) (hx : ρ x = .int kl k) (hy : ρ y = .int kc k) (hk : Nat.ble (eb * k) 281474976710656 = true) (hk2 : Nat.ble k 9223372036854775807 = true)
    (hz : (Array.range (k * es)).map (fun j => ez.toArray[j % ez.toArray.size]!) = z0.toArray)
    (h : ∀ (w' : World) (b : Nat), St w0 M (Res.row b e z0 :: L) D w' → C (.slice (some ⟨b, 0, none⟩) k k) w') : Op1 P (.makeSlice T x y) ty ρ w C := by
  obtain ⟨i, z, h1, h2, h3, h4, h5⟩ := he.info
  have hk' := Nat.le_of_ble_eq_true hk
  have hk2' := Nat.le_of_ble_eq_true hk2
  have hbb : (i.bytes : Int) * (k : Int) ≤ 281474976710656 := by
    rw [h3]
    have h : ((eb * k : Nat) : Int) ≤ 281474976710656 := by omega
    simpa using h
  have hr := run_make (P := P) w T e i z hT.und h1 h4 kl kc (k : Int) (k : Int) (by omega) (by omega) hbb (by omega)
  refine Inv.value (v := .slice (some ⟨w.heap.size, 0, none⟩) k k) (w' := w.alloc (.cells z0.toArray e)) ?_ (h _ _ ?_)
  · simp only [execOp, hx, hy, Sem.run_bind, hr, Result.andThen]
    have : madeCells z.cells ((k : Int).toNat * i.size) = z0.toArray := by rw [← hz, h2, h5]; rfl
    rw [this]; rfl
  · refine hst.push (Kept.alloc _ _ _) ?_ ?_
    · simp only [Res.obj]; rw [alloc_new]
    · intro b hb; exact Nat.le_of_eq hb.symm

theorem setSeg_take (n : Nat) : ∀ (vs l : List Value) (off : Nat), (setSeg l off vs).take n = setSeg (l.take n) off vs
  | [], l, off => rfl
  | v :: vs, l, off => by
    simp only [setSeg]
    rw [setSeg_take n vs _ (off + 1), List.take_set]
theorem Op1.storeSl {x y : Operand} {b off : Nat} {v : Value} {vs : List Value} (hst : St w0 M L D w) (hT : TyF P T d sz bytes zs) (hx : ρ x = .pointer (some ⟨b, off, none⟩)) (hy : ρ y = v) (hv : v.cells = vs.toArray)
    (hn : vs.length = sz) (hok : vs.all okCell = true) (hs : Sel (Res.sl (some ⟨b, 0, none⟩) n cap e es xs) (Res.sl (some ⟨b, 0, none⟩) n cap e es (setSeg xs off vs)) L L') (hl : off + vs.length ≤ n * es)
    (h : ∀ w' : World, St w0 M L' D w' → C undef w') : Op1 P (.store T x y) ty ρ w C := by
  have hh : w.ownsRow 0 e es (.slice (some ⟨b, 0, none⟩) n cap) n xs := hst.hL _ hs.mem
  have hlen := hh.1
  rcases hh.2 with ⟨hv0, _⟩ | ⟨g, cc, cur, hv0, hb0, hg, hnc, hcm, hcs, htake⟩
  · cases hv0
  · cases hv0
    have hcur : n * es ≤ cur.size := by rw [hcs]; exact Nat.mul_le_mul_right _ hnc
    obtain ⟨w', hr, hb', hk⟩ := run_storeVar (P := P) (T' := e) (off := off) (l := cur.toList) hT hv hn hok (by simpa using hg) (.inr (by simp only [Array.length_toList]; omega))
    refine Inv.skip (w' := w') ?_ (h w' (hst.upd hs ?_ ?_ (fun c hc => .inl hc)))
    · simp [execOp, Instr.storeAt, hx, hy, Instr.sureAddr, hr]
    · exact hk.mono fun c _ hc => by subst hc; rfl
    · refine ⟨by rw [setSeg_length]; exact hlen, .inr ⟨_, _, _, rfl, Nat.zero_le _, hb', hnc, hcm, ?_, ?_⟩⟩
      · simp [setSeg_length, hcs]
      · simp only [List.toList_toArray]
        rw [setSeg_take, htake]

/-- the rest of an array -/
theorem Op1.sliceArrFrom {x y : Operand} {b off k : Nat} {kk : IntKind} {a : Int} (hT : TyF P T (.array k e) sz bytes zs) (he : TyF P e de es eb ez) (hx : ρ x = .pointer (some ⟨b, off, none⟩)) (hy : ρ y = .int kk a) (h0 : 0 ≤ a) (h1 : a < k)
    (h : C (.slice (some ⟨b, off + a.toNat * es, none⟩) (k - a.toNat) (k - a.toNat)) w) : Op1 P (.slice T x (some y) none none) ty ρ w C := by
  refine Op1.of (v := .slice (some ⟨b, off + a.toNat * es, none⟩) (k - a.toNat) (k - a.toNat)) (w' := w) ?_ h
  have ha : a ≤ (k : Int) := by omega
  have hne : ¬ k = a.toNat := by omega
  simp [execOp, Instr.sliceAt, Instr.sliceBounds, Instr.sliceBound, asIntOf, hx, hy, Instr.sureAddr, Sem.run_bind, hT.run_und, he.run_size, Result.andThen, h0, ha, hne, addr_add]

theorem Op1.shrI {x y : Operand} {T T2 : TypeId} {k k2 : IntKind} {a c : Int} {s : Int} (hx : ρ x = .int k a) (hy : ρ y = .int k2 s) (h0 : 0 ≤ s) (hs : s.toNat ≤ k.bits) (hc : a / 2 ^ s.toNat = c) (h : C (.int k c) w) : Op1 P (.binOp .shr T x y T2) ty ρ w C := by
  have hn : ¬ s < 0 := by omega
  refine Inv.value (v := .int k c) (w' := w) ?_ h
  have hr : (binOp .shr T (.int k a) (.int k2 s)).run P w = .ok (.int k c) w := by
    have hp : (0 : Int) ≤ 2 ^ s.toNat := Int.le_of_lt (Int.pow_pos (by omega))
    simp only [binOp, Op.shift, hn, if_false, Nat.min_eq_left hs]
    simp [← hc, Int.fdiv_eq_ediv_of_nonneg _ hp]
  simp only [execOp, hx, hy]
  simp [eqGuard, hr]
end
end Go.SK
