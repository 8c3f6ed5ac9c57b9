/-
  Slices that are only read; arguments that are slices.
-/
import Derived.Test.YtnbapjkldjhjoaaSkO
import Derived.Test.YtnbapjkldjhjoaaSkG
set_option linter.unusedVariables false
set_option linter.unusedSimpArgs false
namespace Go.SK
open Go.RowKit Go.ChangeShapes Go.WideShapes Go.ChangeAt

theorem flat_len {α : Type} {g : α → List Value} {es : Nat} (hg : ∀ a, (g a).length = es) : ∀ l : List α, (l.flatMap g).length = l.length * es
  | [] => by simp
  | a :: l => by rw [List.flatMap_cons, List.length_append, hg, flat_len hg l, List.length_cons, Nat.add_mul]; omega
theorem zerosOf_len {ez : List Value} {es : Nat} (h : ez.length = es) (k : Nat) : (zerosOf ez k).length = k * es := by
  unfold zerosOf; rw [flat_len (es := es) (fun _ => h)]; simp

/-! slices that are read only -/
/-- the slice (ao, n, cap): n elements of es cells each, their cells are xs -/
def Res.rs (ao : Option Addr) (n es : Nat) (xs : List Value) : Res where
  foot := fun b => 0 < xs.length ∧ ∃ o, ao = some ⟨b, o, none⟩
  holds := fun w => xs.length = n * es ∧ (n = 0 ∨ ∃ b o, ao = some ⟨b, o, none⟩ ∧ Cells w b o xs)
  stable := fun w w' h hh => by
    refine ⟨hh.1, ?_⟩
    rcases hh.2 with hn | ⟨b, o, rfl, hc⟩
    · exact .inl hn
    · refine .inr ⟨b, o, rfl, fun i v hi => ?_⟩
      have h0 : 0 < xs.length := by have := (List.getElem?_eq_some_iff.1 hi).1; omega
      have hb := h b ⟨h0, o, rfl⟩
      have := hc i v hi
      simpa only [World.cell?, hb] using this
  inb := fun w hh b hb => by
    obtain ⟨h0, o, rfl⟩ := hb
    rcases hh.2 with hn | ⟨b', o', he, hc⟩
    · rw [hh.1, hn] at h0; omega
    · cases he
      have := hc 0 xs[0] (by simp [h0])
      simp only [World.cell?] at this
      split at this
      · rename_i heq; exact (Array.getElem?_eq_some_iff.1 heq).1
      · cases this

section
variable {ao : Option Addr} {n cap es : Nat} {e : TypeId} {xs : List Value} {w : World}
theorem Res.rs_of_sl (h : (Res.sl ao n cap e es xs).holds w) : (Res.rs ao n es xs).holds w := by
  refine ⟨h.1, ?_⟩
  rcases h.2 with ⟨hv, h0⟩ | ⟨g, c, cur, hv, _⟩
  · exact .inl h0
  · cases hv
    exact .inr ⟨g, 0, rfl, Res.sl_cells (k := xs.length) h xs (by simp)⟩
theorem Res.rs_of_row {b : Nat} (h : (Res.row b e xs).holds w) (hl : xs.length = n * es) : (Res.rs (some ⟨b, 0, none⟩) n es xs).holds w :=
  ⟨hl, .inr ⟨b, 0, rfl, cells_of_obj (n := xs.length) h _ (by simp)⟩⟩
theorem Res.rs_some (h : (Res.rs ao n es xs).holds w) (hn : 0 < n) : ∃ b o, ao = some ⟨b, o, none⟩ := by
  rcases h.2 with h0 | ⟨b, o, rfl, _⟩
  · omega
  · exact ⟨b, o, rfl⟩
theorem Res.rs_all {b o : Nat} (h : (Res.rs (some ⟨b, o, none⟩) n es xs).holds w) : Cells w b o xs := by
  rcases h.2 with h0 | ⟨b', o', he, hc⟩
  · have : xs = [] := List.length_eq_zero_iff.1 (by rw [h.1, h0]; simp)
    subst this
    intro i v hi; simp at hi
  · cases he; exact hc
theorem Res.rs_cell {b o k : Nat} {v : Value} (h : (Res.rs (some ⟨b, o, none⟩) n es xs).holds w) (hv : xs[0 + k]? = some v) : w.cell? ⟨b, o + k, none⟩ = some v := by
  rw [Nat.zero_add] at hv; exact Res.rs_all h k v hv
theorem Res.rs_cellF {b o k f : Nat} {v : Value} (h : (Res.rs (some ⟨b, o, none⟩) n es xs).holds w) (hv : xs[0 + k + f]? = some v) : w.cell? ⟨b, o + k + f, none⟩ = some v := by
  rw [Nat.zero_add] at hv
  have := Res.rs_all h (k + f) v hv
  rwa [← Nat.add_assoc] at this
theorem Res.rs_cells {b o k m : Nat} (h : (Res.rs (some ⟨b, o, none⟩) n es xs).holds w) (vs : List Value) (hv : (xs.drop (0 + k)).take m = vs) : Cells w b (o + k) vs := by
  subst hv
  intro i v hi
  rw [List.getElem?_take] at hi
  split at hi
  · rw [List.getElem?_drop, Nat.zero_add] at hi
    have := Res.rs_all h _ _ hi
    rwa [← Nat.add_assoc] at this
  · simp at hi
end

section
variable {P : Program} {ty : TypeId} {ρ : Operand → Value} {w0 w : World} {C : Value → World → Prop} {M : Nat → Prop} {L L' D : List Res}
variable {T e : TypeId} {de : TypeDesc} {sz bytes es eb : Nat} {zs ez : List Value} {ao ao2 : Option Addr} {n cap m c : Nat} {xs ys : List Value}

theorem Op1.appendZero {x y : Operand} (hst : St w0 M L D w) (hT : TyF P T (.slice e) sz bytes zs) (he : TyF P e de es eb ez)
    (hr : Rem (Res.sl ao n cap e es xs) L L') (hx : ρ x = .slice ao n cap) (hy : ρ y = .slice ao2 0 c)
    (h : St w0 M (Res.sl ao n cap e es xs :: L') D w → C (.slice ao n cap) w) : Op1 P (.call ⟨.builtin .append, #[x, y], #[T, T]⟩) ty ρ w C := by
  have hown : w.ownsRow 0 e es (.slice ao n cap) n xs := hst.hL _ hr.mem
  have hcap : n ≤ cap := by
    rcases hown.2 with ⟨hv, h0⟩ | ⟨g, cc, cur, hv, hb0, hg, hnc, hrest⟩
    · cases hv; omega
    · cases hv; exact hnc
  refine Op1.builtin (args := [x, y]) (v := .slice ao n cap) (w' := w) (fun cs => ?_) (h (hst.front hr))
  simp only [List.map_cons, List.map_nil, hx, hy]
  cases ao <;> cases ao2 <;> simp [Go.builtin, Builtin.append_, Sem.run_bind, hT.run_und, he.run_size, Result.andThen, Builtin.lenOf, Builtin.firstCells, hcap, storeCells, loadCells, loadCellsFrom]

/-- append of a slice that is only read -/
theorem Op1.appendRs {x y : Operand} (hst : St w0 M L D w) (hT : TyF P T (.slice e) sz bytes zs) (he : TyF P e de es eb ez) (hes : Nat.ble 1 es = true) (hebs : Nat.ble 1 eb = true)
    (hr : Rem (Res.sl ao n cap e es xs) L L') (hx : ρ x = .slice ao n cap) (hy : ρ y = .slice ao2 m c) (hown : (Res.rs ao2 m es ys).holds w) (hok : ys.all okCell = true)
    (hez : ez.length = es) (hb : (n + m) * eb ≤ 140737488355328)
    (h : ∀ (w' : World) (ao' : Option Addr) (cap' : Nat), St w0 M (Res.sl ao' (n + m) cap' e es (xs ++ ys) :: L') D w' → C (.slice ao' (n + m) cap') w') :
    Op1 P (.call ⟨.builtin .append, #[x, y], #[T, T]⟩) ty ρ w C := by
  have hl : ys.length = m * es := hown.1
  by_cases hm : m = 0
  · subst hm
    have : ys = [] := List.length_eq_zero_iff.1 (by omega)
    subst this
    exact Op1.appendZero hst hT he hr hx hy fun hs => by
      have := h w ao cap (by simpa using hs)
      simpa using this
  · obtain ⟨b, o, rfl⟩ := Res.rs_some hown (by omega)
    exact Op1.append hst hT he hes hebs hr hx hy hl (Res.rs_all hown) hok hez hb h

/-- make of a length that is not known -/
theorem Op1.makeSlV {x y : Operand} {kl kc : IntKind} {k : Nat} (hst : St w0 M L D w) (hT : TyF P T (.slice e) sz bytes zs) (he : TyF P e de es eb ez) (hx : ρ x = .int kl k) (hy : ρ y = .int kc k) (hez : ez.length = es) (hes : 0 < es) (hk : eb * k ≤ 281474976710656) (hk2 : k ≤ 9223372036854775807)
    (h : ∀ (w' : World) (b : Nat), St w0 M (Res.sl (some ⟨b, 0, none⟩) k k e es (zerosOf ez k) :: L) D w' → C (.slice (some ⟨b, 0, none⟩) k k) w') : Op1 P (.makeSlice T x y) ty ρ w C := by
  obtain ⟨i, z, h1, h2, h3, h4, h5⟩ := he.info
  have hbb : (i.bytes : Int) * (k : Int) ≤ 281474976710656 := by
    rw [h3]
    have h : ((eb * k : Nat) : Int) ≤ 281474976710656 := by omega
    simpa using h
  have hr := run_make (P := P) w T e i z hT.und h1 h4 kl kc (k : Int) (k : Int) (by omega) (by omega) hbb (by omega)
  have hcells : madeCells z.cells ((k : Int).toNat * i.size) = (zerosOf ez k).toArray := by
    rw [h2, h5, Int.toNat_natCast]
    have hlen := zerosOf_len hez k
    apply Array.ext
    · simp [madeCells, hlen]
    · intro j hj1 hj2
      have hj : j < k * es := by simpa [madeCells] using hj1
      have hmod : j % es < es := Nat.mod_lt _ hes
      have hdiv : j / es < k := Nat.div_lt_of_lt_mul (by rw [Nat.mul_comm]; exact hj)
      have hg : (zerosOf ez k)[j]? = ez[j % es]? := by
        have h3 := flat_drop (α := Nat) (g := fun _ => ez) (es := es) (fun _ => hez) (List.range k) (j / es)
        have h4 : ((zerosOf ez k).drop (j / es * es))[j % es]? = ez[j % es]? := by
          unfold zerosOf
          rw [h3, List.drop_eq_getElem_cons (by simpa using hdiv), List.flatMap_cons, List.getElem?_append_left (by omega)]
        rw [List.getElem?_drop, show j / es * es + j % es = j by rw [Nat.mul_comm]; exact Nat.div_add_mod j es] at h4
        exact h4
      have hlt : j < (zerosOf ez k).length := by omega
      have h6 : (zerosOf ez k)[j] = ez[j % es]'(by omega) := by
        have e1 := List.getElem?_eq_getElem hlt
        rw [hg, List.getElem?_eq_getElem (by omega)] at e1
        exact (Option.some.inj e1).symm
      have h7 : ez[j % es]? = some (ez[j % es]'(by omega)) := List.getElem?_eq_getElem _
      simp [madeCells, hez, h6, h7]
  refine Inv.value (v := .slice (some ⟨w.heap.size, 0, none⟩) k k) (w' := w.alloc (.cells (zerosOf ez k).toArray e)) ?_ (h _ _ ?_)
  · simp only [execOp, hx, hy, Sem.run_bind, hr, Result.andThen, hcells]
    rfl
  · refine hst.push (Kept.alloc _ _ _) ?_ ?_
    · refine ⟨zerosOf_len hez k, .inr ⟨_, _, _, rfl, Nat.zero_le _, alloc_new _ _, Nat.le_refl _, by simp [maxLen]; omega, by simp [zerosOf_len hez k], ?_⟩⟩
      simp only [List.toList_toArray]
      rw [List.take_of_length_le]
      rw [zerosOf_len hez k]; exact Nat.le_refl _
    · intro b hb
      have : some w.heap.size = some b := hb
      cases this; exact Nat.le_refl _
end

/-! arguments that are slices, opened -/
theorem open_flat {H : Type} {enc : TypeId × Value → H} {P : Program} {w : World} {base : Nat} {spare : Nat → Bool} {held : Bool} {α : Type} {g : α → List Value} {good : α → Prop} {rel : α → DataW H → Prop} {t e : TypeId} {es : Nat} {v : Value} {d : DataW H} {p : List MemPlace}
    (ht : P.underlying t = some (.slice e)) (hc : P.cellsOf e = es) (hes : 0 < es) (hg : ∀ a, (g a).length = es)
    (hel : ∀ fuel cs y, DataW.trod enc P w base spare held fuel e cs = some y → ∃ a, cs = g a ∧ good a ∧ rel a y.1)
    (h : DataW.Trod enc P w base spare held t v d p) (hv : v.cells.toList = [v]) :
    ∃ (ao : Option Addr) (cap : Nat) (l : List α), v = .slice ao l.length cap ∧ l.length ≤ maxLen ∧ (∀ a ∈ l, good a) ∧ (Res.rs ao l.length es (l.flatMap g)).holds w ∧
      ((d = .nil ∧ l = []) ∨ ∃ elems sp, d = .slice elems sp ∧ elems.length = l.length ∧ ∀ (i : Nat) (a : α) (y : DataW H), l[i]? = some a → elems[i]? = some y → rel a y) := by
  obtain ⟨fuel, hf⟩ := h
  rw [hv] at hf
  rcases DataW.trod_slice ht hf with ⟨h0, hx⟩ | ⟨a, len, cap, elems, rest, n, _, hcs, hx, hb, hl, hm, hlen, hel2, _⟩
  · simp only [List.cons.injEq, and_true] at h0
    subst h0
    refine ⟨none, 0, [], rfl, Nat.zero_le _, by simp, ⟨by simp, .inl rfl⟩, .inl ⟨?_, rfl⟩⟩
    exact congrArg Prod.fst hx
  · simp only [List.cons.injEq, and_true] at hcs
    subst hcs
    have each : ∀ i : Nat, i < len → ∃ x y, elems[i]? = some y ∧ w.cells? base (a.add (i * es)) es = some (g x) ∧ good x ∧ rel x y.1 := fun i hi => by
      have h1 := hel2 i hi
      rw [hc] at h1
      have hy : elems[i]? = some (elems[i]'(by omega)) := List.getElem?_eq_getElem _
      rw [hy, Option.bind_eq_some_iff] at h1
      obtain ⟨cs, h2, h3⟩ := h1
      obtain ⟨x, rfl, h4, h5⟩ := hel _ _ _ h3
      exact ⟨x, _, hy, h2, h4, h5⟩
    -- the elements as a list
    have build : ∀ k, k ≤ len → ∃ l : List α, l.length = k ∧ ∀ i x, l[i]? = some x → ∃ y, elems[i]? = some y ∧ w.cells? base (a.add (i * es)) es = some (g x) ∧ good x ∧ rel x y.1 := by
      intro k
      induction k with
      | zero => exact fun _ => ⟨[], rfl, fun i x hi => by simp at hi⟩
      | succ k ih =>
        intro hk
        obtain ⟨l, h1, h2⟩ := ih (by omega)
        obtain ⟨x, y, h3⟩ := each k (by omega)
        refine ⟨l ++ [x], by simp [h1], fun i z hi => ?_⟩
        by_cases hik : i < k
        · rw [List.getElem?_append_left (by omega)] at hi; exact h2 i z hi
        · have : i = k := by have := (List.getElem?_eq_some_iff.1 hi).1; simp [h1] at this; omega
          subst this
          rw [List.getElem?_append_right (by omega), h1, Nat.sub_self] at hi
          simp at hi
          subst hi
          exact ⟨y, h3⟩
    obtain ⟨l, h1, h2⟩ := build len (Nat.le_refl _)
    subst h1
    refine ⟨some a, cap, l, rfl, Nat.le_trans hl hm, fun x hx => ?_, ⟨flat_len hg l, ?_⟩, .inr ⟨_, _, congrArg Prod.fst hx, by simpa using hlen, fun i x y hx hy => ?_⟩⟩
    · obtain ⟨i, hi⟩ := List.getElem?_of_mem hx
      obtain ⟨y, _, _, h3, _⟩ := h2 i x hi
      exact h3
    · by_cases h0 : l.length = 0
      · exact .inl h0
      · right
        have hcell : ∀ (j : Nat) u, (l.flatMap g)[j]? = some u → w.cell? (a.add j) = some u := fun j u hj => by
          have hjl : j < l.length * es := by have := (List.getElem?_eq_some_iff.1 hj).1; rwa [flat_len hg] at this
          have hdiv : j / es < l.length := Nat.div_lt_of_lt_mul (by rw [Nat.mul_comm]; exact hjl)
          have hmod : j % es < es := Nat.mod_lt _ hes
          obtain ⟨y, _, h4, _⟩ := h2 (j / es) l[j / es] (List.getElem?_eq_getElem hdiv)
          have h5 := (World.cells?_some h4).2.2 (j % es) hmod
          have h6 : (g l[j / es])[j % es]? = some u := by
            have hs := flat_drop hg l (j / es)
            have : ((l.flatMap g).drop (j / es * es))[j % es]? = some u := by
              rw [List.getElem?_drop]
              rw [show j / es * es + j % es = j by rw [Nat.mul_comm]; exact Nat.div_add_mod j es]
              exact hj
            rw [hs, List.drop_eq_getElem_cons hdiv, List.flatMap_cons, List.getElem?_append_left (by rw [hg]; exact hmod)] at this
            exact this
          rw [h6] at h5
          have hadd : (a.add (j / es * es)).add (j % es) = a.add j := by
            have hje : j / es * es + j % es = j := by rw [Nat.mul_comm]; exact Nat.div_add_mod j es
            unfold Addr.add
            by_cases e1 : j / es * es = 0
            · rw [if_pos e1, show j % es = j by omega]
            · rw [if_neg e1]
              by_cases e2 : j % es = 0
              · rw [if_pos e2, if_neg (by omega), show j / es * es = j by omega]
              · rw [if_neg e2, if_neg (by omega)]
                simp only [Addr.mk.injEq, and_true, true_and]
                omega
          rw [hadd] at h5
          exact h5
        have hpos : 0 < (l.flatMap g).length := by
          rw [flat_len hg]
          exact Nat.mul_pos (by omega) hes
        have hspot : a.spot = none := by
          have := hcell 0 _ (List.getElem?_eq_getElem hpos)
          rw [show a.add 0 = a from rfl] at this
          simp only [World.cell?] at this
          split at this
          · split at this
            · cases this
            · rename_i hs; simpa using hs
          · cases this
        obtain ⟨b, o, sp⟩ := a
        simp only at hspot
        subst hspot
        refine ⟨b, o, rfl, fun j u hj => ?_⟩
        have := hcell j u hj
        rwa [addr_add] at this
    · obtain ⟨y', h3, _, _, h4⟩ := h2 i x hx
      rw [List.getElem?_map, h3] at hy
      simp at hy
      subst hy
      exact h4
end Go.SK
