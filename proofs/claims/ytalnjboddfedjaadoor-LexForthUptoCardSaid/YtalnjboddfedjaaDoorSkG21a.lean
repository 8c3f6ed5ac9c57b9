/-
  Steps of functions, plain law, and walks of functions: what the laws rest on.
-/
import Derived.Test.YtalnjboddfedjaaDoorSkG0b
import Derived.Test.YtalnjboddfedjaaDoorSkG1a
import Derived.Test.YtalnjboddfedjaaDoorSkG2a
import Derived.Test.YtalnjboddfedjaaDoorSkG5a
import Derived.Test.YtalnjboddfedjaaDoorSkG6a
import Derived.Test.YtalnjboddfedjaaDoorSkG14a
set_option linter.unusedVariables false
set_option linter.unusedSimpArgs false
set_option linter.unusedSectionVars false
namespace Go.SK
open Go.RowKit Go.ChangeShapes Go.WideShapes Go.ChangeAt
theorem open_flat {H : Type} {enc : TypeId × Value → H} {P : Program} {w : World} {base : Nat} {spare : Nat → Bool} {held : Bool} {α : Type} {g : α → List Value} {good : α → Prop} {rel : α → DataW H → Prop} {t e : TypeId} {es : Nat} {v : Value} {d : DataW H} {p : List MemPlace}
    (ht : P.underlying t = some (.slice e)) (hc : P.cellsOf e = es) (hes : 0 < es) (hg : ∀ a, (g a).length = es)
    (hel : ∀ fuel cs y, DataW.trod enc P w base spare held fuel e cs = some y → ∃ a, cs = g a ∧ good a ∧ rel a y.1)
    (h : DataW.Trod enc P w base spare held t v d p) (hv : v.cells.toList = [v]) :
    ∃ (ao : Option Addr) (cap : Nat) (l : List α), v = .slice ao l.length cap ∧ l.length ≤ maxLen ∧ (∀ a ∈ l, good a) ∧ (Res.rs ao l.length es (l.flatMap g)).holds w ∧
      ((d = .nil ∧ l = []) ∨ ∃ elems sp, d = .slice elems sp ∧ elems.length = l.length ∧ ∀ (i : Nat) (a : α) (y : DataW H), l[i]? = some a → elems[i]? = some y → rel a y) := by
  obtain ⟨fuel, hf⟩ := h
  rw [hv] at hf
  rcases DataW.trod_slice ht hf with ⟨h0, hx⟩ | ⟨a, len, cap, elems, rest, n, _, hcs, hx, hb, hl, hm, hlen, hel2, _⟩
  · simp only [List.cons.injEq, and_true] at h0
    subst h0
    refine ⟨none, 0, [], rfl, Nat.zero_le _, by simp, ⟨by simp, .inl rfl⟩, .inl ⟨?_, rfl⟩⟩
    exact congrArg Prod.fst hx
  · simp only [List.cons.injEq, and_true] at hcs
    subst hcs
    have each : ∀ i : Nat, i < len → ∃ x y, elems[i]? = some y ∧ w.cells? base (a.add (i * es)) es = some (g x) ∧ good x ∧ rel x y.1 := fun i hi => by
      have h1 := hel2 i hi
      rw [hc] at h1
      have hy : elems[i]? = some (elems[i]'(by omega)) := List.getElem?_eq_getElem _
      rw [hy, Option.bind_eq_some_iff] at h1
      obtain ⟨cs, h2, h3⟩ := h1
      obtain ⟨x, rfl, h4, h5⟩ := hel _ _ _ h3
      exact ⟨x, _, hy, h2, h4, h5⟩
    have build : ∀ k, k ≤ len → ∃ l : List α, l.length = k ∧ ∀ i x, l[i]? = some x → ∃ y, elems[i]? = some y ∧ w.cells? base (a.add (i * es)) es = some (g x) ∧ good x ∧ rel x y.1 := by
      intro k
      induction k with
      | zero => exact fun _ => ⟨[], rfl, fun i x hi => by simp at hi⟩
      | succ k ih =>
        intro hk
        obtain ⟨l, h1, h2⟩ := ih (by omega)
        obtain ⟨x, y, h3⟩ := each k (by omega)
        refine ⟨l ++ [x], by simp [h1], fun i z hi => ?_⟩
        by_cases hik : i < k
        · rw [List.getElem?_append_left (by omega)] at hi; exact h2 i z hi
        · have : i = k := by have := (List.getElem?_eq_some_iff.1 hi).1; simp [h1] at this; omega
          subst this
          rw [List.getElem?_append_right (by omega), h1, Nat.sub_self] at hi
          simp at hi
          subst hi
          exact ⟨y, h3⟩
    obtain ⟨l, h1, h2⟩ := build len (Nat.le_refl _)
    subst h1
    refine ⟨some a, cap, l, rfl, Nat.le_trans hl hm, fun x hx => ?_, ⟨flat_len hg l, ?_⟩, .inr ⟨_, _, congrArg Prod.fst hx, by simpa using hlen, fun i x y hx hy => ?_⟩⟩
    · obtain ⟨i, hi⟩ := List.getElem?_of_mem hx
      obtain ⟨y, _, _, h3, _⟩ := h2 i x hi
      exact h3
    · by_cases h0 : l.length = 0
      · exact .inl h0
      · right
        have hcell : ∀ (j : Nat) u, (l.flatMap g)[j]? = some u → w.cell? (a.add j) = some u := fun j u hj => by
          have hjl : j < l.length * es := by have := (List.getElem?_eq_some_iff.1 hj).1; rwa [flat_len hg] at this
          have hdiv : j / es < l.length := Nat.div_lt_of_lt_mul (by rw [Nat.mul_comm]; exact hjl)
          have hmod : j % es < es := Nat.mod_lt _ hes
          obtain ⟨y, _, h4, _⟩ := h2 (j / es) l[j / es] (List.getElem?_eq_getElem hdiv)
          have h5 := (World.cells?_some h4).2.2 (j % es) hmod
          have h6 : (g l[j / es])[j % es]? = some u := by
            have hs := flat_drop hg l (j / es)
            have : ((l.flatMap g).drop (j / es * es))[j % es]? = some u := by
              rw [List.getElem?_drop]
              rw [show j / es * es + j % es = j by rw [Nat.mul_comm]; exact Nat.div_add_mod j es]
              exact hj
            rw [hs, List.drop_eq_getElem_cons hdiv, List.flatMap_cons, List.getElem?_append_left (by rw [hg]; exact hmod)] at this
            exact this
          rw [h6] at h5
          have hadd : (a.add (j / es * es)).add (j % es) = a.add j := by
            have hje : j / es * es + j % es = j := by rw [Nat.mul_comm]; exact Nat.div_add_mod j es
            unfold Addr.add
            by_cases e1 : j / es * es = 0
            · rw [if_pos e1, show j % es = j by omega]
            · rw [if_neg e1]
              by_cases e2 : j % es = 0
              · rw [if_pos e2, if_neg (by omega), show j / es * es = j by omega]
              · rw [if_neg e2, if_neg (by omega)]
                simp only [Addr.mk.injEq, and_true, true_and]
                omega
          rw [hadd] at h5
          exact h5
        have hpos : 0 < (l.flatMap g).length := by
          rw [flat_len hg]
          exact Nat.mul_pos (by omega) hes
        have hspot : a.spot = none := by
          have := hcell 0 _ (List.getElem?_eq_getElem hpos)
          rw [show a.add 0 = a from rfl] at this
          simp only [World.cell?] at this
          split at this
          · split at this
            · cases this
            · rename_i hs; simpa using hs
          · cases this
        obtain ⟨b, o, sp⟩ := a
        simp only at hspot
        subst hspot
        refine ⟨b, o, rfl, fun j u hj => ?_⟩
        have := hcell j u hj
        rwa [addr_add] at this
    · obtain ⟨y', h3, _, _, h4⟩ := h2 i x hx
      rw [List.getElem?_map, h3] at hy
      simp at hy
      subst hy
      exact h4
end Go.SK
namespace Go.SK
open Go.RowKit Go.ChangeShapes Go.WideShapes Go.ChangeAt
theorem slice_cells {P : Program} {w : World} {r : Reach} {base : Nat} {t e : TypeId} {v : Value} (h : Value.okWide P w r base t v) (hu : P.underlying t = some (.slice e)) : v.cells.toList = [v] := by
  simp only [Value.okWide, hu, Cell.okWide, Cell.ok] at h
  cases v <;> first | rfl | (simp at h)
end Go.SK
namespace Go.SK
open Go.RowKit Go.ChangeShapes Go.WideShapes Go.ChangeAt
abbrev argC (a : ArgP) : List Value := [.int .u8 a.kind, .int .u32 a.n, str a.s]
abbrev Res.rargs (i : InstP) : Res := Res.rs i.ao i.args.length 3 (i.args.flatMap argC)
end Go.SK
namespace Go.SK
open Go.RowKit Go.ChangeShapes Go.WideShapes Go.ChangeAt
section
variable {H : Type} {enc : TypeId × Value → H} {P : Program} {w : World} {base : Nat} {spare : Nat → Bool} {held : Bool} {M I A : TypeId}
theorem trod_struct3 {t : TypeId} {f0 f1 f2 : Field} {fuel : Nat} {cs : List Value} {x : DataW H × List MemPlace} (ht : P.underlying t = some (.struct #[f0, f1, f2])) (h : DataW.trod enc P w base spare held fuel t cs = some x) :
    ∃ y0 y1 y2 n, x.1 = .agg [y0.1, y1.1, y2.1] ∧ cs.length = P.cellsOf t ∧ DataW.trod enc P w base spare held n f0.type ((cs.drop f0.offset).take (P.cellsOf f0.type)) = some y0 ∧
      DataW.trod enc P w base spare held n f1.type ((cs.drop f1.offset).take (P.cellsOf f1.type)) = some y1 ∧ DataW.trod enc P w base spare held n f2.type ((cs.drop f2.offset).take (P.cellsOf f2.type)) = some y2 := by
  obtain ⟨xs, n, _, rfl, hl, hlen, hf⟩ := DataW.trod_struct ht h
  match xs, hlen with
  | [y0, y1, y2], _ => exact ⟨y0, y1, y2, n, rfl, hl, by simpa using hf 0 f0 rfl, by simpa using hf 1 f1 rfl, by simpa using hf 2 f2 rfl⟩
theorem list3 {α : Type} {l : List α} (h : l.length = 3) : ∃ a b c, l = [a, b, c] := by
  match l, h with
  | [a, b, c], _ => exact ⟨a, b, c, rfl⟩
def ArgP.good (a : ArgP) : Prop := (0 ≤ a.kind ∧ a.kind ≤ 255) ∧ (0 ≤ a.n ∧ a.n ≤ 4294967295)
def InstP.good (w : World) (i : InstP) : Prop := (0 ≤ i.op ∧ i.op ≤ 65535) ∧ (0 ≤ i.ty ∧ i.ty ≤ 4294967295) ∧ (0 ≤ i.res ∧ i.res ≤ 4294967295) ∧ (∀ a ∈ i.args, a.good) ∧ (Res.rargs i).holds w
end
end Go.SK
namespace Go.SK
open Go Go.Proofs Go.RowKit Go.ChangeShapes Go.WideShapes Go.ChangeAt
open Go.Proofs.YtalnjboddfedjaaDoor
def relT {H : Type} (t : TokL) (d : DataW H) : Prop := d = .agg [.lit (.int .u8 t.kind), .lit (.string t.text), .lit (.int .i64 t.at_)]
theorem open_tok {H : Type} {enc : TypeId × Value → H} {w : World} {base : Nat} {spare : Nat → Bool} {held : Bool} : ∀ fuel cs (y : DataW H × List MemPlace), DataW.trod enc Tryd.prog w base spare held fuel 30 cs = some y → ∃ a : TokL, cs = tokC a ∧ True ∧ relT a y.1 := fun fuel cs y h => by
 obtain ⟨y0, y1, y2, n, hy, hl, h0, h1, h2⟩ := trod_struct3 Tryd.underlying30 h
 have hl3 : cs.length = 3 := hl.trans (by kernel_rfl)
 obtain ⟨c0, c1, c2, rfl⟩ := list3 hl3
 rw [show Tryd.prog.cellsOf 5 = 1 by kernel_rfl] at h0
 rw [show Tryd.prog.cellsOf 9 = 1 by kernel_rfl] at h1
 rw [show Tryd.prog.cellsOf 3 = 1 by kernel_rfl] at h2
 obtain ⟨k, e0, rfl, w0⟩ := DataW.trod_int Tryd.underlying5 h0
 obtain ⟨s, e1, rfl, w1⟩ := DataW.trod_string Tryd.underlying9 h1
 obtain ⟨m, e2, rfl, w2⟩ := DataW.trod_int Tryd.underlying3 h2
 simp only [List.drop_zero, List.drop_succ_cons, List.take_succ_cons, List.take_zero, List.cons.injEq, and_true] at e0 e1 e2
 subst e0; subst e1; subst e2
 exact ⟨⟨k, s.data.toList, m⟩, by rw [tokC, str_of s], trivial, hy⟩
theorem toks_bulk {H : Type} : ∀ (l : List TokL) (elems : List (DataW H)), elems.length = l.length → (∀ (i : Nat) (a : TokL) (y : DataW H), l[i]? = some a → elems[i]? = some y → relT a y) → l.length ≤ Rows.uptoBulkAll elems ∧ wsz l ≤ 4 * Rows.uptoBulkAll elems
 | [], _, _, _ => ⟨Nat.zero_le _, Nat.zero_le _⟩
 | t :: l, [], h, _ => by simp at h
 | t :: l, d :: ds, h, hr => by
   have ih := toks_bulk l ds (by simpa using h) (fun i a y h1 h2 => hr (i + 1) a y (by simpa using h1) (by simpa using h2))
   have e : d = _ := hr 0 t d rfl rfl
   have hb : Rows.uptoBulk d = t.text.length + 4 := by rw [e]; simp only [Rows.uptoBulk, Rows.uptoBulkAll]; omega
   rw [Rows.uptoBulkAll, hb, List.length_cons, wsz]
   omega
theorem open_toks {H : Type} {enc : TypeId × Value → H} {w : World} {base : Nat} {spare : Nat → Bool} {held : Bool} {v : Value} {d : DataW H} {p : List MemPlace} (h : DataW.Trod enc Tryd.prog w base spare held 22 v d p) (hv : v.cells.toList = [v]) :
   ∃ (ao : Option Addr) (cap : Nat) (l : List TokL), v = .slice ao l.length cap ∧ (Res.rs ao l.length 3 (l.flatMap tokC)).holds w ∧ l.length ≤ Rows.uptoBulk d ∧ wsz l ≤ 4 * Rows.uptoBulk d := by
 obtain ⟨ao, cap, l, rfl, hb, hg, hR, hr⟩ := open_flat (g := tokC) (good := fun _ => True) (rel := relT) (es := 3) Tryd.underlying22 (by kernel_rfl) (by decide) tokC_len open_tok h hv
 refine ⟨ao, cap, l, rfl, hR, ?_⟩
 rcases hr with ⟨_, rfl⟩ | ⟨elems, sp, rfl, hl, he⟩
 · exact ⟨Nat.zero_le _, Nat.zero_le _⟩
 · have := toks_bulk l elems hl he
   rw [Rows.uptoBulk]; omega
end Go.SK
