/-
  Steps of functions, plain law, and walks of functions: what the laws rest on.
-/
import Derived.Test.YtoodfjpigminkaaSkG0d
import Derived.Test.YtoodfjpigminkaaSkG1a
import Derived.Test.YtoodfjpigminkaaSkG3a
import Derived.Test.YtoodfjpigminkaaSkG4a
set_option linter.unusedVariables false
set_option linter.unusedSimpArgs false
set_option linter.unusedSectionVars false
namespace Go.SK
open Go.RowKit
theorem str_of (s : ByteArray) : Value.string s = str s.data.toList := by cases s; simp [str]
end Go.SK
namespace Go.SK
open Go.RowKit Go.ChangeShapes Go.WideShapes Go.ChangeAt
section
variable {H : Type} {enc : TypeId × Value → H} {P : Program} {w : World} {base : Nat} {spare : Nat → Bool} {held : Bool} {M I A : TypeId}
theorem trod_struct3 {t : TypeId} {f0 f1 f2 : Field} {fuel : Nat} {cs : List Value} {x : DataW H × List MemPlace} (ht : P.underlying t = some (.struct #[f0, f1, f2])) (h : DataW.trod enc P w base spare held fuel t cs = some x) :
    ∃ y0 y1 y2 n, x.1 = .agg [y0.1, y1.1, y2.1] ∧ cs.length = P.cellsOf t ∧ DataW.trod enc P w base spare held n f0.type ((cs.drop f0.offset).take (P.cellsOf f0.type)) = some y0 ∧
      DataW.trod enc P w base spare held n f1.type ((cs.drop f1.offset).take (P.cellsOf f1.type)) = some y1 ∧ DataW.trod enc P w base spare held n f2.type ((cs.drop f2.offset).take (P.cellsOf f2.type)) = some y2 := by
  obtain ⟨xs, n, _, rfl, hl, hlen, hf⟩ := DataW.trod_struct ht h
  match xs, hlen with
  | [y0, y1, y2], _ => exact ⟨y0, y1, y2, n, rfl, hl, by simpa using hf 0 f0 rfl, by simpa using hf 1 f1 rfl, by simpa using hf 2 f2 rfl⟩
theorem trod_struct4 {t : TypeId} {f0 f1 f2 f3 : Field} {fuel : Nat} {cs : List Value} {x : DataW H × List MemPlace} (ht : P.underlying t = some (.struct #[f0, f1, f2, f3])) (h : DataW.trod enc P w base spare held fuel t cs = some x) :
    ∃ y0 y1 y2 y3 n, x.1 = .agg [y0.1, y1.1, y2.1, y3.1] ∧ cs.length = P.cellsOf t ∧ DataW.trod enc P w base spare held n f0.type ((cs.drop f0.offset).take (P.cellsOf f0.type)) = some y0 ∧
      DataW.trod enc P w base spare held n f1.type ((cs.drop f1.offset).take (P.cellsOf f1.type)) = some y1 ∧ DataW.trod enc P w base spare held n f2.type ((cs.drop f2.offset).take (P.cellsOf f2.type)) = some y2 ∧
      DataW.trod enc P w base spare held n f3.type ((cs.drop f3.offset).take (P.cellsOf f3.type)) = some y3 := by
  obtain ⟨xs, n, _, rfl, hl, hlen, hf⟩ := DataW.trod_struct ht h
  match xs, hlen with
  | [y0, y1, y2, y3], _ => exact ⟨y0, y1, y2, y3, n, rfl, hl, by simpa using hf 0 f0 rfl, by simpa using hf 1 f1 rfl, by simpa using hf 2 f2 rfl, by simpa using hf 3 f3 rfl⟩
theorem list3 {α : Type} {l : List α} (h : l.length = 3) : ∃ a b c, l = [a, b, c] := by
  match l, h with
  | [a, b, c], _ => exact ⟨a, b, c, rfl⟩
theorem list4 {α : Type} {l : List α} (h : l.length = 4) : ∃ a b c d, l = [a, b, c, d] := by
  match l, h with
  | [a, b, c, d], _ => exact ⟨a, b, c, d, rfl⟩
def relA {H : Type} (a : ArgP) (d : DataW H) : Prop := d = .agg [.lit (.int .u8 a.kind), .lit (.int .u32 a.n), .lit (.string a.s)]
theorem open_argM (T : MdTys P M I A) : ∀ fuel cs (y : DataW H × List MemPlace), DataW.trod enc P w base spare held fuel A cs = some y → ∃ a : ArgP, cs = argC a ∧ a.good ∧ relA a y.1 := fun fuel cs y h => by
  obtain ⟨y0, y1, y2, n, hy, hl, h0, h1, h2⟩ := trod_struct3 T.hA h
  rw [T.cA] at hl
  obtain ⟨c0, c1, c2, rfl⟩ := list3 hl
  rw [T.fa0.1, T.fa0.2.1] at h0
  rw [T.fa1.1, T.fa1.2.1] at h1
  rw [T.fa2.1, T.fa2.2.1] at h2
  obtain ⟨k, e0, rfl, w0⟩ := DataW.trod_int T.fa0.2.2 h0
  obtain ⟨m, e1, rfl, w1⟩ := DataW.trod_int T.fa1.2.2 h1
  obtain ⟨s, e2, rfl, w2⟩ := DataW.trod_string T.fa2.2.2 h2
  simp only [List.drop_zero, List.drop_succ_cons, List.take_succ_cons, List.take_zero, List.cons.injEq, and_true] at e0 e1 e2
  subst e0; subst e1; subst e2
  exact ⟨⟨k, m, s.data.toList⟩, by rw [argC, str_of s], ⟨wf_u8 w0, wf_u32 w1⟩, hy⟩
def relI {H : Type} (i : InstP) (d : DataW H) : Prop := ∃ da, d = .agg [.lit (.int .u16 i.op), .lit (.int .u32 i.ty), .lit (.int .u32 i.res), da] ∧ relL relA i.args da
theorem open_instM (T : MdTys P M I A) : ∀ fuel cs (y : DataW H × List MemPlace), DataW.trod enc P w base spare held fuel I cs = some y → ∃ i : InstP, cs = instC i ∧ i.good w ∧ relI i y.1 := fun fuel cs y h => by
  obtain ⟨y0, y1, y2, y3, n, hy, hl, h0, h1, h2, h3⟩ := trod_struct4 T.hI h
  rw [T.cI] at hl
  obtain ⟨c0, c1, c2, c3, rfl⟩ := list4 hl
  rw [T.fi0.1, T.fi0.2.1] at h0
  rw [T.fi1.1, T.fi1.2.1] at h1
  rw [T.fi2.1, T.fi2.2.1] at h2
  rw [T.fi3.1, T.fi3.2.1] at h3
  obtain ⟨o, e0, rfl, w0⟩ := DataW.trod_int T.fi0.2.2 h0
  obtain ⟨t, e1, rfl, w1⟩ := DataW.trod_int T.fi1.2.2 h1
  obtain ⟨r, e2, rfl, w2⟩ := DataW.trod_int T.fi2.2.2 h2
  simp only [List.drop_zero, List.drop_succ_cons, List.take_succ_cons, List.take_zero, List.cons.injEq, and_true] at e0 e1 e2 h3
  subst e0; subst e1; subst e2
  obtain ⟨ao, cap, l, rfl, hb, hg, hR, hr⟩ := open_flat (g := argC) (good := ArgP.good) (rel := relA) (es := 3) T.fi3.2.2 T.cA (by decide) argC_len (open_argM T) (v := c3) (d := y3.1) (p := y3.2) ⟨n, (by rw [slice_one T.fi3.2.2 h3]; exact h3)⟩ (slice_one T.fi3.2.2 h3)
  exact ⟨⟨o, t, r, ao, cap, l⟩, rfl, ⟨wf_u16 w0, wf_u32 w1, wf_u32 w2, hg, hR⟩, ⟨y3.1, hy, hr⟩⟩
end
end Go.SK
