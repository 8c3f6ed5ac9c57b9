/-
  Modules that come as arguments, opened.
-/
import Derived.Test.YtnbapjkldjhjoaaSkMdP
import Derived.Test.YtnbapjkldjhjoaaSkR
set_option linter.unusedVariables false
set_option linter.unusedSimpArgs false
namespace Go.SK
open Go.RowKit Go.ChangeShapes Go.WideShapes Go.ChangeAt

/-! modules that come as arguments, opened -/
def FieldIs (P : Program) (f : Field) (off n : Nat) (d : TypeDesc) : Prop := f.offset = off ∧ P.cellsOf f.type = n ∧ P.underlying f.type = some d
/-- the types of a module, an instruction, an argument -/
structure MdTys (P : Program) (M I A : TypeId) where
  m0 : Field
  m1 : Field
  m2 : Field
  i0 : Field
  i1 : Field
  i2 : Field
  i3 : Field
  a0 : Field
  a1 : Field
  a2 : Field
  hM : P.underlying M = some (.struct #[m0, m1, m2])
  hI : P.underlying I = some (.struct #[i0, i1, i2, i3])
  hA : P.underlying A = some (.struct #[a0, a1, a2])
  fm0 : FieldIs P m0 0 1 (.int .u32)
  fm1 : FieldIs P m1 1 1 (.int .u32)
  fm2 : FieldIs P m2 2 1 (.slice I)
  fi0 : FieldIs P i0 0 1 (.int .u16)
  fi1 : FieldIs P i1 1 1 (.int .u32)
  fi2 : FieldIs P i2 2 1 (.int .u32)
  fi3 : FieldIs P i3 3 1 (.slice A)
  fa0 : FieldIs P a0 0 1 (.int .u8)
  fa1 : FieldIs P a1 1 1 (.int .u32)
  fa2 : FieldIs P a2 2 1 .string
  cM : P.cellsOf M = 3
  cI : P.cellsOf I = 4
  cA : P.cellsOf A = 3
  bI : P.bytesOf I = 40
  bA : P.bytesOf A = 24

section
variable {H : Type} {enc : TypeId × Value → H} {P : Program} {w : World} {base : Nat} {spare : Nat → Bool} {held : Bool} {M I A : TypeId}
theorem trod_struct3 {t : TypeId} {f0 f1 f2 : Field} {fuel : Nat} {cs : List Value} {x : DataW H × List MemPlace} (ht : P.underlying t = some (.struct #[f0, f1, f2])) (h : DataW.trod enc P w base spare held fuel t cs = some x) :
    ∃ y0 y1 y2 n, x.1 = .agg [y0.1, y1.1, y2.1] ∧ cs.length = P.cellsOf t ∧ DataW.trod enc P w base spare held n f0.type ((cs.drop f0.offset).take (P.cellsOf f0.type)) = some y0 ∧
      DataW.trod enc P w base spare held n f1.type ((cs.drop f1.offset).take (P.cellsOf f1.type)) = some y1 ∧ DataW.trod enc P w base spare held n f2.type ((cs.drop f2.offset).take (P.cellsOf f2.type)) = some y2 := by
  obtain ⟨xs, n, _, rfl, hl, hlen, hf⟩ := DataW.trod_struct ht h
  match xs, hlen with
  | [y0, y1, y2], _ => exact ⟨y0, y1, y2, n, rfl, hl, by simpa using hf 0 f0 rfl, by simpa using hf 1 f1 rfl, by simpa using hf 2 f2 rfl⟩
theorem trod_struct4 {t : TypeId} {f0 f1 f2 f3 : Field} {fuel : Nat} {cs : List Value} {x : DataW H × List MemPlace} (ht : P.underlying t = some (.struct #[f0, f1, f2, f3])) (h : DataW.trod enc P w base spare held fuel t cs = some x) :
    ∃ y0 y1 y2 y3 n, x.1 = .agg [y0.1, y1.1, y2.1, y3.1] ∧ cs.length = P.cellsOf t ∧ DataW.trod enc P w base spare held n f0.type ((cs.drop f0.offset).take (P.cellsOf f0.type)) = some y0 ∧
      DataW.trod enc P w base spare held n f1.type ((cs.drop f1.offset).take (P.cellsOf f1.type)) = some y1 ∧ DataW.trod enc P w base spare held n f2.type ((cs.drop f2.offset).take (P.cellsOf f2.type)) = some y2 ∧
      DataW.trod enc P w base spare held n f3.type ((cs.drop f3.offset).take (P.cellsOf f3.type)) = some y3 := by
  obtain ⟨xs, n, _, rfl, hl, hlen, hf⟩ := DataW.trod_struct ht h
  match xs, hlen with
  | [y0, y1, y2, y3], _ => exact ⟨y0, y1, y2, y3, n, rfl, hl, by simpa using hf 0 f0 rfl, by simpa using hf 1 f1 rfl, by simpa using hf 2 f2 rfl, by simpa using hf 3 f3 rfl⟩
theorem list3 {α : Type} {l : List α} (h : l.length = 3) : ∃ a b c, l = [a, b, c] := by
  match l, h with
  | [a, b, c], _ => exact ⟨a, b, c, rfl⟩
theorem list4 {α : Type} {l : List α} (h : l.length = 4) : ∃ a b c d, l = [a, b, c, d] := by
  match l, h with
  | [a, b, c, d], _ => exact ⟨a, b, c, d, rfl⟩
theorem wf_u8 {n : Int} (h : (Lit.int .u8 n).wf = true) : 0 ≤ n ∧ n ≤ 255 := by
  simpa [Lit.wf, IntKind.min, IntKind.max, IntKind.signed, IntKind.bits] using h
theorem wf_u16 {n : Int} (h : (Lit.int .u16 n).wf = true) : 0 ≤ n ∧ n ≤ 65535 := by
  simpa [Lit.wf, IntKind.min, IntKind.max, IntKind.signed, IntKind.bits] using h
theorem wf_u32 {n : Int} (h : (Lit.int .u32 n).wf = true) : 0 ≤ n ∧ n ≤ 4294967295 := by
  simpa [Lit.wf, IntKind.min, IntKind.max, IntKind.signed, IntKind.bits] using h

def ArgP.good (a : ArgP) : Prop := (0 ≤ a.kind ∧ a.kind ≤ 255) ∧ (0 ≤ a.n ∧ a.n ≤ 4294967295)
def relA {H : Type} (a : ArgP) (d : DataW H) : Prop := d = .agg [.lit (.int .u8 a.kind), .lit (.int .u32 a.n), .lit (.string a.s)]
def relL {H : Type} {α : Type} (r : α → DataW H → Prop) (l : List α) (d : DataW H) : Prop := (d = .nil ∧ l = []) ∨ ∃ elems sp, d = .slice elems sp ∧ elems.length = l.length ∧ ∀ (i : Nat) (a : α) (y : DataW H), l[i]? = some a → elems[i]? = some y → r a y
theorem open_argM (T : MdTys P M I A) : ∀ fuel cs (y : DataW H × List MemPlace), DataW.trod enc P w base spare held fuel A cs = some y → ∃ a : ArgP, cs = argC a ∧ a.good ∧ relA a y.1 := fun fuel cs y h => by
  obtain ⟨y0, y1, y2, n, hy, hl, h0, h1, h2⟩ := trod_struct3 T.hA h
  rw [T.cA] at hl
  obtain ⟨c0, c1, c2, rfl⟩ := list3 hl
  rw [T.fa0.1, T.fa0.2.1] at h0
  rw [T.fa1.1, T.fa1.2.1] at h1
  rw [T.fa2.1, T.fa2.2.1] at h2
  obtain ⟨k, e0, rfl, w0⟩ := DataW.trod_int T.fa0.2.2 h0
  obtain ⟨m, e1, rfl, w1⟩ := DataW.trod_int T.fa1.2.2 h1
  obtain ⟨s, e2, rfl, w2⟩ := DataW.trod_string T.fa2.2.2 h2
  simp only [List.drop_zero, List.drop_succ_cons, List.take_succ_cons, List.take_zero, List.cons.injEq, and_true] at e0 e1 e2
  subst e0; subst e1; subst e2
  exact ⟨⟨k, m, s.data.toList⟩, by rw [argC, str_of s], ⟨wf_u8 w0, wf_u32 w1⟩, hy⟩
def InstP.good (w : World) (i : InstP) : Prop := (0 ≤ i.op ∧ i.op ≤ 65535) ∧ (0 ≤ i.ty ∧ i.ty ≤ 4294967295) ∧ (0 ≤ i.res ∧ i.res ≤ 4294967295) ∧ (∀ a ∈ i.args, a.good) ∧ (Res.rargs i).holds w
def relI {H : Type} (i : InstP) (d : DataW H) : Prop := ∃ da, d = .agg [.lit (.int .u16 i.op), .lit (.int .u32 i.ty), .lit (.int .u32 i.res), da] ∧ relL relA i.args da
theorem slice_one {t e : TypeId} {c : Value} {n : Nat} {y : DataW H × List MemPlace} (ht : P.underlying t = some (.slice e)) (h : DataW.trod enc P w base spare held n t [c] = some y) : c.cells.toList = [c] := by
  cases n with
  | zero => simp [DataW.trod] at h
  | succ n =>
    unfold DataW.trod at h
    rw [ht] at h
    split at h <;> simp_all
    all_goals first | rfl | (subst_vars; rfl) | skip
theorem open_instM (T : MdTys P M I A) : ∀ fuel cs (y : DataW H × List MemPlace), DataW.trod enc P w base spare held fuel I cs = some y → ∃ i : InstP, cs = instC i ∧ i.good w ∧ relI i y.1 := fun fuel cs y h => by
  obtain ⟨y0, y1, y2, y3, n, hy, hl, h0, h1, h2, h3⟩ := trod_struct4 T.hI h
  rw [T.cI] at hl
  obtain ⟨c0, c1, c2, c3, rfl⟩ := list4 hl
  rw [T.fi0.1, T.fi0.2.1] at h0
  rw [T.fi1.1, T.fi1.2.1] at h1
  rw [T.fi2.1, T.fi2.2.1] at h2
  rw [T.fi3.1, T.fi3.2.1] at h3
  obtain ⟨o, e0, rfl, w0⟩ := DataW.trod_int T.fi0.2.2 h0
  obtain ⟨t, e1, rfl, w1⟩ := DataW.trod_int T.fi1.2.2 h1
  obtain ⟨r, e2, rfl, w2⟩ := DataW.trod_int T.fi2.2.2 h2
  simp only [List.drop_zero, List.drop_succ_cons, List.take_succ_cons, List.take_zero, List.cons.injEq, and_true] at e0 e1 e2 h3
  subst e0; subst e1; subst e2
  obtain ⟨ao, cap, l, rfl, hb, hg, hR, hr⟩ := open_flat (g := argC) (good := ArgP.good) (rel := relA) (es := 3) T.fi3.2.2 T.cA (by decide) argC_len (open_argM T) (v := c3) (d := y3.1) (p := y3.2) ⟨n, (by rw [slice_one T.fi3.2.2 h3]; exact h3)⟩ (slice_one T.fi3.2.2 h3)
  exact ⟨⟨o, t, r, ao, cap, l⟩, rfl, ⟨wf_u16 w0, wf_u32 w1, wf_u32 w2, hg, hR⟩, ⟨y3.1, hy, hr⟩⟩
theorem open_mod (T : MdTys P M I A) {v : Value} {d : DataW H} {p : List MemPlace} (h : DataW.Trod enc P w base spare held M v d p) (hv : ∃ cs : List Value, v = .agg cs.toArray) :
    ∃ (ga ba : Int) (ao : Option Addr) (cap : Nat) (l : List InstP), v = .agg #[.int .u32 ga, .int .u32 ba, .slice ao l.length cap] ∧ (0 ≤ ga ∧ ga ≤ 4294967295) ∧ (0 ≤ ba ∧ ba ≤ 4294967295) ∧ (∀ i ∈ l, i.good w) ∧ (Res.rmod ao l).holds w ∧
      ∃ dm, d = .agg [.lit (.int .u32 ga), .lit (.int .u32 ba), dm] ∧ relL relI l dm := by
  obtain ⟨fuel, h⟩ := h
  obtain ⟨cs, rfl⟩ := hv
  replace h : DataW.trod enc P w base spare held fuel M cs = some (d, p) := h
  obtain ⟨y0, y1, y2, n, hy, hl, h0, h1, h2⟩ := trod_struct3 T.hM h
  rw [T.cM] at hl
  obtain ⟨c0, c1, c2, rfl⟩ := list3 hl
  rw [T.fm0.1, T.fm0.2.1] at h0
  rw [T.fm1.1, T.fm1.2.1] at h1
  rw [T.fm2.1, T.fm2.2.1] at h2
  obtain ⟨ga, e0, rfl, w0⟩ := DataW.trod_int T.fm0.2.2 h0
  obtain ⟨ba, e1, rfl, w1⟩ := DataW.trod_int T.fm1.2.2 h1
  simp only [List.drop_zero, List.drop_succ_cons, List.take_succ_cons, List.take_zero, List.cons.injEq, and_true] at e0 e1 h2
  subst e0; subst e1
  obtain ⟨ao, cap, l, rfl, hb, hg, hR, hr⟩ := open_flat (g := instC) (good := InstP.good w) (rel := relI) (es := 4) T.fm2.2.2 T.cI (by decide) instC_len (open_instM T) (v := c2) (d := y2.1) (p := y2.2) ⟨n, (by rw [slice_one T.fm2.2.2 h2]; exact h2)⟩ (slice_one T.fm2.2.2 h2)
  refine ⟨ga, ba, ao, cap, l, rfl, wf_u32 w0, wf_u32 w1, hg, fun r hr => ?_, y2.1, hy, hr⟩
  cases hr with
  | head => exact hR
  | tail _ hr =>
    obtain ⟨i, hi, rfl⟩ := List.mem_map.1 hr
    exact (hg i hi).2.2.2.2
end

/-! their size -/
section
variable {H : Type} {P : Program} {M I A : TypeId}
theorem weightsAll_mem {e : TypeId} {n : Nat} : ∀ {ds : List (DataW H)} {d : DataW H}, d ∈ ds → n ∈ d.weights P e → n ∈ DataW.weightsAll P e ds
  | d0 :: ds, d, h, hn => by
    simp only [DataW.weightsAll, List.mem_append]
    cases h with
    | head => exact .inl hn
    | tail _ h => exact .inr (weightsAll_mem h hn)
theorem rel_len {t e : TypeId} {α : Type} {r : α → DataW H → Prop} {l : List α} {d : DataW H} {B : Nat} (hu : P.underlying t = some (.slice e)) (h : relL r l d) (hs : ∀ n ∈ d.weights P t, n ≤ B) : l.length * P.bytesOf e ≤ B ∧ ∀ a ∈ l, ∃ y, r a y ∧ ∀ n ∈ y.weights P e, n ≤ B := by
  rcases h with ⟨rfl, rfl⟩ | ⟨elems, sp, rfl, hl, hr⟩
  · exact ⟨by simp, fun a h => by cases h⟩
  · simp only [DataW.weights, hu] at hs
    refine ⟨?_, fun a ha => ?_⟩
    · have := hs _ (.head _)
      rw [← hl]
      exact Nat.le_trans (Nat.mul_le_mul_right _ (Nat.le_add_right _ _)) this
    · obtain ⟨i, hi⟩ := List.getElem?_of_mem ha
      have hlt : i < elems.length := by rw [hl]; exact (List.getElem?_eq_some_iff.1 hi).1
      refine ⟨elems[i], hr i a _ hi (List.getElem?_eq_getElem hlt), fun n hn => hs n (.tail _ (List.mem_append_left _ (weightsAll_mem (List.getElem_mem hlt) hn)))⟩
theorem mod_sized (T : MdTys P M I A) {ts : List TypeId} {ds : List (DataW H)} (hs : (DataW.weightsEach P ts ds).all (· ≤ reachBytes) = true) {j : Nat} {d : DataW H} {ga ba : Int} {l : List InstP} (ht : ts[j]? = some M) (hd : ds[j]? = some d)
    (hr : ∃ dm, d = .agg [.lit (.int .u32 ga), .lit (.int .u32 ba), dm] ∧ relL relI l dm) : l.length ≤ 3518437208884 ∧ ∀ i ∈ l, i.args.length ≤ 5864062014806 := by
  have hall : ∀ n ∈ d.weights P M, n ≤ 140737488355328 := fun n hn => by
    have := List.all_eq_true.1 hs _ (DataW.weights_mem_each ht hd n hn)
    have h2 := reachBytes_lt
    have h3 : n ≤ reachBytes := by simpa using this
    omega
  obtain ⟨dm, rfl, hr⟩ := hr
  simp only [DataW.weights, T.hM, DataW.weightsEach, List.map_cons, List.map_nil, List.nil_append, List.append_nil] at hall
  obtain ⟨h1, h2⟩ := rel_len T.fm2.2.2 hr hall
  rw [T.bI] at h1
  refine ⟨by omega, fun i hi => ?_⟩
  obtain ⟨y, ⟨da, rfl, hra⟩, hw⟩ := h2 i hi
  simp only [DataW.weights, T.hI, DataW.weightsEach, List.map_cons, List.map_nil, List.nil_append, List.append_nil] at hw
  obtain ⟨h3, _⟩ := rel_len T.fi3.2.2 hra hw
  rw [T.bA] at h3
  omega
end
end Go.SK
