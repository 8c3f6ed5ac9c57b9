/-
  Steps of functions, plain law, and walks of functions: what the laws rest on.
-/
import Derived.Test.YtglmmdpeenckbaaGreatDoorSkH0c
import Derived.Test.YtglmmdpeenckbaaGreatDoorSkH1a
import Derived.Test.YtglmmdpeenckbaaGreatDoorSkH2a
import Derived.Test.YtglmmdpeenckbaaGreatDoorSkH5a
import Derived.Test.YtglmmdpeenckbaaGreatDoorSkH8a
set_option linter.unusedVariables false
set_option linter.unusedSimpArgs false
set_option linter.unusedSectionVars false
namespace Go.SK
open Go.RowKit Go.ChangeShapes Go.WideShapes Go.ChangeAt
inductive All2 {A B : Type} (R : A → B → Prop) : List A → List B → Prop
  | nil : All2 R [] []
  | cons {a : A} {b : B} {xs : List A} {bs : List B} : R a b → All2 R xs bs → All2 R (a :: xs) (b :: bs)
theorem All2.of_get {A B : Type} {R : A → B → Prop} : ∀ (xs : List A) (bs : List B), xs.length = bs.length → (∀ (i : Nat) (a : A) (b : B), xs[i]? = some a → bs[i]? = some b → R a b) → All2 R xs bs
  | [], [], _, _ => .nil
  | a :: xs, b :: bs, hl, h => .cons (h 0 a b rfl rfl) (All2.of_get xs bs (by simpa using hl) (fun i x y hx hy => h (i + 1) x y (by simpa using hx) (by simpa using hy)))
  | [], _ :: _, hl, _ => by simp at hl
  | _ :: _, [], hl, _ => by simp at hl
theorem ztm {P : Program} {w : World} {r : Reach} {base : Nat} {t : TypeId} {cs : Array Value} {ts : List TypeId} (h : Row.okWide P w r base t cs) (ht : P.cellTypes P.depth t = some ts) (hs : cs.size = ts.length) :
    All2 (fun u v => Cell.okWide P w r base u v) ts cs.toList := by
  obtain ⟨ts', ht', _, hc⟩ := h
  rw [ht] at ht'
  obtain rfl := Option.some.inj ht'
  refine All2.of_get _ _ (by simpa using hs.symm) fun i a b ha hb => ?_
  have hi : i < ts.length := (List.getElem?_eq_some_iff.1 ha).1
  obtain ⟨u, hu, hok⟩ := hc i b (by simpa using hb)
  rw [Nat.mod_eq_of_lt hi, ha] at hu
  obtain rfl := Option.some.inj hu
  exact hok
theorem agg_cells {P : Program} {w : World} {r : Reach} {base : Nat} {t : TypeId} {v : Value} {ts : List TypeId} {d : TypeDesc} (h : Value.okWide P w r base t v) (hu : P.underlying t = some d) (hd : zsp d = true)
    (ht : P.cellTypes P.depth t = some ts) (hs : P.cellsOf t = ts.length) : ∃ cs : List Value, v = .agg cs.toArray ∧ All2 (fun u v => Cell.okWide P w r base u v) ts cs := by
  simp only [Value.okWide, hu] at h
  have : ∃ cs, v = .agg cs ∧ cs.size = P.cellsOf t ∧ Row.okWide P w r base t cs := by
    cases d <;> simp [zsp] at hd <;> exact h
  obtain ⟨cs, rfl, hsz, hrow⟩ := this
  exact ⟨cs.toList, by simp, ztm hrow ht (hsz.trans hs)⟩
end Go.SK
namespace Go.SK
open Go.RowKit Go.ChangeShapes Go.WideShapes Go.ChangeAt
theorem znG {H : Type} {enc : TypeId × Value → H} {P : Program} {w : World} {base : Nat} {spare : Nat → Bool} {held : Bool} {α : Type} {g : α → List Value} {good : α → Prop} {rel : α → DataW H → Prop} {t e : TypeId} {es : Nat} {v : Value} {d : DataW H} {p : List MemPlace}
    (ht : P.underlying t = some (.slice e)) (hc : P.cellsOf e = es) (hes : 0 < es) (hg : ∀ a, (g a).length = es)
    (hel : ∀ fuel cs y, DataW.trod enc P w base spare held fuel e cs = some y → ∃ a, cs = g a ∧ good a ∧ rel a y.1)
    (h : DataW.Trod enc P w base spare held t v d p) (hv : v.cells.toList = [v]) :
    ∃ (ao : Option Addr) (cap : Nat) (l : List α), v = .slice ao l.length cap ∧ l.length ≤ maxLen ∧ (∀ a ∈ l, good a) ∧ (Res.rs ao l.length es (l.flatMap g)).holds w ∧
      ((d = .nil ∧ l = []) ∨ ∃ elems sp, d = .slice elems sp ∧ elems.length = l.length ∧ ∀ (i : Nat) (a : α) (y : DataW H), l[i]? = some a → elems[i]? = some y → rel a y) := by
  obtain ⟨fuel, hf⟩ := h
  rw [hv] at hf
  rcases DataW.trod_slice ht hf with ⟨h0, hx⟩ | ⟨a, len, cap, elems, rest, n, _, hcs, hx, hb, hl, hm, hlen, hel2, _⟩
  · simp only [List.cons.injEq, and_true] at h0
    subst h0
    refine ⟨none, 0, [], rfl, Nat.zero_le _, by simp, ⟨by simp, .inl rfl⟩, .inl ⟨?_, rfl⟩⟩
    exact congrArg Prod.fst hx
  · simp only [List.cons.injEq, and_true] at hcs
    subst hcs
    have each : ∀ i : Nat, i < len → ∃ x y, elems[i]? = some y ∧ w.cells? base (a.add (i * es)) es = some (g x) ∧ good x ∧ rel x y.1 := fun i hi => by
      have h1 := hel2 i hi
      rw [hc] at h1
      have hy : elems[i]? = some (elems[i]'(by omega)) := List.getElem?_eq_getElem _
      rw [hy, Option.bind_eq_some_iff] at h1
      obtain ⟨cs, h2, h3⟩ := h1
      obtain ⟨x, rfl, h4, h5⟩ := hel _ _ _ h3
      exact ⟨x, _, hy, h2, h4, h5⟩
    have build : ∀ k, k ≤ len → ∃ l : List α, l.length = k ∧ ∀ i x, l[i]? = some x → ∃ y, elems[i]? = some y ∧ w.cells? base (a.add (i * es)) es = some (g x) ∧ good x ∧ rel x y.1 := by
      intro k
      induction k with
      | zero => exact fun _ => ⟨[], rfl, fun i x hi => by simp at hi⟩
      | succ k ih =>
        intro hk
        obtain ⟨l, h1, h2⟩ := ih Om
        obtain ⟨x, y, h3⟩ := each k Om
        refine ⟨l ++ [x], by simp [h1], fun i z hi => ?_⟩
        by_cases hik : i < k
        · rw [List.getElem?_append_left (by omega)] at hi; exact h2 i z hi
        · have : i = k := by have := (List.getElem?_eq_some_iff.1 hi).1; simp [h1] at this; omega
          subst this
          rw [List.getElem?_append_right (by omega), h1, Nat.sub_self] at hi
          simp at hi
          subst hi
          exact ⟨y, h3⟩
    obtain ⟨l, h1, h2⟩ := build len (Nat.le_refl _)
    subst h1
    refine ⟨some a, cap, l, rfl, Nat.le_trans hl hm, fun x hx => ?_, ⟨zei hg l, ?_⟩, .inr ⟨_, _, congrArg Prod.fst hx, by simpa using hlen, fun i x y hx hy => ?_⟩⟩
    · obtain ⟨i, hi⟩ := List.getElem?_of_mem hx
      obtain ⟨y, _, _, h3, _⟩ := h2 i x hi
      exact h3
    · by_cases h0 : l.length = 0
      · exact .inl h0
      · right
        have hcell : ∀ (j : Nat) u, (l.flatMap g)[j]? = some u → w.cell? (a.add j) = some u := fun j u hj => by
          have hjl : j < l.length * es := by have := (List.getElem?_eq_some_iff.1 hj).1; rwa [zei hg] at this
          have hdiv : j / es < l.length := Nat.div_lt_of_lt_mul (by rw [Nat.mul_comm]; exact hjl)
          have hmod : j % es < es := Nat.mod_lt _ hes
          obtain ⟨y, _, h4, _⟩ := h2 (j / es) l[j / es] (List.getElem?_eq_getElem hdiv)
          have h5 := (World.cells?_some h4).2.2 (j % es) hmod
          have h6 : (g l[j / es])[j % es]? = some u := by
            have hs := zh7 hg l (j / es)
            have : ((l.flatMap g).drop (j / es * es))[j % es]? = some u := by
              rw [List.getElem?_drop]
              rw [show j / es * es + j % es = j by rw [Nat.mul_comm]; exact Nat.div_add_mod j es]
              exact hj
            rw [hs, List.drop_eq_getElem_cons hdiv, List.flatMap_cons, List.getElem?_append_left (by rw [hg]; exact hmod)] at this
            exact this
          rw [h6] at h5
          have hadd : (a.add (j / es * es)).add (j % es) = a.add j := by
            have hje : j / es * es + j % es = j := by rw [Nat.mul_comm]; exact Nat.div_add_mod j es
            unfold Addr.add
            by_cases e1 : j / es * es = 0
            · rw [if_pos e1, show j % es = j by omega]
            · rw [if_neg e1]
              by_cases e2 : j % es = 0
              · rw [if_pos e2, if_neg (by omega), show j / es * es = j by omega]
              · rw [if_neg e2, if_neg (by omega)]
                simp only [Addr.mk.injEq, and_true, true_and]
                omega
          rw [hadd] at h5
          exact h5
        have hpos : 0 < (l.flatMap g).length := by
          rw [zei hg]
          exact Nat.mul_pos Om hes
        have hspot : a.spot = none := by
          have := hcell 0 _ (List.getElem?_eq_getElem hpos)
          rw [show a.add 0 = a from rfl] at this
          simp only [World.cell?] at this
          split at this
          · split at this
            · cases this
            · rename_i hs; simpa using hs
          · cases this
        obtain ⟨b, o, sp⟩ := a
        simp only at hspot
        subst hspot
        refine ⟨b, o, rfl, fun j u hj => ?_⟩
        have := hcell j u hj
        rwa [zdU] at this
    · obtain ⟨y', h3, _, _, h4⟩ := h2 i x hx
      rw [List.getElem?_map, h3] at hy
      simp at hy
      subst hy
      exact h4
end Go.SK
namespace Go.SK
open Go.RowKit Go.ChangeShapes Go.WideShapes Go.ChangeAt
def zfe (P : Program) (f : Field) (off n : Nat) (d : TypeDesc) : Prop := f.offset = off ∧ P.cellsOf f.type = n ∧ P.underlying f.type = some d
structure MdTys (P : Program) (M I A : TypeId) where
  m0 : Field
  m1 : Field
  m2 : Field
  i0 : Field
  i1 : Field
  i2 : Field
  i3 : Field
  a0 : Field
  a1 : Field
  a2 : Field
  hM : P.underlying M = some (.struct #[m0, m1, m2])
  hI : P.underlying I = some (.struct #[i0, i1, i2, i3])
  hA : P.underlying A = some (.struct #[a0, a1, a2])
  fm0 : zfe P m0 0 1 (.int .u32)
  fm1 : zfe P m1 1 1 (.int .u32)
  fm2 : zfe P m2 2 1 (.slice I)
  fi0 : zfe P i0 0 1 (.int .u16)
  fi1 : zfe P i1 1 1 (.int .u32)
  fi2 : zfe P i2 2 1 (.int .u32)
  fi3 : zfe P i3 3 1 (.slice A)
  fa0 : zfe P a0 0 1 (.int .u8)
  fa1 : zfe P a1 1 1 (.int .u32)
  fa2 : zfe P a2 2 1 .string
  cM : P.cellsOf M = 3
  cI : P.cellsOf I = 4
  cA : P.cellsOf A = 3
  bI : P.bytesOf I = 40
  bA : P.bytesOf A = 24
section
variable {H : Type} {enc : TypeId × Value → H} {P : Program} {w : World} {base : Nat} {spare : Nat → Bool} {held : Bool} {M I A : TypeId}
theorem ziT {t : TypeId} {f0 f1 f2 : Field} {fuel : Nat} {cs : List Value} {x : DataW H × List MemPlace} (ht : P.underlying t = some (.struct #[f0, f1, f2])) (h : DataW.trod enc P w base spare held fuel t cs = some x) :
    ∃ y0 y1 y2 n, x.1 = .agg [y0.1, y1.1, y2.1] ∧ cs.length = P.cellsOf t ∧ DataW.trod enc P w base spare held n f0.type ((cs.drop f0.offset).take (P.cellsOf f0.type)) = some y0 ∧
      DataW.trod enc P w base spare held n f1.type ((cs.drop f1.offset).take (P.cellsOf f1.type)) = some y1 ∧ DataW.trod enc P w base spare held n f2.type ((cs.drop f2.offset).take (P.cellsOf f2.type)) = some y2 := by
  obtain ⟨xs, n, _, rfl, hl, hlen, hf⟩ := DataW.trod_struct ht h
  match xs, hlen with
  | [y0, y1, y2], _ => exact ⟨y0, y1, y2, n, rfl, hl, by simpa using hf 0 f0 rfl, by simpa using hf 1 f1 rfl, by simpa using hf 2 f2 rfl⟩
theorem znc {t : TypeId} {f0 f1 f2 f3 : Field} {fuel : Nat} {cs : List Value} {x : DataW H × List MemPlace} (ht : P.underlying t = some (.struct #[f0, f1, f2, f3])) (h : DataW.trod enc P w base spare held fuel t cs = some x) :
    ∃ y0 y1 y2 y3 n, x.1 = .agg [y0.1, y1.1, y2.1, y3.1] ∧ cs.length = P.cellsOf t ∧ DataW.trod enc P w base spare held n f0.type ((cs.drop f0.offset).take (P.cellsOf f0.type)) = some y0 ∧
      DataW.trod enc P w base spare held n f1.type ((cs.drop f1.offset).take (P.cellsOf f1.type)) = some y1 ∧ DataW.trod enc P w base spare held n f2.type ((cs.drop f2.offset).take (P.cellsOf f2.type)) = some y2 ∧
      DataW.trod enc P w base spare held n f3.type ((cs.drop f3.offset).take (P.cellsOf f3.type)) = some y3 := by
  obtain ⟨xs, n, _, rfl, hl, hlen, hf⟩ := DataW.trod_struct ht h
  match xs, hlen with
  | [y0, y1, y2, y3], _ => exact ⟨y0, y1, y2, y3, n, rfl, hl, by simpa using hf 0 f0 rfl, by simpa using hf 1 f1 rfl, by simpa using hf 2 f2 rfl, by simpa using hf 3 f3 rfl⟩
theorem list3 {α : Type} {l : List α} (h : l.length = 3) : ∃ a b c, l = [a, b, c] := by
  match l, h with
  | [a, b, c], _ => exact ⟨a, b, c, rfl⟩
theorem list4 {α : Type} {l : List α} (h : l.length = 4) : ∃ a b c d, l = [a, b, c, d] := by
  match l, h with
  | [a, b, c, d], _ => exact ⟨a, b, c, d, rfl⟩
theorem wf_u8 {n : Int} (h : (Lit.int .u8 n).wf = true) : 0 ≤ n ∧ n ≤ 255 := by
  simpa [Lit.wf, IntKind.min, IntKind.max, IntKind.signed, IntKind.bits] using h
theorem wf_u16 {n : Int} (h : (Lit.int .u16 n).wf = true) : 0 ≤ n ∧ n ≤ 65535 := by
  simpa [Lit.wf, IntKind.min, IntKind.max, IntKind.signed, IntKind.bits] using h
theorem znb {n : Int} (h : (Lit.int .u32 n).wf = true) : 0 ≤ n ∧ n ≤ 4294967295 := by
  simpa [Lit.wf, IntKind.min, IntKind.max, IntKind.signed, IntKind.bits] using h
def relA {H : Type} (a : ArgP) (d : DataW H) : Prop := d = .agg [.lit (.int .u8 a.kind), .lit (.int .u32 a.n), .lit (.string a.s)]
def relL {H : Type} {α : Type} (r : α → DataW H → Prop) (l : List α) (d : DataW H) : Prop := (d = .nil ∧ l = []) ∨ ∃ elems sp, d = .slice elems sp ∧ elems.length = l.length ∧ ∀ (i : Nat) (a : α) (y : DataW H), l[i]? = some a → elems[i]? = some y → r a y
theorem ztD (T : MdTys P M I A) : ∀ fuel cs (y : DataW H × List MemPlace), DataW.trod enc P w base spare held fuel A cs = some y → ∃ a : ArgP, cs = zff a ∧ a.good ∧ relA a y.1 := fun fuel cs y h => by
  obtain ⟨y0, y1, y2, n, hy, hl, h0, h1, h2⟩ := ziT T.hA h
  rw [T.cA] at hl
  obtain ⟨c0, c1, c2, rfl⟩ := list3 hl
  rw [T.fa0.1, T.fa0.2.1] at h0
  rw [T.fa1.1, T.fa1.2.1] at h1
  rw [T.fa2.1, T.fa2.2.1] at h2
  obtain ⟨k, e0, rfl, w0⟩ := DataW.trod_int T.fa0.2.2 h0
  obtain ⟨m, e1, rfl, w1⟩ := DataW.trod_int T.fa1.2.2 h1
  obtain ⟨s, e2, rfl, w2⟩ := DataW.trod_string T.fa2.2.2 h2
  simp only [List.drop_zero, List.drop_succ_cons, List.take_succ_cons, List.take_zero, List.cons.injEq, and_true] at e0 e1 e2
  subst e0; subst e1; subst e2
  exact ⟨⟨k, m, s.data.toList⟩, by rw [zff, zwW s], ⟨wf_u8 w0, znb w1⟩, hy⟩
def zxC {H : Type} (i : InstP) (d : DataW H) : Prop := ∃ da, d = .agg [.lit (.int .u16 i.op), .lit (.int .u32 i.ty), .lit (.int .u32 i.res), da] ∧ relL relA i.args da
theorem zhM {t e : TypeId} {c : Value} {n : Nat} {y : DataW H × List MemPlace} (ht : P.underlying t = some (.slice e)) (h : DataW.trod enc P w base spare held n t [c] = some y) : c.cells.toList = [c] := by
  cases n with
  | zero => simp [DataW.trod] at h
  | succ n =>
    unfold DataW.trod at h
    rw [ht] at h
    split at h <;> simp_all
    all_goals first | rfl | (subst_vars; rfl) | skip
theorem zls (T : MdTys P M I A) : ∀ fuel cs (y : DataW H × List MemPlace), DataW.trod enc P w base spare held fuel I cs = some y → ∃ i : InstP, cs = zdu i ∧ i.good w ∧ zxC i y.1 := fun fuel cs y h => by
  obtain ⟨y0, y1, y2, y3, n, hy, hl, h0, h1, h2, h3⟩ := znc T.hI h
  rw [T.cI] at hl
  obtain ⟨c0, c1, c2, c3, rfl⟩ := list4 hl
  rw [T.fi0.1, T.fi0.2.1] at h0
  rw [T.fi1.1, T.fi1.2.1] at h1
  rw [T.fi2.1, T.fi2.2.1] at h2
  rw [T.fi3.1, T.fi3.2.1] at h3
  obtain ⟨o, e0, rfl, w0⟩ := DataW.trod_int T.fi0.2.2 h0
  obtain ⟨t, e1, rfl, w1⟩ := DataW.trod_int T.fi1.2.2 h1
  obtain ⟨r, e2, rfl, w2⟩ := DataW.trod_int T.fi2.2.2 h2
  simp only [List.drop_zero, List.drop_succ_cons, List.take_succ_cons, List.take_zero, List.cons.injEq, and_true] at e0 e1 e2 h3
  subst e0; subst e1; subst e2
  obtain ⟨ao, cap, l, rfl, hb, hg, hR, hr⟩ := znG (g := zff) (good := ArgP.good) (rel := relA) (es := 3) T.fi3.2.2 T.cA (by decide) zcL (ztD T) (v := c3) (d := y3.1) (p := y3.2) ⟨n, (by rw [zhM T.fi3.2.2 h3]; exact h3)⟩ (zhM T.fi3.2.2 h3)
  exact ⟨⟨o, t, r, ao, cap, l⟩, rfl, ⟨wf_u16 w0, znb w1, znb w2, hg, hR⟩, ⟨y3.1, hy, hr⟩⟩
end
end Go.SK
namespace Go.SK
open Go.RowKit Go.ChangeShapes Go.WideShapes Go.ChangeAt
structure BulkOk {H : Type} (f : DataW H → Nat) (fa : List (DataW H) → Nat) : Prop where
  str : ∀ b, b.length + 1 ≤ f (.lit (.string b))
  one : ∀ d, 1 ≤ f d
  agg : ∀ l, fa l + 1 ≤ f (.agg l)
  slice : ∀ l sp, fa l + 1 ≤ f (.slice l sp)
  cons : ∀ d r, fa (d :: r) = f d + fa r
section
variable {H : Type} {f : DataW H → Nat} {fa : List (DataW H) → Nat}
theorem zrh (h : BulkOk f fa) {α : Type} {r : α → DataW H → Prop} {g : α → Nat} (hg : ∀ a y, r a y → g a ≤ f y) : ∀ (l : List α) (elems : List (DataW H)), elems.length = l.length → (∀ (i : Nat) (a : α) (y : DataW H), l[i]? = some a → elems[i]? = some y → r a y) → (l.map g).sum ≤ fa elems
  | [], elems, _, _ => Nat.zero_le _
  | a :: l, [], hl, _ => by simp at hl
  | a :: l, y :: elems, hl, hr => by
    have h1 := hg a y (hr 0 a y rfl rfl)
    have h2 := zrh h hg l elems (by simpa using hl) (fun i b z hb hz => hr (i + 1) b z (by simpa using hb) (by simpa using hz))
    rw [h.cons, List.map_cons, List.sum_cons]
    omega
theorem zii (h : BulkOk f fa) {α : Type} {r : α → DataW H → Prop} {g : α → Nat} (hg : ∀ a y, r a y → g a ≤ f y) {l : List α} {d : DataW H} (hr : relL r l d) : (l.map g).sum ≤ f d := by
  rcases hr with ⟨rfl, rfl⟩ | ⟨elems, sp, rfl, hl, hr⟩
  · exact Nat.zero_le _
  · have := zrh h hg l elems hl hr
    have := h.slice elems sp
    omega
theorem zmc {α : Type} {g : α → Nat} {l : List α} {a : α} (h : a ∈ l) : g a ≤ (l.map g).sum := by
  induction l with
  | nil => cases h
  | cons x l ih =>
    simp only [List.map_cons, List.sum_cons]
    cases h with
    | head => omega
    | tail _ h => have := ih h; omega
theorem zri (h : BulkOk f fa) : ∀ (a : ArgP) (y : DataW H), relA a y → za1 a ≤ f y ∧ a.s.length ≤ f y := fun a y hr => by
  obtain rfl := hr
  have h1 := h.agg [.lit (.int .u8 a.kind), .lit (.int .u32 a.n), .lit (.string a.s)]
  rw [h.cons, h.cons, h.cons] at h1
  have h2 := h.str a.s
  have h3 := h.one (.lit (.int .u8 a.kind))
  unfold za1
  constructor
  · split <;> omega
  · omega
theorem ziN (h : BulkOk f fa) : ∀ (i : InstP) (d : DataW H), zxC i d → (i.args.map za1).sum ≤ f d ∧ (i.args.map fun a => a.s.length).sum ≤ f d := fun i d hr => by
  obtain ⟨da, rfl, hra⟩ := hr
  have h1 := zii h (fun a y hy => (zri h a y hy).1) hra
  have h2 := zii h (g := fun a : ArgP => a.s.length) (fun a y hy => (zri h a y hy).2) hra
  have h3 := h.agg [.lit (.int .u16 i.op), .lit (.int .u32 i.ty), .lit (.int .u32 i.res), da]
  rw [h.cons, h.cons, h.cons, h.cons] at h3
  omega
end
theorem good_okay {w : World} {i : InstP} (h : i.good w) : i.L.Okay := by
  obtain ⟨h1, h2, h3, h4, _⟩ := h
  refine ⟨⟨h1.1, by show i.op < _; omega⟩, ⟨h2.1, by show i.ty < _; omega⟩, ⟨h3.1, by show i.res < _; omega⟩, fun a ha => ?_⟩
  have := h4 a ha
  obtain ⟨g1, g2⟩ := this
  exact ⟨⟨g2.1, by omega⟩, g1.1, by omega⟩
end Go.SK
