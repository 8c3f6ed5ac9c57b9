/-
  Steps of functions, plain law, and walks of functions: what the laws rest on.
-/
import Derived.Test.YtoodfjpigminkaaSkG0d
import Derived.Test.YtoodfjpigminkaaSkG2a
import Derived.Test.YtoodfjpigminkaaSkG4a
import Derived.Test.YtoodfjpigminkaaSkG5a
import Derived.Test.YtoodfjpigminkaaSkG6a
import Derived.Test.YtoodfjpigminkaaSkG9a
import Derived.Test.YtoodfjpigminkaaSkG12a
import Derived.Test.YtoodfjpigminkaaSkG14a
import Derived.Test.YtoodfjpigminkaaSkG20a
import Derived.Test.YtoodfjpigminkaaSkG26a
import Derived.Test.YtoodfjpigminkaaSkG28a
set_option linter.unusedVariables false
set_option linter.unusedSimpArgs false
set_option linter.unusedSectionVars false
namespace Go.SK
open Go.RowKit Go.ChangeShapes Go.WideShapes Go.ChangeAt
section
variable {H : Type} {enc : TypeId × Value → H} {P : Program} {w : World} {base : Nat} {spare : Nat → Bool} {held : Bool} {M I A : TypeId}
theorem open_u32 {e : TypeId} (he : P.underlying e = some (.int .u32)) : ∀ fuel cs (y : DataW H × List MemPlace), DataW.trod enc P w base spare held fuel e cs = some y → ∃ a : Int, cs = u32C a ∧ (0 ≤ a ∧ a < 4294967296) ∧ True := fun fuel cs y h => by
  obtain ⟨n, rfl, _, hw⟩ := DataW.trod_int he h
  have := wf_u32 hw
  exact ⟨n, rfl, by omega, trivial⟩
theorem trod_struct2 {t : TypeId} {f0 f1 : Field} {fuel : Nat} {cs : List Value} {x : DataW H × List MemPlace} (ht : P.underlying t = some (.struct #[f0, f1])) (h : DataW.trod enc P w base spare held fuel t cs = some x) :
    ∃ y0 y1 n, x.1 = .agg [y0.1, y1.1] ∧ cs.length = P.cellsOf t ∧ DataW.trod enc P w base spare held n f0.type ((cs.drop f0.offset).take (P.cellsOf f0.type)) = some y0 ∧
      DataW.trod enc P w base spare held n f1.type ((cs.drop f1.offset).take (P.cellsOf f1.type)) = some y1 := by
  obtain ⟨xs, n, _, rfl, hl, hlen, hf⟩ := DataW.trod_struct ht h
  match xs, hlen with
  | [y0, y1], _ => exact ⟨y0, y1, n, rfl, hl, by simpa using hf 0 f0 rfl, by simpa using hf 1 f1 rfl⟩
theorem list2 {α : Type} {l : List α} (h : l.length = 2) : ∃ a b, l = [a, b] := by
  match l, h with
  | [a, b], _ => exact ⟨a, b, rfl⟩
abbrev relU {H : Type} (a : Int) (d : DataW H) : Prop := True
theorem open_raw {R W U : TypeId} (T : RawTys P R W U) {v : Value} {d : DataW H} {p : List MemPlace} (h : DataW.Trod enc P w base spare held R v d p) (hv : ∃ cs : List Value, v = .agg cs.toArray) :
    ∃ (op : Int) (ao : Option Addr) (cap : Nat) (l : List Int), v = .agg #[.int .u16 op, .slice ao l.length cap] ∧ (0 ≤ op ∧ op < 65536) ∧ Wd l ∧ l.length ≤ cap ∧ (Res.rs ao l.length 1 (l.flatMap u32C)).holds w ∧ ∃ dw, d = .agg [.lit (.int .u16 op), dw] ∧ relL relU l dw := by
  obtain ⟨fuel, h⟩ := h
  obtain ⟨cs, rfl⟩ := hv
  replace h : DataW.trod enc P w base spare held fuel R cs = some (d, p) := h
  obtain ⟨y0, y1, n, hy, hl, h0, h1⟩ := trod_struct2 T.hR h
  rw [T.cR] at hl
  obtain ⟨c0, c1, rfl⟩ := list2 hl
  rw [T.fr0.1, T.fr0.2.1] at h0
  rw [T.fr1.1, T.fr1.2.1] at h1
  obtain ⟨op, e0, rfl, w0⟩ := DataW.trod_int T.fr0.2.2 h0
  simp only [List.drop_zero, List.drop_succ_cons, List.take_succ_cons, List.take_zero, List.cons.injEq, and_true] at e0 h1
  subst e0
  have hT : DataW.Trod enc P w base spare held T.r1.type c1 y1.1 y1.2 := ⟨n, (by rw [slice_one T.fr1.2.2 h1]; exact h1)⟩
  obtain ⟨ao, cap, l, rfl, hb, hg, hR, hr⟩ := open_flat (g := u32C) (good := fun a : Int => 0 ≤ a ∧ a < 4294967296) (rel := fun _ _ => True) (es := 1) T.fr1.2.2 T.cU (by decide) (fun _ => rfl) (open_u32 T.hU) hT (slice_one T.fr1.2.2 h1)
  have := wf_u16 w0
  exact ⟨op, ao, cap, l, rfl, by omega, hg, open_cap T.fr1.2.2 hT, hR, y1.1, hy, hr⟩
end
section
variable {H : Type} {P : Program} {M I A : TypeId}
theorem raw_sized {R W U : TypeId} (T : RawTys P R W U) {ts : List TypeId} {ds : List (DataW H)} (hs : (DataW.weightsEach P ts ds).all (· ≤ reachBytes) = true) {j : Nat} {d : DataW H} {op : Int} {l : List Int} (ht : ts[j]? = some R) (hd : ds[j]? = some d) (hr : ∃ dw, d = .agg [.lit (.int .u16 op), dw] ∧ relL relU l dw) : l.length ≤ 35184372088832 := by
  have hw := weights_reach hs ht hd
  obtain ⟨da, rfl, hra⟩ := hr
  simp only [DataW.weights, T.hR, DataW.weightsEach, List.map_cons, List.map_nil, List.nil_append, List.append_nil] at hw
  obtain ⟨h3, _⟩ := rel_len T.fr1.2.2 hra hw
  rw [T.bU] at h3
  omega
end
end Go.SK
namespace Go.SK
theorem pair_or {p : Prop} [Decidable p] {x y : InstL × Int} (hx : x.2 ≠ 0 → x.1 = zeroIL) (hy : y.2 ≠ 0 → y.1 = zeroIL) : (if p then x else y).2 ≠ 0 → (if p then x else y).1 = zeroIL := by
  split
  · exact hx
  · exact hy
theorem instF_bad0 {b op : Int} {l : List Int} : (instF b op l).2 ≠ 0 → (instF b op l).1 = zeroIL := by
  unfold instF
  exact pair_or (fun _ => rfl) (pair_or (fun _ => rfl) (pair_or (fun _ => rfl) (pair_or (fun _ => rfl) (pair_or (fun _ => rfl) (fun h => absurd rfl h)))))
theorem instF_bad {b op e : Int} {l : List Int} {i : InstL} (h : instF b op l = (i, e)) (he : e ≠ 0) : i = zeroIL := by
  have := instF_bad0 (b := b) (op := op) (l := l)
  rw [h] at this
  exact this he
theorem inst_args {b op e : Int} {l : List Int} {i : InstL} (hw : Wd l) (h : instF b op l = (i, e)) : i.args.length ≤ 65535 := by
  by_cases he : e = 0
  · subst he
    obtain ⟨h1, h2, h3⟩ := inst_back hw h
    have := (fault_parts h2).2.2.2.2.2
    have := len_sum i.args
    unfold roomI at *
    omega
  · rw [instF_bad h he]; exact Nat.zero_le _
end Go.SK
