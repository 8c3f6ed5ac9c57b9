/-
  Loops and joins that keep resources.
-/
import Derived.Test.YtnbapjkldjhjoaaSkI
set_option linter.unusedVariables false
set_option linter.unusedSimpArgs false
namespace Go.SK
open Go.RowKit

/-! loops that keep some resources and turn others -/
/-- what holds of resources whatever they hold -/
structure Static (w0 : World) (M : Nat → Prop) (L D : List Res) : Prop where
  new : ∀ r ∈ L, ∀ b, r.foot b → w0.heap.size ≤ b ∨ M b
  sep : L.Pairwise Apart
  sepD : ∀ r ∈ L, ∀ d ∈ D, Apart r d

section
variable {w0 w : World} {M : Nat → Prop} {L1 L2 D : List Res}
theorem St.static (h : St w0 M (L1 ++ L2) D w) : Static w0 M L2 D where
  new := fun r hr => h.new r (List.mem_append_right _ hr)
  sep := (List.pairwise_append.1 h.sep).2.1
  sepD := fun r hr => h.sepD r (List.mem_append_right _ hr)
theorem St.toD (h : St w0 M (L1 ++ L2) D w) : St w0 M L1 (L2 ++ D) w where
  kept := h.kept
  hL := fun r hr => h.hL r (List.mem_append_left _ hr)
  hD := fun r hr => (List.mem_append.1 hr).elim (fun hr => h.hL r (List.mem_append_right _ hr)) (fun hr => h.hD r hr)
  new := fun r hr => h.new r (List.mem_append_left _ hr)
  sep := (List.pairwise_append.1 h.sep).1
  sepD := fun r hr d hd => (List.mem_append.1 hd).elim (fun hd => (List.pairwise_append.1 h.sep).2.2 r hr d hd) (fun hd => h.sepD r (List.mem_append_left _ hr) d hd)
theorem St.back (h : St w0 M L1 (L2 ++ D) w) (hs : Static w0 M L2 D) : St w0 M (L1 ++ L2) D w where
  kept := h.kept
  hL := fun r hr => (List.mem_append.1 hr).elim (fun hr => h.hL r hr) (fun hr => h.hD r (List.mem_append_left _ hr))
  hD := fun r hr => h.hD r (List.mem_append_right _ hr)
  new := fun r hr => (List.mem_append.1 hr).elim (fun hr => h.new r hr) (fun hr => hs.new r hr)
  sep := List.pairwise_append.2 ⟨h.sep, hs.sep, fun r hr s hs' => h.sepD r hr s (List.mem_append_left _ hs')⟩
  sepD := fun r hr d hd => (List.mem_append.1 hr).elim (fun hr => h.sepD r hr d (List.mem_append_right _ hd)) (fun hr => hs.sepD r hr d hd)
end

theorem Run.indS {α : Type} {P : Program} {b : Base} {k : List Item} {E : Frame → World → Prop} {w0 : World} {M : Nat → Prop} {D : List Res} (st : α → List (Nat × Value)) (keep : List Nat) (Lm : α → List Res) (J : α → Prop) (μ : α → Nat) {F : Nat → Value} {w : World} (a0 : α)
    (hst : St w0 M (Lm a0) D w) (hJ : J a0) (hf : Slots F (st a0)) (hk : Keep F F keep)
    (h : ∀ (a : α) (f : Nat → Value) (w : World), Keep F f keep → St w0 M (Lm a) D w → J a →
      (∀ (a' : α) (f' : Nat → Value) (w' : World), μ a' < μ a → St w0 M (Lm a') D w' → J a' → Keep F f' keep → Slots f' (st a') → Run P b k f' w' E) → Run P b k (sts (st a) f) w E) : Run P b k F w E :=
  Run.ind st keep (fun a w => St w0 M (Lm a) D w ∧ J a) μ a0 ⟨hst, hJ⟩ hf hk fun a f w hkf hI ih => h a f w hkf hI.1 hI.2 fun a' f' w' hlt hs hJ' hkf' hsl => ih a' f' w' hlt ⟨hs, hJ'⟩ hkf' hsl

theorem Run.cutS {α : Type} {P : Program} {b : Base} {i : Item} {k : List Item} {E : Frame → World → Prop} {w0 : World} {M : Nat → Prop} {D : List Res} (st : α → List (Nat × Value)) (keep : List Nat) (Lm : α → List Res) (J : α → Prop) {F : Nat → Value} {w : World}
    (h2 : ∀ (a : α) (f : Nat → Value) (w : World), Keep F f keep → St w0 M (Lm a) D w → J a → Run P b k (sts (st a) f) w E)
    (h1 : (∀ (a : α) (f : Nat → Value) (w : World), St w0 M (Lm a) D w → J a → Keep F f keep → Slots f (st a) → Run P b k f w E) → Run P b (i :: k) F w E) : Run P b (i :: k) F w E :=
  h1 fun a f w hs hJ hk hsl => by
    have := h2 a f w hk hs hJ
    rwa [sts_self hsl] at this

/-- slots that have stayed, read off -/
theorem Keep.get {F f : Nat → Value} : ∀ {l : List Nat} (t : Nat), Keep F f l → l.contains t = true → f t = F t
  | [], t, _, h => by simp at h
  | u :: l, t, hk, h => by
    by_cases e : t = u
    · subst e; exact hk.1
    · exact Keep.get t hk.2 (by simpa [e] using h)
theorem St.noDrop {w0 w : World} {M : Nat → Prop} {L D D' : List Res} (h : St w0 M L D w) (hp : Pick D' D) : St w0 M L D' w := h.dropD fun d hd => hp.sub d hd
end Go.SK
namespace Go.SK
theorem Run.cutC {P : Program} {b : Base} {i : Item} {k : List Item} {E : Frame → World → Prop} {w0 : World} {M : Nat → Prop} {L D : List Res} {F : Nat → Value} {w : World} (hst : St w0 M L D w) (keep : List Nat) (J : Prop)
    (h2 : ∀ (f : Nat → Value) (w : World), Keep F f keep → St w0 M L D w → J → Run P b k f w E)
    (h1 : (∀ (f : Nat → Value) (w : World), St w0 M L D w → J → Keep F f keep → Run P b k f w E) → Run P b (i :: k) F w E) : Run P b (i :: k) F w E :=
  h1 fun f w hs hJ hk => h2 f w hk hs hJ
end Go.SK
namespace Go.SK
theorem Run.cutV {α : Type} {P : Program} {b : Base} {i : Item} {k : List Item} {E : Frame → World → Prop} {w0 : World} {M : Nat → Prop} {L D : List Res} {F : Nat → Value} {w : World} (hst : St w0 M L D w) (st : α → List (Nat × Value)) (keep : List Nat) (J : α → Prop)
    (h2 : ∀ (a : α) (f : Nat → Value) (w : World), Keep F f keep → St w0 M L D w → J a → Run P b k (sts (st a) f) w E)
    (h1 : (∀ (a : α) (f : Nat → Value) (w : World), St w0 M L D w → J a → Keep F f keep → Slots f (st a) → Run P b k f w E) → Run P b (i :: k) F w E) : Run P b (i :: k) F w E :=
  h1 fun a f w hs hJ hk hsl => by
    have := h2 a f w hk hs hJ
    rwa [sts_self hsl] at this
end Go.SK
