/-
  Steps of functions, plain law, and walks of functions: what the laws rest on.
-/
import Derived.Test.YtoodfjpigminkaaSkG0a
set_option linter.unusedVariables false
set_option linter.unusedSimpArgs false
set_option linter.unusedSectionVars false
namespace Go.SK
open Go.RowKit Go.ChangeShapes Go.WideShapes Go.ChangeAt
abbrev InsW := Nat × Int × List Int
def zeroW : InsW := (0, 0, [])
def insF (w : List Int) : Nat → Nat → List InsW × Nat
  | 0, a => ([], a)
  | k + 1, a => if a < w.length ∧ (endsF w a).2 = true then ((a, w.getD a 0 % 65536, (w.drop (a + 1)).take ((w.getD a 0 / 65536).toNat - 1)) :: (insF w k (a + (w.getD a 0 / 65536).toNat)).1, (insF w k (a + (w.getD a 0 / 65536).toNat)).2) else ([], a)
abbrev insR (w : List Int) (a : Nat) : List InsW × Nat := insF w w.length a
theorem ends_true {w : List Int} (hw : Wd w) {a : Nat} (h : (endsF w a).2 = true) : 1 ≤ (w.getD a 0 / 65536).toNat ∧ a + (w.getD a 0 / 65536).toNat ≤ w.length ∧ w.getD a 0 / 65536 = ((w.getD a 0 / 65536).toNat : Int) := by
  have h1 := hw.get a
  unfold endsF at h
  split at h
  · cases h
  · omega
theorem ends_some {w : List Int} {a n : Nat} (hn : w.getD a 0 / 65536 = (n : Int)) (h1 : 1 ≤ n) (h2 : a + n ≤ w.length) : (endsF w a).2 = true := by
  rw [endsF_ok (by omega) (by omega)]
theorem insF_fuel {w : List Int} (hw : Wd w) : ∀ k k' a, w.length ≤ a + k → w.length ≤ a + k' → insF w k a = insF w k' a
  | 0, 0, a, _, _ => rfl
  | 0, k' + 1, a, h, _ => by rw [insF, insF, if_neg (by omega)]
  | k + 1, 0, a, _, h => by rw [insF, insF, if_neg (by omega)]
  | k + 1, k' + 1, a, h, h' => by
    rw [insF, insF]
    by_cases hc : a < w.length ∧ (endsF w a).2 = true
    · have := ends_true hw hc.2
      rw [if_pos hc, if_pos hc, insF_fuel hw k k' _ (by omega) (by omega)]
    · rw [if_neg hc, if_neg hc]
theorem insR_stop {w : List Int} {a : Nat} (h : a < w.length → (endsF w a).2 = false) : insR w a = ([], a) := by
  unfold insR
  cases hl : w.length with
  | zero => rfl
  | succ k =>
    rw [insF, if_neg (fun hc => by rw [h hc.1] at hc; cases hc.2)]
theorem insR_step {w : List Int} (hw : Wd w) {a n : Nat} (hn : w.getD a 0 / 65536 = (n : Int)) (h1 : 1 ≤ n) (h2 : a + n ≤ w.length) : insR w a = ((a, w.getD a 0 % 65536, (w.drop (a + 1)).take (n - 1)) :: (insR w (a + n)).1, (insR w (a + n)).2) := by
  unfold insR
  obtain ⟨k, hk⟩ : ∃ k, w.length = k + 1 := ⟨w.length - 1, by omega⟩
  have e : (w.getD a 0 / 65536).toNat = n := by omega
  rw [show insF w w.length a = insF w (k + 1) a by rw [hk], insF, if_pos ⟨by omega, ends_some hn h1 h2⟩, e, insF_fuel hw k w.length (a + n) (by omega) (by omega)]
def atI (r : List InsW × Nat) (i : Nat) : Nat := if i < r.1.length then (r.1.getD i zeroW).1 else r.2
theorem atI_zero {w : List Int} : ∀ (k a : Nat), atI (insF w k a) 0 = a
  | 0, a => rfl
  | k + 1, a => by
    rw [insF]; split
    · simp [atI]
    · rfl
theorem atI_cons (p : InsW) (l : List InsW) (e i : Nat) : atI (p :: l, e) (i + 1) = atI (l, e) i := by simp [atI]
theorem ins_chain {w : List Int} (hw : Wd w) : ∀ (k a i : Nat), i < (insF w k a).1.length → atI (insF w k a) i + 1 + ((insF w k a).1.getD i zeroW).2.2.length = atI (insF w k a) (i + 1) ∧ ((insF w k a).1.getD i zeroW).1 = atI (insF w k a) i
  | 0, a, i, h => by simp [insF] at h
  | k + 1, a, i, h => by
    rw [insF] at h ⊢
    split at h
    · rename_i hc
      have ht := ends_true hw hc.2
      rw [if_pos hc]
      cases i with
      | zero =>
        rw [atI_cons, show ((insF w k (a + (w.getD a 0 / 65536).toNat)).1, (insF w k (a + (w.getD a 0 / 65536).toNat)).2) = insF w k (a + (w.getD a 0 / 65536).toNat) from rfl, atI_zero]
        constructor
        · simp [atI]; simp at ht; omega
        · simp [atI]
      | succ i =>
        rw [atI_cons, atI_cons, List.getD_cons_succ]
        exact ins_chain hw k _ i (by simpa using h)
    · simp at h
theorem ins_end {w : List Int} (hw : Wd w) : ∀ (k a : Nat), a ≤ w.length → (insF w k a).2 ≤ w.length ∧ (insF w k a).1.length + a ≤ (insF w k a).2
  | 0, a, h => ⟨h, by simp [insF]⟩
  | k + 1, a, h => by
    rw [insF]; split
    · rename_i hc
      have ht := ends_true hw hc.2
      have := ins_end hw k (a + (w.getD a 0 / 65536).toNat) ht.2.1
      refine ⟨this.1, ?_⟩
      simp only [List.length_cons]; omega
    · exact ⟨h, by simp⟩
theorem ins_sub {w : List Int} (hw : Wd w) : ∀ (k a : Nat) (p : InsW), p ∈ (insF w k a).1 → Wd p.2.2 ∧ 0 ≤ p.2.1 ∧ p.2.1 < 65536 ∧ p.2.2.length < 65535
  | 0, a, p, h => by simp [insF] at h
  | k + 1, a, p, h => by
    rw [insF] at h
    split at h
    · rename_i hc
      have ht := ends_true hw hc.2
      have h1 := hw.get a
      simp only [List.mem_cons] at h
      rcases h with rfl | h
      · refine ⟨fun x hx => hw x (List.mem_of_mem_drop (List.mem_of_mem_take hx)), by simp only; omega, by simp only; omega, ?_⟩
        simp only [List.length_take]; omega
      · exact ins_sub hw k _ p h
    · simp at h
def wrongF (k : Nat) (x : Int) : Int := if k = 0 then (if x = 50471687 then 21 else if x = 119734787 then 0 else 20) else if k = 1 then (if x = 65536 then 0 else 22) else if k = 3 then (if x = 0 ∨ x > 65536 then 24 else 0) else if k = 4 then (if x = 0 then 0 else 23) else 0
def hd1 (w : List Int) (k : Nat) : Int := if k < w.length then wrongF k (w.getD k 0) else 14
def headE (w : List Int) : Int × Int := match (List.range 5).find? (fun k => decide (hd1 w k ≠ 0)) with
  | some k => (hd1 w k, (k : Int))
  | none => (0, 0)
theorem range_find {p : Nat → Bool} {n k : Nat} (hk : k < n) (hall : ∀ j, j < k → p j = false) (h : p k = true) : (List.range n).find? p = some k := by
  rw [List.find?_range_eq_some]
  exact ⟨h, List.mem_range.2 hk, fun j hj => by rw [hall j hj]; rfl⟩
theorem headE_bad {w : List Int} {k : Nat} (hk : k < 5) (hall : ∀ j, j < k → hd1 w j = 0) (h : hd1 w k ≠ 0) : headE w = (hd1 w k, (k : Int)) := by
  unfold headE
  rw [range_find hk (fun j hj => by simp [hall j hj]) (by simpa using h)]
theorem headE_ok {w : List Int} (hall : ∀ j, j < 5 → hd1 w j = 0) : headE w = (0, 0) := by
  unfold headE
  rw [List.find?_eq_none.2 (fun j hj => by simp [hall j (List.mem_range.1 hj)])]
theorem headE_len {w : List Int} (h : (headE w).1 = 0) : 5 ≤ w.length ∧ ∀ j, j < 5 → hd1 w j = 0 := by
  have hall : ∀ j, j < 5 → hd1 w j = 0 := by
    by_cases hx : ∃ j, j < 5 ∧ hd1 w j ≠ 0
    · exfalso
      unfold headE at h
      cases hf : (List.range 5).find? (fun k => decide (hd1 w k ≠ 0)) with
      | none =>
        obtain ⟨j, hj, hn⟩ := hx
        have := List.find?_eq_none.1 hf j (List.mem_range.2 hj)
        simp [hn] at this
      | some k =>
        rw [hf] at h
        have := List.find?_some hf
        simp at this
        exact this h
    · intro j hj
      exact Classical.not_not.1 fun hn => hx ⟨j, hj, hn⟩
  refine ⟨?_, hall⟩
  have := hall 4 (by omega)
  unfold hd1 at this
  split at this
  · omega
  · cases this
theorem hd1_take {w : List Int} {k : Nat} (hk : k < 5) : hd1 (w.take 5) k = hd1 w k := by
  have e : (w.take 5).getD k 0 = w.getD k 0 := by
    simp [List.getD, List.getElem?_take, hk]
  unfold hd1; rw [e, List.length_take]
  by_cases h : k < w.length
  · rw [if_pos h, if_pos (by omega)]
  · rw [if_neg h, if_neg (by omega)]
theorem headE_take (w : List Int) : headE (w.take 5) = headE w := by
  by_cases h : (headE w).1 = 0
  · have hl := headE_len h
    rw [headE_ok hl.2, headE_ok (fun j hj => (hd1_take hj).trans (hl.2 j hj))]
  · unfold headE at h ⊢
    cases hf : (List.range 5).find? (fun k => decide (hd1 w k ≠ 0)) with
    | none => rw [hf] at h; exact absurd rfl h
    | some k =>
      rw [List.find?_range_eq_some] at hf
      have hk := List.mem_range.1 hf.2.1
      rw [range_find (k := k) hk (fun j hj => by rw [hd1_take (by omega)]; simpa using hf.2.2 j hj) (by rw [hd1_take hk]; exact hf.1)]
      simp only [hd1_take hk]
def readF (w : List Int) : (Int × Int) × List InsW × (Int × Int) :=
  if w.length > 1048576 then ((0, 0), [], (4, 1048576))
  else if (headE w).1 ≠ 0 then ((0, 0), [], headE w)
  else if (insR w 5).2 < w.length then ((0, 0), [], (25, ((insR w 5).2 : Int)))
  else ((w.getD 2 0, w.getD 3 0), (insR w 5).1, (0, 0))
theorem readF_large {w : List Int} (h : w.length > 1048576) : readF w = ((0, 0), [], (4, 1048576)) := if_pos h
theorem readF_head {w : List Int} (h : ¬ w.length > 1048576) (h2 : (headE w).1 ≠ 0) : readF w = ((0, 0), [], headE w) := by unfold readF; rw [if_neg h, if_pos h2]
theorem readF_count {w : List Int} (h : ¬ w.length > 1048576) (h2 : (headE w).1 = 0) (h3 : (insR w 5).2 < w.length) : readF w = ((0, 0), [], (25, ((insR w 5).2 : Int))) := by unfold readF; rw [if_neg h, if_neg (fun e => e h2), if_pos h3]
theorem readF_ok {w : List Int} (h : ¬ w.length > 1048576) (h2 : (headE w).1 = 0) (h3 : ¬ (insR w 5).2 < w.length) : readF w = ((w.getD 2 0, w.getD 3 0), (insR w 5).1, (0, 0)) := by unfold readF; rw [if_neg h, if_neg (fun e => e h2), if_neg h3]
abbrev Res.oword (Tw : TypeId) (r : RawP) : Res := Res.sl r.ao r.ws.length r.cap Tw 1 (r.ws.flatMap u32C)
abbrev Res.oraws (Tr Tw : TypeId) (ao : Option Addr) (cap : Nat) (l : List RawP) : Res := Res.star (Res.sl ao l.length cap Tr 2 (l.flatMap rawC) :: l.map (Res.oword Tw))
abbrev RawP.L (r : RawP) : Int × List Int := (r.op, r.ws)
end Go.SK
namespace Go.SK
theorem headE_at {w : List Int} {k : Nat} {e : Int} (hk : k < 5) (hall : ∀ j, j < k → hd1 w j = 0) (h : hd1 w k = e) (he : e ≠ 0) : headE w = (e, (k : Int)) := by rw [headE_bad hk hall (by rw [h]; exact he), h]
theorem hd_end {l : List Int} {k : Nat} (h : k = l.length) : hd1 l k = 14 := if_neg (by omega)
theorem hd_in {l : List Int} {k : Nat} {e : Int} (h : k < l.length) (he : wrongF k (l.getD k 0) = e) : hd1 l k = e := (if_pos h).trans he
theorem wf0s {x : Int} (h : x = 50471687) : wrongF 0 x = 21 := by subst h; rfl
theorem wf0m {x : Int} (h : ¬ x = 50471687) (h2 : ¬ x = 119734787) : wrongF 0 x = 20 := by unfold wrongF; rw [if_pos rfl, if_neg h, if_neg h2]
theorem wf0k {x : Int} (h : x = 119734787) : wrongF 0 x = 0 := by subst h; rfl
theorem wf1v {x : Int} (h : ¬ x = 65536) : wrongF 1 x = 22 := by unfold wrongF; rw [if_neg (by decide), if_pos rfl, if_neg h]
theorem wf1k {x : Int} (h : x = 65536) : wrongF 1 x = 0 := by subst h; rfl
theorem wf2k {x : Int} : wrongF 2 x = 0 := rfl
theorem wf3b {x : Int} (h : x = 0 ∨ x > 65536) : wrongF 3 x = 24 := by unfold wrongF; rw [if_neg (by decide), if_neg (by decide), if_pos rfl, if_pos h]
theorem wf3k {x : Int} (h : ¬ x = 0) (h2 : ¬ x > 65536) : wrongF 3 x = 0 := by unfold wrongF; rw [if_neg (by decide), if_neg (by decide), if_pos rfl, if_neg (fun h3 => h3.elim h h2)]
theorem wf4s {x : Int} (h : ¬ x = 0) : wrongF 4 x = 23 := by unfold wrongF; rw [if_neg (by decide), if_neg (by decide), if_neg (by decide), if_pos rfl, if_neg h]
theorem wf4k {x : Int} (h : x = 0) : wrongF 4 x = 0 := by subst h; rfl
theorem no_lt {p : Nat → Prop} : ∀ j, j < 0 → p j := fun j hj => absurd hj (Nat.not_lt_zero j)
abbrev headC (e : Int × Int) (a b : Int) : Value := .tuple #[.agg #[.int .u32 a, .int .u32 b], .agg #[.int .i64 e.1, .int .i64 e.2]]
abbrev headV (l : List Int) : Value := if (headE l).1 = 0 then headC (headE l) (l.getD 2 0) (l.getD 3 0) else headC (headE l) 0 0
theorem headV_bad {l : List Int} {e k : Int} (h : headE l = (e, k)) (he : e ≠ 0) : headV l = headC (e, k) 0 0 := by unfold headV; rw [h, if_neg he]
theorem headV_ok {l : List Int} (h : headE l = (0, 0)) : headV l = headC (0, 0) (l.getD 2 0) (l.getD 3 0) := by unfold headV; rw [h, if_pos rfl]
end Go.SK
namespace Go.SK
theorem drop_head {α : Type} {l t : List α} {p : α} {k : Nat} (d : α) (h : l.drop k = p :: t) : k < l.length ∧ l.getD k d = p ∧ l.drop (k + 1) = t := by
  have hk : k < l.length := by
    rcases Nat.lt_or_ge k l.length with h1 | h1
    · exact h1
    · rw [List.drop_of_length_le h1] at h; cases h
  rw [List.drop_eq_getElem_cons hk] at h
  injection h with h1 h2
  exact ⟨hk, by simp [List.getD, hk, h1], h2⟩
theorem drop_none {α : Type} {l : List α} {k : Nat} (h : l.drop k = []) (hk : k ≤ l.length) : k = l.length := by
  have := congrArg List.length h
  simp at this; omega
abbrev rawV (p : InsW) (ro : Option Addr) (rc : Nat) : Value := .agg #[.int .u16 p.2.1, .slice ro p.2.2.length rc]
abbrev itemW (Tw : TypeId) (its : List InsW) (i : Nat) (vs : List Value) (r : Res) : Prop := ∃ ro rc, vs = [.int .i64 ((its.getD i zeroW).1 : Int), rawV (its.getD i zeroW) ro rc] ∧ r = Res.sl ro (its.getD i zeroW).2.2.length rc Tw 1 ((its.getD i zeroW).2.2.flatMap u32C)
end Go.SK
namespace Go.SK
theorem atI_le {w : List Int} (hw : Wd w) : ∀ (k a i : Nat), a ≤ w.length → atI (insF w k a) i ≤ w.length
  | 0, a, i, h => by simpa [atI, insF] using h
  | k + 1, a, i, h => by
    rw [insF]; split
    · rename_i hc
      have ht := ends_true hw hc.2
      cases i with
      | zero => simpa [atI] using h
      | succ i => rw [atI_cons]; exact atI_le hw k _ i ht.2.1
    · simpa [atI] using h
end Go.SK
namespace Go.SK
open Go.RowKit Go.ChangeShapes Go.WideShapes Go.ChangeAt
abbrev RawL := Int × List Int
def rawW (r : RawL) : List Int := (((r.2.length : Int) + 1) * 65536 + r.1) :: r.2
def writeW (gn bd : Int) (l : List RawL) : List Int := [119734787, 65536, gn, bd, 0] ++ l.flatMap rawW
abbrev lenL (r : RawL) : Nat := r.2.length
def writeF (gn bd : Int) (l : List RawL) : List Int × (Int × Int) :=
  if bd = 0 ∨ bd > 65536 then ([], (24, 0)) else if (cntF 5 0 (l.map lenL)).2.1 ≠ 0 then ([], (cntF 5 0 (l.map lenL)).2) else (writeW gn bd l, (0, 0))
theorem writeF_bound {gn bd : Int} {l : List RawL} (h : bd = 0 ∨ bd > 65536) : writeF gn bd l = ([], (24, 0)) := if_pos h
theorem writeF_bad {gn bd : Int} {l : List RawL} (h1 : ¬ bd = 0) (h2 : ¬ bd > 65536) (h : (cntF 5 0 (l.map lenL)).2.1 ≠ 0) : writeF gn bd l = ([], (cntF 5 0 (l.map lenL)).2) := by
  unfold writeF; rw [if_neg (fun h3 => h3.elim h1 h2), if_pos h]
theorem writeF_ok {gn bd : Int} {l : List RawL} (h1 : ¬ bd = 0) (h2 : ¬ bd > 65536) (h : (cntF 5 0 (l.map lenL)).2.1 = 0) : writeF gn bd l = (writeW gn bd l, (0, 0)) := by
  unfold writeF; rw [if_neg (fun h3 => h3.elim h1 h2), if_neg (fun e => e h)]
theorem cnt_good : ∀ {ks : List Nat} {n i : Nat}, n ≤ 1048576 → (cntF n i ks).2.1 = 0 → cntF n i ks = (((n + (ks.map (· + 1)).sum : Nat) : Int), 0, 0) ∧ (∀ k ∈ ks, k < 65535) ∧ n + (ks.map (· + 1)).sum ≤ 1048576
  | [], n, i, hn, h => ⟨by simp [cntF], by simp, by simpa using hn⟩
  | k :: ks, n, i, hn, h => by
    rw [cntF] at h ⊢
    split at h
    · cases h
    · split at h
      · cases h
      · rename_i h1 h2
        rw [if_neg h1, if_neg h2]
        have ih := cnt_good (by omega) h
        refine ⟨ih.1.trans ?_, ?_, ?_⟩
        · simp only [List.map_cons, List.sum_cons]
          rw [show n + 1 + k + (ks.map (· + 1)).sum = n + (k + 1 + (ks.map (· + 1)).sum) by omega]
        · intro x hx
          cases hx with
          | head => omega
          | tail _ hx => exact ih.2.1 x hx
        · have := ih.2.2
          simp only [List.map_cons, List.sum_cons]; omega
theorem rawW_len (r : RawL) : (rawW r).length = r.2.length + 1 := by simp [rawW]
theorem writeW_len (gn bd : Int) (l : List RawL) : (writeW gn bd l).length = 5 + ((l.map lenL).map (· + 1)).sum := by
  unfold writeW
  rw [List.length_append, List.length_flatMap]
  have : l.map (fun r => (rawW r).length) = (l.map lenL).map (· + 1) := by
    rw [List.map_map]; exact List.map_congr_left fun r _ => rawW_len r
  rw [this]; rfl
theorem writeW_take {gn bd : Int} {l : List RawP} {i : Nat} (h : i < l.length) : writeW gn bd ((l.take (i + 1)).map RawP.L) = writeW gn bd ((l.take i).map RawP.L) ++ [(((l.getD i zeroR).ws.length : Int) + 1) * 65536 + (l.getD i zeroR).op] ++ (l.getD i zeroR).ws := by
  rw [take_getD2 (d := zeroR) h]
  simp [writeW, rawW, List.flatMap_append]
theorem lens_eq (l : List RawP) : l.map rawN = (l.map RawP.L).map lenL := by rw [List.map_map]; rfl
theorem sum_le {ks : List Nat} {i : Nat} : ((ks.take i).map (· + 1)).sum ≤ (ks.map (· + 1)).sum := by
  have := congrArg (fun l : List Nat => (l.map (· + 1)).sum) (List.take_append_drop i ks)
  simp only [List.map_append, List.sum_append] at this
  omega
theorem writeW_le (gn bd : Int) (l : List RawP) (i : Nat) : (writeW gn bd ((l.take i).map RawP.L)).length ≤ (writeW gn bd (l.map RawP.L)).length := by
  rw [writeW_len, writeW_len]
  have := sum_le (ks := (l.map RawP.L).map lenL) (i := i)
  rw [← List.map_take, ← List.map_take] at this
  omega
abbrev Res.rword (r : RawP) : Res := Res.rs r.ao r.ws.length 1 (r.ws.flatMap u32C)
abbrev Res.rraws (ao : Option Addr) (l : List RawP) : Res := Res.all (Res.rs ao l.length 2 (l.flatMap rawC) :: l.map Res.rword)
theorem Res.rraws_raws {ao : Option Addr} {l : List RawP} {w : World} (h : (Res.rraws ao l).holds w) : (Res.rs ao l.length 2 (l.flatMap rawC)).holds w := h _ (.head _)
theorem Res.rraws_ws {ao : Option Addr} {l : List RawP} {w : World} (h : (Res.rraws ao l).holds w) {r : RawP} (hr : r ∈ l) : (Res.rword r).holds w := h _ (.tail _ (List.mem_map_of_mem hr))
theorem Res.rraws_wsI {ao : Option Addr} {l : List RawP} {w : World} (h : (Res.rraws ao l).holds w) {i : Nat} (hi : i < l.length) : (Res.rword (l.getD i zeroR)).holds w := Res.rraws_ws h (getD_memD hi)
theorem Res.rraws_of_oraws {Tr Tw : TypeId} {ao : Option Addr} {cap : Nat} {l : List RawP} {w : World} (h : (Res.oraws Tr Tw ao cap l).holds w) : (Res.rraws ao l).holds w := by
  intro r hr
  cases hr with
  | head => exact Res.rs_of_sl (h.1 _ (.head _))
  | tail _ hr =>
    obtain ⟨i, hi, rfl⟩ := List.mem_map.1 hr
    exact Res.rs_of_sl (h.1 (Res.oword Tw i) (.tail _ (List.mem_map_of_mem hi)))
end Go.SK
namespace Go.SK
abbrev Byts := List UInt8
def firstT : List (Int × Byts) := [(1, [79, 112, 85, 110, 100, 101, 102, 32, 84, 82, 32, 32, 32, 32, 55]),
  (3, [79, 112, 83, 111, 117, 114, 99, 101, 32, 32, 108, 110, 32, 32, 32, 52]),
  (5, [79, 112, 78, 97, 109, 101, 32, 32, 105, 115, 32, 32, 32, 53]),
  (6, [79, 112, 77, 101, 109, 98, 101, 114, 78, 97, 109, 101, 32, 32, 105, 110, 115, 32, 32, 32, 53]),
  (7, [79, 112, 83, 116, 114, 105, 110, 103, 32, 82, 32, 115, 32, 32, 32, 52]),
  (14, [79, 112, 77, 101, 109, 111, 114, 121, 77, 111, 100, 101, 108, 32, 32, 97, 109, 32, 32, 32, 49]),
  (15, [79, 112, 69, 110, 116, 114, 121, 80, 111, 105, 110, 116, 32, 32, 101, 105, 115, 32, 105, 32, 32, 50]),
  (16, [79, 112, 69, 120, 101, 99, 117, 116, 105, 111, 110, 77, 111, 100, 101, 32, 32, 105, 120, 32, 32, 32, 51]),
  (17, [79, 112, 67, 97, 112, 97, 98, 105, 108, 105, 116, 121, 32, 32, 107, 32, 32, 32, 48]),
  (19, [79, 112, 84, 121, 112, 101, 86, 111, 105, 100, 32, 82, 32, 32, 32, 32, 55]),
  (20, [79, 112, 84, 121, 112, 101, 66, 111, 111, 108, 32, 82, 32, 32, 32, 32, 55]),
  (21, [79, 112, 84, 121, 112, 101, 73, 110, 116, 32, 82, 32, 110, 110, 32, 32, 32, 55]),
  (23, [79, 112, 84, 121, 112, 101, 86, 101, 99, 116, 111, 114, 32, 82, 32, 105, 110, 32, 32, 32, 55]),
  (28, [79, 112, 84, 121, 112, 101, 65, 114, 114, 97, 121, 32, 82, 32, 105, 105, 32, 32, 32, 55]),
  (30, [79, 112, 84, 121, 112, 101, 83, 116, 114, 117, 99, 116, 32, 82, 32, 32, 105, 32, 32, 55]),
  (32, [79, 112, 84, 121, 112, 101, 80, 111, 105, 110, 116, 101, 114, 32, 82, 32, 99, 105, 32, 32, 32, 55]),
  (33, [79, 112, 84, 121, 112, 101, 70, 117, 110, 99, 116, 105, 111, 110, 32, 82, 32, 105, 32, 105, 32, 32, 55]),
  (41, [79, 112, 67, 111, 110, 115, 116, 97, 110, 116, 84, 114, 117, 101, 32, 84, 82, 32, 32, 32, 32, 55]),
  (42, [79, 112, 67, 111, 110, 115, 116, 97, 110, 116, 70, 97, 108, 115, 101, 32, 84, 82, 32, 32, 32, 32, 55]),
  (43, [79, 112, 67, 111, 110, 115, 116, 97, 110, 116, 32, 84, 82, 32, 110, 32, 32, 32, 55]),
  (44, [79, 112, 67, 111, 110, 115, 116, 97, 110, 116, 67, 111, 109, 112, 111, 115, 105, 116, 101, 32, 84, 82, 32, 32, 105, 32, 32, 55]),
  (46, [79, 112, 67, 111, 110, 115, 116, 97, 110, 116, 78, 117, 108, 108, 32, 84, 82, 32, 32, 32, 32, 55]),
  (54, [79, 112, 70, 117, 110, 99, 116, 105, 111, 110, 32, 84, 82, 32, 102, 105, 32, 32, 32, 56]),
  (55, [79, 112, 70, 117, 110, 99, 116, 105, 111, 110, 80, 97, 114, 97, 109, 101, 116, 101, 114, 32, 84, 82, 32, 32, 32, 32, 56]),
  (56, [79, 112, 70, 117, 110, 99, 116, 105, 111, 110, 69, 110, 100, 32, 32, 32, 32, 32, 56]),
  (57, [79, 112, 70, 117, 110, 99, 116, 105, 111, 110, 67, 97, 108, 108, 32, 84, 82, 32, 105, 32, 105, 32, 32, 56]),
  (59, [79, 112, 86, 97, 114, 105, 97, 98, 108, 101, 32, 84, 82, 32, 99, 32, 105, 32, 49, 32, 55]),
  (61, [79, 112, 76, 111, 97, 100, 32, 84, 82, 32, 105, 32, 32, 32, 56]),
  (62, [79, 112, 83, 116, 111, 114, 101, 32, 32, 105, 105, 32, 32, 32, 56]),
  (65, [79, 112, 65, 99, 99, 101, 115, 115, 67, 104, 97, 105, 110, 32, 84, 82, 32, 105, 32, 105, 32, 32, 56]),
  (71, [79, 112, 68, 101, 99, 111, 114, 97, 116, 101, 32, 32, 105, 100, 32, 110, 32, 32, 54])]
def secondT : List (Int × Byts) := [(77, [79, 112, 86, 101, 99, 116, 111, 114, 69, 120, 116, 114, 97, 99, 116, 68, 121, 110, 97, 109, 105, 99, 32, 84, 82, 32, 105, 105, 32, 32, 32, 56]),
  (78, [79, 112, 86, 101, 99, 116, 111, 114, 73, 110, 115, 101, 114, 116, 68, 121, 110, 97, 109, 105, 99, 32, 84, 82, 32, 105, 105, 105, 32, 32, 32, 56]),
  (79, [79, 112, 86, 101, 99, 116, 111, 114, 83, 104, 117, 102, 102, 108, 101, 32, 84, 82, 32, 105, 105, 32, 110, 32, 32, 56]),
  (80, [79, 112, 67, 111, 109, 112, 111, 115, 105, 116, 101, 67, 111, 110, 115, 116, 114, 117, 99, 116, 32, 84, 82, 32, 32, 105, 32, 32, 56]),
  (81, [79, 112, 67, 111, 109, 112, 111, 115, 105, 116, 101, 69, 120, 116, 114, 97, 99, 116, 32, 84, 82, 32, 105, 32, 110, 32, 32, 56]),
  (82, [79, 112, 67, 111, 109, 112, 111, 115, 105, 116, 101, 73, 110, 115, 101, 114, 116, 32, 84, 82, 32, 105, 105, 32, 110, 32, 32, 56]),
  (83, [79, 112, 67, 111, 112, 121, 79, 98, 106, 101, 99, 116, 32, 84, 82, 32, 105, 32, 32, 32, 56]),
  (124, [79, 112, 66, 105, 116, 99, 97, 115, 116, 32, 84, 82, 32, 105, 32, 32, 32, 56]),
  (126, [79, 112, 83, 78, 101, 103, 97, 116, 101, 32, 84, 82, 32, 105, 32, 32, 32, 56]),
  (128, [79, 112, 73, 65, 100, 100, 32, 84, 82, 32, 105, 105, 32, 32, 32, 56]),
  (130, [79, 112, 73, 83, 117, 98, 32, 84, 82, 32, 105, 105, 32, 32, 32, 56]),
  (132, [79, 112, 73, 77, 117, 108, 32, 84, 82, 32, 105, 105, 32, 32, 32, 56]),
  (134, [79, 112, 85, 68, 105, 118, 32, 84, 82, 32, 105, 105, 32, 32, 32, 56]),
  (135, [79, 112, 83, 68, 105, 118, 32, 84, 82, 32, 105, 105, 32, 32, 32, 56]),
  (137, [79, 112, 85, 77, 111, 100, 32, 84, 82, 32, 105, 105, 32, 32, 32, 56]),
  (138, [79, 112, 83, 82, 101, 109, 32, 84, 82, 32, 105, 105, 32, 32, 32, 56]),
  (139, [79, 112, 83, 77, 111, 100, 32, 84, 82, 32, 105, 105, 32, 32, 32, 56]),
  (149, [79, 112, 73, 65, 100, 100, 67, 97, 114, 114, 121, 32, 84, 82, 32, 105, 105, 32, 32, 32, 56]),
  (150, [79, 112, 73, 83, 117, 98, 66, 111, 114, 114, 111, 119, 32, 84, 82, 32, 105, 105, 32, 32, 32, 56]),
  (151, [79, 112, 85, 77, 117, 108, 69, 120, 116, 101, 110, 100, 101, 100, 32, 84, 82, 32, 105, 105, 32, 32, 32, 56]),
  (152, [79, 112, 83, 77, 117, 108, 69, 120, 116, 101, 110, 100, 101, 100, 32, 84, 82, 32, 105, 105, 32, 32, 32, 56]),
  (154, [79, 112, 65, 110, 121, 32, 84, 82, 32, 105, 32, 32, 32, 56]),
  (155, [79, 112, 65, 108, 108, 32, 84, 82, 32, 105, 32, 32, 32, 56]),
  (164, [79, 112, 76, 111, 103, 105, 99, 97, 108, 69, 113, 117, 97, 108, 32, 84, 82, 32, 105, 105, 32, 32, 32, 56]),
  (165, [79, 112, 76, 111, 103, 105, 99, 97, 108, 78, 111, 116, 69, 113, 117, 97, 108, 32, 84, 82, 32, 105, 105, 32, 32, 32, 56]),
  (166, [79, 112, 76, 111, 103, 105, 99, 97, 108, 79, 114, 32, 84, 82, 32, 105, 105, 32, 32, 32, 56]),
  (167, [79, 112, 76, 111, 103, 105, 99, 97, 108, 65, 110, 100, 32, 84, 82, 32, 105, 105, 32, 32, 32, 56]),
  (168, [79, 112, 76, 111, 103, 105, 99, 97, 108, 78, 111, 116, 32, 84, 82, 32, 105, 32, 32, 32, 56]),
  (169, [79, 112, 83, 101, 108, 101, 99, 116, 32, 84, 82, 32, 105, 105, 105, 32, 32, 32, 56]),
  (170, [79, 112, 73, 69, 113, 117, 97, 108, 32, 84, 82, 32, 105, 105, 32, 32, 32, 56]),
  (171, [79, 112, 73, 78, 111, 116, 69, 113, 117, 97, 108, 32, 84, 82, 32, 105, 105, 32, 32, 32, 56])]
def thirdT : List (Int × Byts) := [(172, [79, 112, 85, 71, 114, 101, 97, 116, 101, 114, 84, 104, 97, 110, 32, 84, 82, 32, 105, 105, 32, 32, 32, 56]),
  (173, [79, 112, 83, 71, 114, 101, 97, 116, 101, 114, 84, 104, 97, 110, 32, 84, 82, 32, 105, 105, 32, 32, 32, 56]),
  (174, [79, 112, 85, 71, 114, 101, 97, 116, 101, 114, 84, 104, 97, 110, 69, 113, 117, 97, 108, 32, 84, 82, 32, 105, 105, 32, 32, 32, 56]),
  (175, [79, 112, 83, 71, 114, 101, 97, 116, 101, 114, 84, 104, 97, 110, 69, 113, 117, 97, 108, 32, 84, 82, 32, 105, 105, 32, 32, 32, 56]),
  (176, [79, 112, 85, 76, 101, 115, 115, 84, 104, 97, 110, 32, 84, 82, 32, 105, 105, 32, 32, 32, 56]),
  (177, [79, 112, 83, 76, 101, 115, 115, 84, 104, 97, 110, 32, 84, 82, 32, 105, 105, 32, 32, 32, 56]),
  (178, [79, 112, 85, 76, 101, 115, 115, 84, 104, 97, 110, 69, 113, 117, 97, 108, 32, 84, 82, 32, 105, 105, 32, 32, 32, 56]),
  (179, [79, 112, 83, 76, 101, 115, 115, 84, 104, 97, 110, 69, 113, 117, 97, 108, 32, 84, 82, 32, 105, 105, 32, 32, 32, 56]),
  (194, [79, 112, 83, 104, 105, 102, 116, 82, 105, 103, 104, 116, 76, 111, 103, 105, 99, 97, 108, 32, 84, 82, 32, 105, 105, 32, 32, 32, 56]),
  (195, [79, 112, 83, 104, 105, 102, 116, 82, 105, 103, 104, 116, 65, 114, 105, 116, 104, 109, 101, 116, 105, 99, 32, 84, 82, 32, 105, 105, 32, 32, 32, 56]),
  (196, [79, 112, 83, 104, 105, 102, 116, 76, 101, 102, 116, 76, 111, 103, 105, 99, 97, 108, 32, 84, 82, 32, 105, 105, 32, 32, 32, 56]),
  (197, [79, 112, 66, 105, 116, 119, 105, 115, 101, 79, 114, 32, 84, 82, 32, 105, 105, 32, 32, 32, 56]),
  (198, [79, 112, 66, 105, 116, 119, 105, 115, 101, 88, 111, 114, 32, 84, 82, 32, 105, 105, 32, 32, 32, 56]),
  (199, [79, 112, 66, 105, 116, 119, 105, 115, 101, 65, 110, 100, 32, 84, 82, 32, 105, 105, 32, 32, 32, 56]),
  (200, [79, 112, 78, 111, 116, 32, 84, 82, 32, 105, 32, 32, 32, 56]),
  (201, [79, 112, 66, 105, 116, 70, 105, 101, 108, 100, 73, 110, 115, 101, 114, 116, 32, 84, 82, 32, 105, 105, 105, 105, 32, 32, 32, 56]),
  (202, [79, 112, 66, 105, 116, 70, 105, 101, 108, 100, 83, 69, 120, 116, 114, 97, 99, 116, 32, 84, 82, 32, 105, 105, 105, 32, 32, 32, 56]),
  (203, [79, 112, 66, 105, 116, 70, 105, 101, 108, 100, 85, 69, 120, 116, 114, 97, 99, 116, 32, 84, 82, 32, 105, 105, 105, 32, 32, 32, 56]),
  (204, [79, 112, 66, 105, 116, 82, 101, 118, 101, 114, 115, 101, 32, 84, 82, 32, 105, 32, 32, 32, 56]),
  (205, [79, 112, 66, 105, 116, 67, 111, 117, 110, 116, 32, 84, 82, 32, 105, 32, 32, 32, 56]),
  (245, [79, 112, 80, 104, 105, 32, 84, 82, 32, 32, 105, 105, 32, 32, 56]),
  (246, [79, 112, 76, 111, 111, 112, 77, 101, 114, 103, 101, 32, 32, 105, 105, 103, 32, 32, 32, 56]),
  (247, [79, 112, 83, 101, 108, 101, 99, 116, 105, 111, 110, 77, 101, 114, 103, 101, 32, 32, 105, 104, 32, 32, 32, 56]),
  (248, [79, 112, 76, 97, 98, 101, 108, 32, 82, 32, 32, 32, 32, 56]),
  (249, [79, 112, 66, 114, 97, 110, 99, 104, 32, 32, 105, 32, 32, 32, 56]),
  (250, [79, 112, 66, 114, 97, 110, 99, 104, 67, 111, 110, 100, 105, 116, 105, 111, 110, 97, 108, 32, 32, 105, 105, 105, 32, 32, 32, 56]),
  (251, [79, 112, 83, 119, 105, 116, 99, 104, 32, 32, 105, 105, 32, 110, 105, 32, 32, 56]),
  (252, [79, 112, 75, 105, 108, 108, 32, 32, 32, 32, 32, 56]),
  (253, [79, 112, 82, 101, 116, 117, 114, 110, 32, 32, 32, 32, 32, 56]),
  (254, [79, 112, 82, 101, 116, 117, 114, 110, 86, 97, 108, 117, 101, 32, 32, 105, 32, 32, 32, 56]),
  (255, [79, 112, 85, 110, 114, 101, 97, 99, 104, 97, 98, 108, 101, 32, 32, 32, 32, 32, 56])]
def namesT : List (Int × Byts) := [(107, [48, 32, 77, 97, 116, 114, 105, 120, 32, 49, 32, 83, 104, 97, 100, 101, 114, 32]),
  (97, [48, 32, 76, 111, 103, 105, 99, 97, 108, 32]),
  (109, [48, 32, 83, 105, 109, 112, 108, 101, 32, 49, 32, 71, 76, 83, 76, 52, 53, 48, 32]),
  (101, [48, 32, 86, 101, 114, 116, 101, 120, 32, 52, 32, 70, 114, 97, 103, 109, 101, 110, 116, 32]),
  (120, [55, 32, 79, 114, 105, 103, 105, 110, 85, 112, 112, 101, 114, 76, 101, 102, 116, 32]),
  (108, [48, 32, 85, 110, 107, 110, 111, 119, 110, 32, 49, 32, 69, 83, 83, 76, 32, 50, 32, 71, 76, 83, 76, 32]),
  (99, [49, 32, 73, 110, 112, 117, 116, 32, 51, 32, 79, 117, 116, 112, 117, 116, 32, 54, 32, 80, 114, 105, 118, 97, 116, 101, 32, 55, 32, 70, 117, 110, 99, 116, 105, 111, 110, 32]),
  (100, [48, 32, 82, 101, 108, 97, 120, 101, 100, 80, 114, 101, 99, 105, 115, 105, 111, 110, 32, 49, 49, 32, 66, 117, 105, 108, 116, 73, 110, 32, 49, 52, 32, 70, 108, 97, 116, 32, 51, 48, 32, 76, 111, 99, 97, 116, 105, 111, 110, 32]),
  (102, [48, 32, 78, 111, 110, 101, 32, 49, 32, 73, 110, 108, 105, 110, 101, 32, 50, 32, 68, 111, 110, 116, 73, 110, 108, 105, 110, 101, 32, 52, 32, 80, 117, 114, 101, 32, 56, 32, 67, 111, 110, 115, 116, 32]),
  (104, [48, 32, 78, 111, 110, 101, 32, 49, 32, 70, 108, 97, 116, 116, 101, 110, 32, 50, 32, 68, 111, 110, 116, 70, 108, 97, 116, 116, 101, 110, 32]),
  (103, [48, 32, 78, 111, 110, 101, 32, 49, 32, 85, 110, 114, 111, 108, 108, 32, 50, 32, 68, 111, 110, 116, 85, 110, 114, 111, 108, 108, 32])]
structure FormL where
  op : Int
  name : Byts
  ty : Bool
  res : Bool
  fixed : Byts
  rest : Byts
  most : Int
  part : Int
  deriving DecidableEq
def refT : List FormL := [⟨1, [79, 112, 85, 110, 100, 101, 102], true, true, [], [], 0, 7⟩,
  ⟨3, [79, 112, 83, 111, 117, 114, 99, 101], false, false, [108, 110], [], 0, 4⟩,
  ⟨5, [79, 112, 78, 97, 109, 101], false, false, [105, 115], [], 0, 5⟩,
  ⟨6, [79, 112, 77, 101, 109, 98, 101, 114, 78, 97, 109, 101], false, false, [105, 110, 115], [], 0, 5⟩,
  ⟨7, [79, 112, 83, 116, 114, 105, 110, 103], false, true, [115], [], 0, 4⟩,
  ⟨14, [79, 112, 77, 101, 109, 111, 114, 121, 77, 111, 100, 101, 108], false, false, [97, 109], [], 0, 1⟩,
  ⟨15, [79, 112, 69, 110, 116, 114, 121, 80, 111, 105, 110, 116], false, false, [101, 105, 115], [105], 0, 2⟩,
  ⟨16, [79, 112, 69, 120, 101, 99, 117, 116, 105, 111, 110, 77, 111, 100, 101], false, false, [105, 120], [], 0, 3⟩,
  ⟨17, [79, 112, 67, 97, 112, 97, 98, 105, 108, 105, 116, 121], false, false, [107], [], 0, 0⟩,
  ⟨19, [79, 112, 84, 121, 112, 101, 86, 111, 105, 100], false, true, [], [], 0, 7⟩,
  ⟨20, [79, 112, 84, 121, 112, 101, 66, 111, 111, 108], false, true, [], [], 0, 7⟩,
  ⟨21, [79, 112, 84, 121, 112, 101, 73, 110, 116], false, true, [110, 110], [], 0, 7⟩,
  ⟨23, [79, 112, 84, 121, 112, 101, 86, 101, 99, 116, 111, 114], false, true, [105, 110], [], 0, 7⟩,
  ⟨28, [79, 112, 84, 121, 112, 101, 65, 114, 114, 97, 121], false, true, [105, 105], [], 0, 7⟩,
  ⟨30, [79, 112, 84, 121, 112, 101, 83, 116, 114, 117, 99, 116], false, true, [], [105], 0, 7⟩,
  ⟨32, [79, 112, 84, 121, 112, 101, 80, 111, 105, 110, 116, 101, 114], false, true, [99, 105], [], 0, 7⟩,
  ⟨33, [79, 112, 84, 121, 112, 101, 70, 117, 110, 99, 116, 105, 111, 110], false, true, [105], [105], 0, 7⟩,
  ⟨41, [79, 112, 67, 111, 110, 115, 116, 97, 110, 116, 84, 114, 117, 101], true, true, [], [], 0, 7⟩,
  ⟨42, [79, 112, 67, 111, 110, 115, 116, 97, 110, 116, 70, 97, 108, 115, 101], true, true, [], [], 0, 7⟩,
  ⟨43, [79, 112, 67, 111, 110, 115, 116, 97, 110, 116], true, true, [110], [], 0, 7⟩,
  ⟨44, [79, 112, 67, 111, 110, 115, 116, 97, 110, 116, 67, 111, 109, 112, 111, 115, 105, 116, 101], true, true, [], [105], 0, 7⟩,
  ⟨46, [79, 112, 67, 111, 110, 115, 116, 97, 110, 116, 78, 117, 108, 108], true, true, [], [], 0, 7⟩,
  ⟨54, [79, 112, 70, 117, 110, 99, 116, 105, 111, 110], true, true, [102, 105], [], 0, 8⟩,
  ⟨55, [79, 112, 70, 117, 110, 99, 116, 105, 111, 110, 80, 97, 114, 97, 109, 101, 116, 101, 114], true, true, [], [], 0, 8⟩,
  ⟨56, [79, 112, 70, 117, 110, 99, 116, 105, 111, 110, 69, 110, 100], false, false, [], [], 0, 8⟩,
  ⟨57, [79, 112, 70, 117, 110, 99, 116, 105, 111, 110, 67, 97, 108, 108], true, true, [105], [105], 0, 8⟩,
  ⟨59, [79, 112, 86, 97, 114, 105, 97, 98, 108, 101], true, true, [99], [105], 1, 7⟩,
  ⟨61, [79, 112, 76, 111, 97, 100], true, true, [105], [], 0, 8⟩,
  ⟨62, [79, 112, 83, 116, 111, 114, 101], false, false, [105, 105], [], 0, 8⟩,
  ⟨65, [79, 112, 65, 99, 99, 101, 115, 115, 67, 104, 97, 105, 110], true, true, [105], [105], 0, 8⟩,
  ⟨71, [79, 112, 68, 101, 99, 111, 114, 97, 116, 101], false, false, [105, 100], [110], 0, 6⟩,
  ⟨77, [79, 112, 86, 101, 99, 116, 111, 114, 69, 120, 116, 114, 97, 99, 116, 68, 121, 110, 97, 109, 105, 99], true, true, [105, 105], [], 0, 8⟩,
  ⟨78, [79, 112, 86, 101, 99, 116, 111, 114, 73, 110, 115, 101, 114, 116, 68, 121, 110, 97, 109, 105, 99], true, true, [105, 105, 105], [], 0, 8⟩,
  ⟨79, [79, 112, 86, 101, 99, 116, 111, 114, 83, 104, 117, 102, 102, 108, 101], true, true, [105, 105], [110], 0, 8⟩,
  ⟨80, [79, 112, 67, 111, 109, 112, 111, 115, 105, 116, 101, 67, 111, 110, 115, 116, 114, 117, 99, 116], true, true, [], [105], 0, 8⟩,
  ⟨81, [79, 112, 67, 111, 109, 112, 111, 115, 105, 116, 101, 69, 120, 116, 114, 97, 99, 116], true, true, [105], [110], 0, 8⟩,
  ⟨82, [79, 112, 67, 111, 109, 112, 111, 115, 105, 116, 101, 73, 110, 115, 101, 114, 116], true, true, [105, 105], [110], 0, 8⟩,
  ⟨83, [79, 112, 67, 111, 112, 121, 79, 98, 106, 101, 99, 116], true, true, [105], [], 0, 8⟩,
  ⟨124, [79, 112, 66, 105, 116, 99, 97, 115, 116], true, true, [105], [], 0, 8⟩,
  ⟨126, [79, 112, 83, 78, 101, 103, 97, 116, 101], true, true, [105], [], 0, 8⟩,
  ⟨128, [79, 112, 73, 65, 100, 100], true, true, [105, 105], [], 0, 8⟩,
  ⟨130, [79, 112, 73, 83, 117, 98], true, true, [105, 105], [], 0, 8⟩,
  ⟨132, [79, 112, 73, 77, 117, 108], true, true, [105, 105], [], 0, 8⟩,
  ⟨134, [79, 112, 85, 68, 105, 118], true, true, [105, 105], [], 0, 8⟩,
  ⟨135, [79, 112, 83, 68, 105, 118], true, true, [105, 105], [], 0, 8⟩,
  ⟨137, [79, 112, 85, 77, 111, 100], true, true, [105, 105], [], 0, 8⟩,
  ⟨138, [79, 112, 83, 82, 101, 109], true, true, [105, 105], [], 0, 8⟩,
  ⟨139, [79, 112, 83, 77, 111, 100], true, true, [105, 105], [], 0, 8⟩,
  ⟨149, [79, 112, 73, 65, 100, 100, 67, 97, 114, 114, 121], true, true, [105, 105], [], 0, 8⟩,
  ⟨150, [79, 112, 73, 83, 117, 98, 66, 111, 114, 114, 111, 119], true, true, [105, 105], [], 0, 8⟩,
  ⟨151, [79, 112, 85, 77, 117, 108, 69, 120, 116, 101, 110, 100, 101, 100], true, true, [105, 105], [], 0, 8⟩,
  ⟨152, [79, 112, 83, 77, 117, 108, 69, 120, 116, 101, 110, 100, 101, 100], true, true, [105, 105], [], 0, 8⟩,
  ⟨154, [79, 112, 65, 110, 121], true, true, [105], [], 0, 8⟩,
  ⟨155, [79, 112, 65, 108, 108], true, true, [105], [], 0, 8⟩,
  ⟨164, [79, 112, 76, 111, 103, 105, 99, 97, 108, 69, 113, 117, 97, 108], true, true, [105, 105], [], 0, 8⟩,
  ⟨165, [79, 112, 76, 111, 103, 105, 99, 97, 108, 78, 111, 116, 69, 113, 117, 97, 108], true, true, [105, 105], [], 0, 8⟩,
  ⟨166, [79, 112, 76, 111, 103, 105, 99, 97, 108, 79, 114], true, true, [105, 105], [], 0, 8⟩,
  ⟨167, [79, 112, 76, 111, 103, 105, 99, 97, 108, 65, 110, 100], true, true, [105, 105], [], 0, 8⟩,
  ⟨168, [79, 112, 76, 111, 103, 105, 99, 97, 108, 78, 111, 116], true, true, [105], [], 0, 8⟩,
  ⟨169, [79, 112, 83, 101, 108, 101, 99, 116], true, true, [105, 105, 105], [], 0, 8⟩,
  ⟨170, [79, 112, 73, 69, 113, 117, 97, 108], true, true, [105, 105], [], 0, 8⟩,
  ⟨171, [79, 112, 73, 78, 111, 116, 69, 113, 117, 97, 108], true, true, [105, 105], [], 0, 8⟩,
  ⟨172, [79, 112, 85, 71, 114, 101, 97, 116, 101, 114, 84, 104, 97, 110], true, true, [105, 105], [], 0, 8⟩,
  ⟨173, [79, 112, 83, 71, 114, 101, 97, 116, 101, 114, 84, 104, 97, 110], true, true, [105, 105], [], 0, 8⟩,
  ⟨174, [79, 112, 85, 71, 114, 101, 97, 116, 101, 114, 84, 104, 97, 110, 69, 113, 117, 97, 108], true, true, [105, 105], [], 0, 8⟩,
  ⟨175, [79, 112, 83, 71, 114, 101, 97, 116, 101, 114, 84, 104, 97, 110, 69, 113, 117, 97, 108], true, true, [105, 105], [], 0, 8⟩,
  ⟨176, [79, 112, 85, 76, 101, 115, 115, 84, 104, 97, 110], true, true, [105, 105], [], 0, 8⟩,
  ⟨177, [79, 112, 83, 76, 101, 115, 115, 84, 104, 97, 110], true, true, [105, 105], [], 0, 8⟩,
  ⟨178, [79, 112, 85, 76, 101, 115, 115, 84, 104, 97, 110, 69, 113, 117, 97, 108], true, true, [105, 105], [], 0, 8⟩,
  ⟨179, [79, 112, 83, 76, 101, 115, 115, 84, 104, 97, 110, 69, 113, 117, 97, 108], true, true, [105, 105], [], 0, 8⟩,
  ⟨194, [79, 112, 83, 104, 105, 102, 116, 82, 105, 103, 104, 116, 76, 111, 103, 105, 99, 97, 108], true, true, [105, 105], [], 0, 8⟩,
  ⟨195, [79, 112, 83, 104, 105, 102, 116, 82, 105, 103, 104, 116, 65, 114, 105, 116, 104, 109, 101, 116, 105, 99], true, true, [105, 105], [], 0, 8⟩,
  ⟨196, [79, 112, 83, 104, 105, 102, 116, 76, 101, 102, 116, 76, 111, 103, 105, 99, 97, 108], true, true, [105, 105], [], 0, 8⟩,
  ⟨197, [79, 112, 66, 105, 116, 119, 105, 115, 101, 79, 114], true, true, [105, 105], [], 0, 8⟩,
  ⟨198, [79, 112, 66, 105, 116, 119, 105, 115, 101, 88, 111, 114], true, true, [105, 105], [], 0, 8⟩,
  ⟨199, [79, 112, 66, 105, 116, 119, 105, 115, 101, 65, 110, 100], true, true, [105, 105], [], 0, 8⟩,
  ⟨200, [79, 112, 78, 111, 116], true, true, [105], [], 0, 8⟩,
  ⟨201, [79, 112, 66, 105, 116, 70, 105, 101, 108, 100, 73, 110, 115, 101, 114, 116], true, true, [105, 105, 105, 105], [], 0, 8⟩,
  ⟨202, [79, 112, 66, 105, 116, 70, 105, 101, 108, 100, 83, 69, 120, 116, 114, 97, 99, 116], true, true, [105, 105, 105], [], 0, 8⟩,
  ⟨203, [79, 112, 66, 105, 116, 70, 105, 101, 108, 100, 85, 69, 120, 116, 114, 97, 99, 116], true, true, [105, 105, 105], [], 0, 8⟩,
  ⟨204, [79, 112, 66, 105, 116, 82, 101, 118, 101, 114, 115, 101], true, true, [105], [], 0, 8⟩,
  ⟨205, [79, 112, 66, 105, 116, 67, 111, 117, 110, 116], true, true, [105], [], 0, 8⟩,
  ⟨245, [79, 112, 80, 104, 105], true, true, [], [105, 105], 0, 8⟩,
  ⟨246, [79, 112, 76, 111, 111, 112, 77, 101, 114, 103, 101], false, false, [105, 105, 103], [], 0, 8⟩,
  ⟨247, [79, 112, 83, 101, 108, 101, 99, 116, 105, 111, 110, 77, 101, 114, 103, 101], false, false, [105, 104], [], 0, 8⟩,
  ⟨248, [79, 112, 76, 97, 98, 101, 108], false, true, [], [], 0, 8⟩,
  ⟨249, [79, 112, 66, 114, 97, 110, 99, 104], false, false, [105], [], 0, 8⟩,
  ⟨250, [79, 112, 66, 114, 97, 110, 99, 104, 67, 111, 110, 100, 105, 116, 105, 111, 110, 97, 108], false, false, [105, 105, 105], [], 0, 8⟩,
  ⟨251, [79, 112, 83, 119, 105, 116, 99, 104], false, false, [105, 105], [110, 105], 0, 8⟩,
  ⟨252, [79, 112, 75, 105, 108, 108], false, false, [], [], 0, 8⟩,
  ⟨253, [79, 112, 82, 101, 116, 117, 114, 110], false, false, [], [], 0, 8⟩,
  ⟨254, [79, 112, 82, 101, 116, 117, 114, 110, 86, 97, 108, 117, 101], false, false, [105], [], 0, 8⟩,
  ⟨255, [79, 112, 85, 110, 114, 101, 97, 99, 104, 97, 98, 108, 101], false, false, [], [], 0, 8⟩]
structure NameL where
  letter : Int
  n : Int
  name : Byts
  deriving DecidableEq
def namesL : List NameL := [⟨107, 0, [77, 97, 116, 114, 105, 120]⟩,
  ⟨107, 1, [83, 104, 97, 100, 101, 114]⟩,
  ⟨97, 0, [76, 111, 103, 105, 99, 97, 108]⟩,
  ⟨109, 0, [83, 105, 109, 112, 108, 101]⟩,
  ⟨109, 1, [71, 76, 83, 76, 52, 53, 48]⟩,
  ⟨101, 0, [86, 101, 114, 116, 101, 120]⟩,
  ⟨101, 4, [70, 114, 97, 103, 109, 101, 110, 116]⟩,
  ⟨120, 7, [79, 114, 105, 103, 105, 110, 85, 112, 112, 101, 114, 76, 101, 102, 116]⟩,
  ⟨108, 0, [85, 110, 107, 110, 111, 119, 110]⟩,
  ⟨108, 1, [69, 83, 83, 76]⟩,
  ⟨108, 2, [71, 76, 83, 76]⟩,
  ⟨99, 1, [73, 110, 112, 117, 116]⟩,
  ⟨99, 3, [79, 117, 116, 112, 117, 116]⟩,
  ⟨99, 6, [80, 114, 105, 118, 97, 116, 101]⟩,
  ⟨99, 7, [70, 117, 110, 99, 116, 105, 111, 110]⟩,
  ⟨100, 0, [82, 101, 108, 97, 120, 101, 100, 80, 114, 101, 99, 105, 115, 105, 111, 110]⟩,
  ⟨100, 11, [66, 117, 105, 108, 116, 73, 110]⟩,
  ⟨100, 14, [70, 108, 97, 116]⟩,
  ⟨100, 30, [76, 111, 99, 97, 116, 105, 111, 110]⟩,
  ⟨102, 0, [78, 111, 110, 101]⟩,
  ⟨102, 1, [73, 110, 108, 105, 110, 101]⟩,
  ⟨102, 2, [68, 111, 110, 116, 73, 110, 108, 105, 110, 101]⟩,
  ⟨102, 4, [80, 117, 114, 101]⟩,
  ⟨102, 8, [67, 111, 110, 115, 116]⟩,
  ⟨104, 0, [78, 111, 110, 101]⟩,
  ⟨104, 1, [70, 108, 97, 116, 116, 101, 110]⟩,
  ⟨104, 2, [68, 111, 110, 116, 70, 108, 97, 116, 116, 101, 110]⟩,
  ⟨103, 0, [78, 111, 110, 101]⟩,
  ⟨103, 1, [85, 110, 114, 111, 108, 108]⟩,
  ⟨103, 2, [68, 111, 110, 116, 85, 110, 114, 111, 108, 108]⟩]
def look (T : List (Int × Byts)) (n : Int) : Byts := match T with
  | [] => []
  | p :: T => if n = p.1 then p.2 else look T n
theorem look_none {n : Int} : ∀ {T : List (Int × Byts)}, (∀ p ∈ T, ¬ n = p.1) → look T n = []
  | [], _ => rfl
  | p :: T, h => by rw [look, if_neg (h p (.head _)), look_none fun q hq => h q (.tail _ hq)]
def rowS (op : Int) : Byts := if op ≤ 71 then look firstT op else if op ≤ 171 then look secondT op else look thirdT op
def refF (op : Int) : List FormL → Option FormL
  | [] => none
  | f :: T => if op = f.op then some f else refF op T
def refS (op : Int) : Option FormL := refF op refT
theorem refF_none {op : Int} : ∀ {T : List FormL}, (∀ f ∈ T, ¬ op = f.op) → refF op T = none
  | [], _ => rfl
  | f :: T, h => by rw [refF, if_neg (h f (.head _)), refF_none fun q hq => h q (.tail _ hq)]
theorem refF_mem {op : Int} {f : FormL} : ∀ {T : List FormL}, refF op T = some f → f ∈ T ∧ f.op = op
  | [], h => by cases h
  | g :: T, h => by
    rw [refF] at h
    split at h
    · cases h; exact ⟨.head _, by assumption |> Eq.symm⟩
    · have := refF_mem h; exact ⟨.tail _ this.1, this.2⟩
def zeroF : FormL := ⟨0, [], false, false, [], [], 0, 0⟩
abbrev formC (f : FormL) : List Value := [.int .u16 f.op, str f.name, .bool f.ty, .bool f.res, str f.fixed, str f.rest, .int .i64 f.most, .int .u8 f.part]
abbrev formV (o : Option FormL) : Value := .tuple #[.agg (formC (o.getD zeroF)).toArray, .bool o.isSome]
def stepF (st : Nat × List Byts) (c : UInt8) : Nat × List Byts := if c = 32 then (st.1 + 1, st.2) else (st.1, st.2.modify st.1 (· ++ [c]))
def fieldsF (s : Byts) : Nat × List Byts := s.foldl stepF (0, [[], [], [], [], [], []])
def fieldsS (s : Byts) : List Byts := (fieldsF s).2
theorem take_succ {s : Byts} {i : Nat} (h : i < s.length) : s.take (i + 1) = s.take i ++ [s[i]] := by rw [List.take_succ_eq_append_getElem h]
theorem fieldsF_step {s : Byts} {i : Nat} (h : i < s.length) : fieldsF (s.take (i + 1)) = stepF (fieldsF (s.take i)) s[i] := by
  unfold fieldsF; rw [take_succ h, List.foldl_append]; rfl
theorem foldl_stepF : ∀ (s : Byts) (st : Nat × List Byts), st.1 ≤ (s.foldl stepF st).1 ∧ (s.foldl stepF st).2.length = st.2.length
  | [], st => ⟨Nat.le_refl _, rfl⟩
  | c :: s, st => by
    have h := foldl_stepF s (stepF st c)
    rw [List.foldl_cons]
    have e : st.1 ≤ (stepF st c).1 ∧ (stepF st c).2.length = st.2.length := by
      unfold stepF; split
      · exact ⟨by simp, rfl⟩
      · exact ⟨Nat.le_refl _, by simp⟩
    exact ⟨Nat.le_trans e.1 h.1, h.2.trans e.2⟩
theorem fieldsF_len (s : Byts) : (fieldsF s).2.length = 6 := (foldl_stepF s _).2
theorem fieldsF_at {s : Byts} {i : Nat} : (fieldsF (s.take i)).1 ≤ (fieldsF s).1 := by
  have : fieldsF s = (s.drop i).foldl stepF (fieldsF (s.take i)) := by
    unfold fieldsF; rw [← List.foldl_append, List.take_append_drop]
  rw [this]; exact (foldl_stepF _ _).1
theorem fieldsF_short (s : Byts) : ∀ i, i ≤ s.length → ∀ f ∈ (fieldsF (s.take i)).2, f.length ≤ i
  | 0, _ => by simp [fieldsF]
  | i + 1, h => by
    rw [fieldsF_step (by omega)]
    have ih := fieldsF_short s i (by omega)
    intro f hf
    unfold stepF at hf
    split at hf
    · have := ih f hf; omega
    · obtain ⟨j, hj, rfl⟩ := List.getElem_of_mem hf
      simp only [List.length_modify] at hj
      rw [List.getElem_modify]
      have := ih _ (List.getElem_mem hj)
      split <;> simp <;> omega
def rowOk (s : Byts) : Bool := s.all (fun c => c.toNat < 128) && decide ((fieldsF s).1 ≤ 5) && decide (s.length ≤ 100) && (fieldsS s).all (fun f => f.all fun c => c.toNat < 128) && (s == [] || !((fieldsS s).getD 5 []).isEmpty)
def subU8 (c : UInt8) (n : Int) : Int := IntKind.u8.wrap ((c.toNat : Int) - n)
def ofS (op : Int) : Option FormL :=
  if rowS op = [] then none
  else some ⟨op, (fieldsS (rowS op)).getD 0 [], ((fieldsS (rowS op)).getD 1 []).contains 84, ((fieldsS (rowS op)).getD 1 []).contains 82, (fieldsS (rowS op)).getD 2 [], (fieldsS (rowS op)).getD 3 [],
    (if (fieldsS (rowS op)).getD 4 [] = [] then 0 else subU8 (((fieldsS (rowS op)).getD 4 []).getD 0 0) 48), subU8 (((fieldsS (rowS op)).getD 5 []).getD 0 0) 48⟩
theorem rows_small : (List.range 256).all (fun n => rowOk (rowS n) && decide (ofS n = refS n)) = true := by decide +kernel
theorem thirdT_small : thirdT.all (fun p => decide (p.1 ≤ 255)) = true := by decide +kernel
theorem refT_small : refT.all (fun f => decide (0 ≤ f.op ∧ f.op ≤ 255)) = true := by decide +kernel
theorem rowS_big {op : Int} (h : 255 < op) : rowS op = [] := by
  unfold rowS
  rw [if_neg (by omega), if_neg (by omega)]
  refine look_none fun p hp e => ?_
  have := List.all_eq_true.1 thirdT_small p hp
  simp only [decide_eq_true_eq] at this
  omega
theorem refS_big {op : Int} (h : 255 < op) : refS op = none := refF_none fun f hf e => by
  have := List.all_eq_true.1 refT_small f hf
  simp only [decide_eq_true_eq] at this
  omega
theorem rowS_all {op : Int} (h : 0 ≤ op) : rowOk (rowS op) = true ∧ ofS op = refS op := by
  by_cases hb : 255 < op
  · have e : ofS op = none := by unfold ofS; rw [if_pos (rowS_big hb)]
    rw [rowS_big hb, refS_big hb, e]; exact ⟨by decide +kernel, rfl⟩
  · have := List.all_eq_true.1 rows_small op.toNat (List.mem_range.2 (by omega))
    simp only [Bool.and_eq_true, decide_eq_true_eq] at this
    rw [show ((op.toNat : Nat) : Int) = op by omega] at this
    exact this
theorem rowOk_spec {s : Byts} (h : rowOk s = true) : (∀ c ∈ s, c.toNat < 128) ∧ (fieldsF s).1 ≤ 5 ∧ s.length ≤ 100 ∧ (∀ f ∈ fieldsS s, ∀ c ∈ f, c.toNat < 128) ∧ (s = [] ∨ (fieldsS s).getD 5 [] ≠ []) := by
  simp only [rowOk, Bool.and_eq_true, List.all_eq_true, decide_eq_true_eq, Bool.or_eq_true, beq_iff_eq, Bool.not_eq_true', List.isEmpty_eq_false_iff] at h
  exact ⟨h.1.1.1.1, h.1.1.1.2, h.1.1.2, h.1.2, h.2⟩
theorem refS_op {op : Int} {f : FormL} (h : refS op = some f) : f.op = op := (refF_mem h).2
def formOk (f : FormL) : Bool := decide (0 ≤ f.op ∧ f.op ≤ 255) && decide (0 ≤ f.most ∧ f.most ≤ 9) && decide (f.fixed.length ≤ 40) && decide (f.rest.length ≤ 40) && decide (f.name.length ≤ 100) && decide (0 ≤ f.part ∧ f.part ≤ 9) && f.fixed.all (· != 0) && f.rest.all (· != 0)
theorem refT_ok : refT.all formOk = true := by decide +kernel
theorem refS_ok {op : Int} {f : FormL} (h : refS op = some f) : formOk f = true := List.all_eq_true.1 refT_ok f (refF_mem h).1
theorem getD_short {l : List Byts} {n i : Nat} (h : ∀ f ∈ l, f.length ≤ n) : (l.getD i []).length ≤ n := by
  by_cases hi : i < l.length
  · simp only [List.getD, List.getElem?_eq_getElem hi, Option.getD_some]; exact h _ (List.getElem_mem hi)
  · simp [List.getD, List.getElem?_eq_none (Nat.le_of_not_lt hi)]
theorem has_step {l : Byts} {i : Nat} (x : UInt8) {m : Int} (hm : ((x.toNat : Nat) : Int) = m) (h : i < l.length) : (l.take (i + 1)).contains x = ((l.take i).contains x || decide ((l[i].toNat : Int) = m)) := by
  subst hm
  rw [take_succ h, List.contains_eq_any_beq, List.any_append, ← List.contains_eq_any_beq]
  congr 1
  simp only [List.any_cons, List.any_nil, Bool.or_false]
  by_cases e : x = l[i]
  · rw [e]; simp
  · rw [show (x == l[i]) = false from beq_eq_false_iff_ne.2 e]
    symm
    rw [decide_eq_false_iff_not]
    intro he
    exact e (UInt8.toNat_inj.1 (by omega))
theorem u8wrap_bd (n : Int) : 0 ≤ IntKind.u8.wrap n ∧ IntKind.u8.wrap n ≤ 255 := by simp [IntKind.wrap, IntKind.bits, IntKind.signed]; omega
def numStep (n : Int) (c : UInt8) : Int := IntKind.u32.wrap (IntKind.u32.wrap (10 * n) + IntKind.u32.wrap ((c.toNat : Int) - 48))
def numF (s : Byts) : Int := s.foldl numStep 0
theorem numF_step {s : Byts} {i : Nat} (h : i < s.length) : numF (s.take (i + 1)) = numStep (numF (s.take i)) s[i] := by
  unfold numF; rw [take_succ h, List.foldl_append]; rfl
theorem find_hit {α : Type} {p : α → Bool} {l : List α} {i : Nat} {d : α} {R : Option α} (h : (l.drop i).find? p = R) (hi : i < l.length) (hp : p (l.getD i d) = true) : R = some (l.getD i d) := by
  rw [List.drop_eq_getElem_cons hi] at h
  simp only [List.getD, List.getElem?_eq_getElem hi, Option.getD_some] at hp ⊢
  rw [List.find?_cons_of_pos hp] at h
  exact h.symm
theorem find_miss {α : Type} {p : α → Bool} {l : List α} {i : Nat} {d : α} {R : Option α} (h : (l.drop i).find? p = R) (hi : i < l.length) (hp : p (l.getD i d) = false) : (l.drop (i + 1)).find? p = R := by
  rw [List.drop_eq_getElem_cons hi] at h
  simp only [List.getD, List.getElem?_eq_getElem hi, Option.getD_some] at hp
  rwa [List.find?_cons_of_neg (by simp [hp])] at h
theorem find_end {α : Type} {p : α → Bool} {l : List α} {i : Nat} {R : Option α} (h : (l.drop i).find? p = R) (hi : l.length ≤ i) : R = none := by
  rw [List.drop_eq_nil_of_le hi] at h; exact h.symm
def zeroN : NameL := ⟨0, 0, []⟩
abbrev enN (c n : Int) (x : NameL) : Bool := decide (x.letter = c ∧ x.n = n)
abbrev nameV (o : Option NameL) : Value := .tuple #[str (o.getD zeroN).name, .bool o.isSome]
def enumsL (c : Int) : List NameL := namesL.filter fun x => decide (x.letter = c)
structure EnSt where
  n : Int
  word : Byts
  num : Bool
  out : List (Int × Byts)
def enStep (st : EnSt) (c : UInt8) : EnSt :=
  if c ≠ 32 then ⟨st.n, st.word ++ [c], st.num, st.out⟩
  else if st.num then ⟨st.n, [], false, st.out ++ [(st.n, st.word)]⟩ else ⟨numF st.word, [], true, st.out⟩
def enF (s : Byts) : EnSt := s.foldl enStep ⟨0, [], false, []⟩
theorem enF_step {s : Byts} {i : Nat} (h : i < s.length) : enF (s.take (i + 1)) = enStep (enF (s.take i)) s[i] := by
  unfold enF; rw [take_succ h, List.foldl_append]; rfl
theorem enF_inv (s : Byts) (hs : ∀ c ∈ s, c.toNat < 128) : ∀ i, i ≤ s.length → (enF (s.take i)).word.length ≤ i ∧ ∀ c ∈ (enF (s.take i)).word, c.toNat < 128
  | 0, _ => by simp [enF]
  | i + 1, h => by
    have ih := enF_inv s hs i (by omega)
    rw [enF_step (by omega)]
    unfold enStep
    split
    · refine ⟨by simp; omega, fun c hc => ?_⟩
      rcases List.mem_append.1 hc with hc | hc
      · exact ih.2 c hc
      · rw [List.mem_singleton.1 hc]; exact hs _ (List.getElem_mem _)
    · split <;> exact ⟨by simp, by simp⟩
theorem foldl_enStep : ∀ (s : Byts) (st : EnSt), ∃ t, (s.foldl enStep st).out = st.out ++ t
  | [], st => ⟨[], by simp⟩
  | c :: s, st => by
    obtain ⟨t, ht⟩ := foldl_enStep s (enStep st c)
    rw [List.foldl_cons, ht]
    unfold enStep
    split
    · exact ⟨t, rfl⟩
    · split
      · exact ⟨(st.n, st.word) :: t, by simp⟩
      · exact ⟨t, rfl⟩
theorem enF_out (s : Byts) (i : Nat) : ∃ t, (enF s).out = (enF (s.take i)).out ++ t := by
  have : enF s = (s.drop i).foldl enStep (enF (s.take i)) := by
    unfold enF; rw [← List.foldl_append, List.take_append_drop]
  rw [this]; exact foldl_enStep _ _
theorem enF_told {s : Byts} {l : List (Int × Byts)} (hl : (enF s).out = l) {i : Nat} (h : i < s.length) (hc : s[i] = 32) (hn : (enF (s.take i)).num = true) :
    (enF (s.take i)).out.length < l.length ∧ l.getD (enF (s.take i)).out.length (0, []) = ((enF (s.take i)).n, (enF (s.take i)).word) := by
  obtain ⟨t, ht⟩ := enF_out s (i + 1)
  rw [enF_step h] at ht
  have e : (enStep (enF (s.take i)) s[i]).out = (enF (s.take i)).out ++ [((enF (s.take i)).n, (enF (s.take i)).word)] := by
    unfold enStep; rw [if_neg (by simp [hc]), if_pos hn]
  rw [e, List.append_assoc] at ht
  subst hl
  rw [ht]
  refine ⟨by simp, ?_⟩
  simp [List.getD]
def namesOk (s : Byts) : Bool := s.all (fun c => c.toNat < 128) && decide (s.length ≤ 100)
theorem names_small : (List.range 256).all (fun n => namesOk (look namesT n) && decide ((enF (look namesT n)).out = (enumsL n).map fun x => (x.n, x.name))) = true := by decide +kernel
theorem names_all {c : Int} (h0 : 0 ≤ c) (h1 : c ≤ 255) : (∀ x ∈ look namesT c, x.toNat < 128) ∧ (look namesT c).length ≤ 100 ∧ (enF (look namesT c)).out = (enumsL c).map fun x => (x.n, x.name) := by
  have := List.all_eq_true.1 names_small c.toNat (List.mem_range.2 (by omega))
  rw [show ((c.toNat : Nat) : Int) = c by omega] at this
  simp only [namesOk, Bool.and_eq_true, List.all_eq_true, decide_eq_true_eq] at this
  exact ⟨this.1.1, this.1.2, this.2⟩
theorem enums_find {c n : Int} : (enumsL c).find? (fun x => decide (x.n = n)) = namesL.find? (enN c n) := by
  unfold enumsL; rw [List.find?_filter]; congr 1; funext x
  simp [enN]
theorem map_getD {α β : Type} {l : List α} {f : α → β} {k : Nat} {d : α} {d' : β} (hk : k < l.length) : (l.map f).getD k d' = f (l.getD k d) := by
  simp [List.getD, hk]
abbrev nmF (q : Byts) (f : FormL) : Bool := decide (f.name = q)
def kindS (c : Int) : Int := if c = 105 then 1 else if c = 110 then 2 else if c = 115 then 3 else if look namesT c ≠ [] then 4 else 0
theorem refD_ok (op : Int) : formOk ((refS op).getD zeroF) = true := by
  cases h : refS op with
  | none => decide +kernel
  | some f => exact refS_ok h
structure FOk (f : FormL) : Prop where
  op : 0 ≤ f.op ∧ f.op ≤ 255
  most : 0 ≤ f.most ∧ f.most ≤ 9
  fixed : f.fixed.length ≤ 40
  rest : f.rest.length ≤ 40
  name : f.name.length ≤ 100
  part : 0 ≤ f.part ∧ f.part ≤ 9
  fix0 : ∀ c ∈ f.fixed, c ≠ 0
  rest0 : ∀ c ∈ f.rest, c ≠ 0
theorem FOk.of {f : FormL} (h : formOk f = true) : FOk f := by
  simp only [formOk, Bool.and_eq_true, decide_eq_true_eq, List.all_eq_true, bne_iff_ne] at h
  obtain ⟨⟨⟨⟨⟨⟨⟨h1, h2⟩, h3⟩, h4⟩, h5⟩, h6⟩, h7⟩, h8⟩ := h
  exact ⟨h1, h2, h3, h4, h5, h6, h7, h8⟩
abbrev refD (op : Int) : FormL := (refS op).getD zeroF
theorem refD_fok (op : Int) : FOk (refD op) := FOk.of (refD_ok op)
def fixS (f : FormL) (i : Int) : Int := if i < 0 ∨ (f.fixed.length : Int) ≤ i then 0 else ((f.fixed.getD i.toNat 0).toNat : Int)
def restS (f : FormL) (i : Int) : Int :=
  if i - f.fixed.length < 0 ∨ f.rest = [] ∨ (0 < f.most ∧ f.most * f.rest.length ≤ i - f.fixed.length) then 0
  else ((f.rest.getD ((i - f.fixed.length) % f.rest.length).toNat 0).toNat : Int)
def letterS (f : FormL) (i : Int) : Int := if i < 0 then 0 else if i < f.fixed.length then ((f.fixed.getD i.toNat 0).toNat : Int) else restS f i
theorem fix_ne {f : FormL} (hf : FOk f) {i : Int} (h0 : 0 ≤ i) (h1 : i < f.fixed.length) : fixS f i = ((f.fixed.getD i.toNat 0).toNat : Int) ∧ fixS f i ≠ 0 := by
  have e : fixS f i = ((f.fixed.getD i.toNat 0).toNat : Int) := by unfold fixS; rw [if_neg (by omega)]
  refine ⟨e, ?_⟩
  rw [e]
  have hi : i.toNat < f.fixed.length := by omega
  have hc := hf.fix0 _ (List.getElem_mem hi)
  simp only [List.getD, List.getElem?_eq_getElem hi, Option.getD_some]
  intro h
  exact hc (UInt8.toNat_inj.1 (by simpa using (by omega : f.fixed[i.toNat].toNat = 0)))
theorem letter_fix {f : FormL} (hf : FOk f) {i : Int} (h0 : 0 ≤ i) (h : ¬ fixS f i = 0) : letterS f i = fixS f i := by
  have h1 : i < f.fixed.length := by
    refine Classical.byContradiction fun hn => h ?_
    unfold fixS; rw [if_pos (by omega)]
  rw [(fix_ne hf h0 h1).1]; unfold letterS; rw [if_neg (by omega), if_pos h1]
theorem letter_rest {f : FormL} (hf : FOk f) {i : Int} (h0 : 0 ≤ i) (h : fixS f i = 0) : letterS f i = restS f i := by
  have h1 : ¬ i < f.fixed.length := fun hn => (fix_ne hf h0 hn).2 h
  unfold letterS; rw [if_neg (by omega), if_neg h1]
theorem byte_bd (c : UInt8) : 0 ≤ (c.toNat : Int) ∧ (c.toNat : Int) ≤ 255 := by have := c.toNat_lt; omega
theorem letterS_bd (f : FormL) (i : Int) : 0 ≤ letterS f i ∧ letterS f i ≤ 255 := by
  unfold letterS restS
  have h1 := byte_bd (f.fixed.getD i.toNat 0)
  have h2 := byte_bd (f.rest.getD ((i - f.fixed.length) % f.rest.length).toNat 0)
  repeat (split; · omega)
  omega
theorem find_name_small : refT.all (fun f => decide (refT.find? (nmF f.name) = some f)) = true := by decide +kernel
theorem find_name {op : Int} {f : FormL} (h : refS op = some f) : refT.find? (nmF f.name) = some f := by
  have := List.all_eq_true.1 find_name_small f (refF_mem h).1
  simpa only [decide_eq_true_eq] using this
theorem refD_none {op : Int} (h : (refS op).isSome = false) : refD op = zeroF := by
  rw [refD, show refS op = none by simpa using h]; rfl
theorem refD_some {op : Int} (h : (refS op).isSome = true) : refT.find? (nmF (refD op).name) = some (refD op) ∧ (refD op).op = op := by
  obtain ⟨f, hf⟩ := Option.isSome_iff_exists.1 h
  rw [refD, hf]
  exact ⟨find_name hf, refS_op hf⟩
theorem letter_zero (i : Int) : letterS zeroF i = 0 := by
  unfold letterS
  by_cases h : i < 0
  · rw [if_pos h]
  · rw [if_neg h, if_neg (by show ¬ i < 0; omega)]
    unfold restS
    rw [if_pos (.inr (.inl rfl))]
end Go.SK
namespace Go.SK
abbrev u8C (x : Int) : List Value := [.int .u8 x]
theorem u8C_len (x : Int) : (u8C x).length = 1 := rfl
abbrev badB (f : FormL) (i : Nat) (k : Int) : Prop := k = 0 ∨ kindS (letterS f i) ≠ k
def badI (f : FormL) : Nat → List Int → Option Nat
  | _, [] => none
  | i, k :: ks => if badB f i k then some i else badI f (i + 1) ks
theorem bad_hit {f : FormL} {ks : List Int} {i : Nat} {R : Option Nat} (h : badI f i (ks.drop i) = R) (hi : i < ks.length) (hb : badB f i (ks.getD i 0)) : R = some i := by
  rw [List.drop_eq_getElem_cons hi, badI] at h
  simp only [List.getD, List.getElem?_eq_getElem hi, Option.getD_some] at hb
  rw [if_pos hb] at h; exact h.symm
theorem bad_miss {f : FormL} {ks : List Int} {i : Nat} {R : Option Nat} (h : badI f i (ks.drop i) = R) (hi : i < ks.length) (hb : ¬ badB f i (ks.getD i 0)) : badI f (i + 1) (ks.drop (i + 1)) = R := by
  rw [List.drop_eq_getElem_cons hi, badI] at h
  simp only [List.getD, List.getElem?_eq_getElem hi, Option.getD_some] at hb
  rwa [if_neg hb] at h
theorem bad_end {f : FormL} {ks : List Int} {i : Nat} {R : Option Nat} (h : badI f i (ks.drop i) = R) (hi : ks.length ≤ i) : R = none := by
  rw [List.drop_eq_nil_of_le hi, badI] at h; exact h.symm
abbrev offR (f : FormL) (n : Nat) : Prop := (n : Int) - f.fixed.length < 0 ∨ (f.rest ≠ [] ∧ ((n : Int) - f.fixed.length) % f.rest.length ≠ 0)
def fitsF (f : FormL) (ks : List Int) : Int × Bool := match badI f 0 ks with
  | some i => ((i : Int), false)
  | none => if offR f ks.length then ((ks.length : Int), false) else (0, true)
def fitsS (op : Int) (ks : List Int) : Int × Bool := if (refS op).isSome then fitsF (refD op) ks else (0, false)
abbrev fitsV (p : Int × Bool) : Value := .tuple #[.int .i64 p.1, .bool p.2]
theorem fits_no {op : Int} {ks : List Int} {ob : Bool} (h : (refS op).isSome = ob) (ho : ob = false) : fitsS op ks = (0, false) := by
  unfold fitsS; rw [h, ho]; rfl
theorem fits_yes {op : Int} {ks : List Int} {fm : FormL} {ob : Bool} (h : (refS op).isSome = ob) (hf : refD op = fm) (ho : ob = true) : fitsS op ks = fitsF fm ks := by
  unfold fitsS; rw [h, ho, hf]; rfl
theorem fitsF_bad {f : FormL} {ks : List Int} {i : Nat} (h : badI f 0 ks = some i) : fitsF f ks = ((i : Int), false) := by unfold fitsF; rw [h]
theorem fitsF_off {f : FormL} {ks : List Int} (h : badI f 0 ks = none) (ho : offR f ks.length) : fitsF f ks = ((ks.length : Int), false) := by unfold fitsF; rw [h]; simp only; rw [if_pos ho]
theorem fitsF_on {f : FormL} {ks : List Int} (h : badI f 0 ks = none) (ho : ¬ offR f ks.length) : fitsF f ks = (0, true) := by unfold fitsF; rw [h]; simp only; rw [if_neg ho]
theorem letters_small : refT.all (fun f => (f.fixed ++ f.rest).all fun c => decide (kindS c.toNat ≠ 0)) = true := by decide +kernel
theorem refD_kind (op i : Int) (h : letterS (refD op) i ≠ 0) : kindS (letterS (refD op) i) ≠ 0 := by
  cases hr : refS op with
  | none =>
    have : refD op = zeroF := by rw [refD, hr]; rfl
    rw [this, letter_zero] at h; exact absurd rfl h
  | some f =>
    have e : refD op = f := by rw [refD, hr]; rfl
    rw [e] at h ⊢
    have hall := List.all_eq_true.1 letters_small f (refF_mem hr).1
    rw [List.all_eq_true] at hall
    have key : ∀ c ∈ f.fixed ++ f.rest, kindS (c.toNat : Int) ≠ 0 := fun c hc => by simpa only [decide_eq_true_eq] using hall c hc
    unfold letterS at h ⊢
    split at h
    · exact absurd rfl h
    · rename_i h0
      rw [if_neg h0]
      split at h
      · rename_i h1
        rw [if_pos h1]
        have hi : i.toNat < f.fixed.length := by omega
        simp only [List.getD, List.getElem?_eq_getElem hi, Option.getD_some]
        exact key _ (List.mem_append_left _ (List.getElem_mem hi))
      · rename_i h1
        rw [if_neg h1]
        unfold restS at h ⊢
        split at h
        · exact absurd rfl h
        · rename_i h2
          rw [if_neg h2]
          have hr2 : 0 < f.rest.length := List.length_pos_iff.2 (fun e => h2 (.inr (.inl e)))
          have hm := Int.emod_lt_of_pos (i - (f.fixed.length : Int)) (show (0 : Int) < f.rest.length by omega)
          have hn := Int.emod_nonneg (i - (f.fixed.length : Int)) (show (f.rest.length : Int) ≠ 0 by omega)
          have hi : ((i - (f.fixed.length : Int)) % (f.rest.length : Int)).toNat < f.rest.length := by omega
          simp only [List.getD, List.getElem?_eq_getElem hi, Option.getD_some]
          exact key _ (List.mem_append_right _ (List.getElem_mem hi))
theorem badI_none {f : FormL} {i : Nat} : ∀ {ts : List Int}, (∀ j (hj : j < ts.length), ¬ badB f (i + j) ts[j]) → badI f i ts = none
  | [], _ => rfl
  | k :: ts, h => by
    rw [badI, if_neg (show ¬ badB f i k from h 0 (by simp))]
    exact badI_none (i := i + 1) fun j hj => by
      have := h (j + 1) (by simpa using hj)
      rw [show i + 1 + j = i + (j + 1) by omega]
      exact this
end Go.SK
namespace Go.SK
open Go.RowKit Go.ChangeShapes Go.WideShapes Go.ChangeAt
def idE (n bound : Int) : Int := if n = 0 ∨ n ≥ bound then 43 else 0
def enumE (c n : Int) : Int := if (namesL.find? (enN c n)).isSome = true then 0 else 31
def argE (c : Int) (ws : List Int) (bound : Int) : ArgP × Nat × Int :=
  if c = 0 ∨ ws.length = 0 then (zeroA, 0, 42)
  else if kindS c = 3 then (⟨3, 0, (textF ws).1⟩, (textF ws).2.1.toNat, (textF ws).2.2)
  else (⟨kindS c, ws.getD 0 0, []⟩, 1, if kindS c = 1 then idE (ws.getD 0 0) bound else if kindS c = 4 then enumE c (ws.getD 0 0) else 0)
theorem argE_none {c : Int} {ws : List Int} {b : Int} (h : c = 0 ∨ ws.length = 0) : argE c ws b = (zeroA, 0, 42) := if_pos h
theorem argE_text {c : Int} {ws : List Int} {b : Int} (h : ¬ c = 0) (h2 : ¬ ws.length = 0) (hk : kindS c = 3) : argE c ws b = (⟨3, 0, (textF ws).1⟩, (textF ws).2.1.toNat, (textF ws).2.2) := by
  unfold argE; rw [if_neg (fun h3 => h3.elim h h2), if_pos hk]
theorem argE_one {c : Int} {ws : List Int} {b : Int} (h : ¬ c = 0) (h2 : ¬ ws.length = 0) (hk : ¬ kindS c = 3) : argE c ws b = (⟨kindS c, ws.getD 0 0, []⟩, 1, if kindS c = 1 then idE (ws.getD 0 0) b else if kindS c = 4 then enumE c (ws.getD 0 0) else 0) := by
  unfold argE; rw [if_neg (fun h3 => h3.elim h h2), if_neg hk]
theorem argE_ok {c : Int} {ws : List Int} {b : Int} (h : (argE c ws b).2.2 = 0) : 1 ≤ (argE c ws b).2.1 ∧ (argE c ws b).2.1 ≤ ws.length ∧ c ≠ 0 ∧ (argE c ws b).1.kind = kindS c := by
  by_cases h1 : c = 0 ∨ ws.length = 0
  · rw [argE_none h1] at h; cases h
  · have h2 : ¬ c = 0 := fun e => h1 (.inl e)
    have h3 : ¬ ws.length = 0 := fun e => h1 (.inr e)
    by_cases hk : kindS c = 3
    · rw [argE_text h2 h3 hk] at h ⊢
      rcases textF_cases ws with ⟨e, he, h4⟩ | ⟨s, n, he, h4, h5, h6⟩
      · rw [he] at h; simp only at h; omega
      · rw [he]; simp only [Int.toNat_natCast]; exact ⟨h4, h5, h2, hk.symm⟩
    · rw [argE_one h2 h3 hk] at h ⊢
      exact ⟨Nat.le_refl _, by (try dsimp only); omega, h2, rfl⟩
def argsF (fm : FormL) (bound : Int) : Nat → Nat → List Int → List ArgP × Int
  | 0, _, _ => ([], 0)
  | n + 1, k, ws => if ws.length = 0 ∧ fm.fixed.length ≤ k then ([], 0)
    else if (argE (letterS fm k) ws bound).2.2 ≠ 0 then ([], (argE (letterS fm k) ws bound).2.2)
    else ((argE (letterS fm k) ws bound).1 :: (argsF fm bound n (k + 1) (ws.drop (argE (letterS fm k) ws bound).2.1)).1, (argsF fm bound n (k + 1) (ws.drop (argE (letterS fm k) ws bound).2.1)).2)
theorem argsF_fuel {fm : FormL} {bound : Int} : ∀ n n' k ws, ws.length < n → ws.length < n' → argsF fm bound n k ws = argsF fm bound n' k ws
  | 0, _, _, _, h, _ => absurd h (Nat.not_lt_zero _)
  | _, 0, _, _, _, h => absurd h (Nat.not_lt_zero _)
  | n + 1, n' + 1, k, ws, h, h' => by
    rw [argsF, argsF]
    by_cases h1 : ws.length = 0 ∧ fm.fixed.length ≤ k
    · rw [if_pos h1, if_pos h1]
    · rw [if_neg h1, if_neg h1]
      by_cases h2 : (argE (letterS fm k) ws bound).2.2 ≠ 0
      · rw [if_pos h2, if_pos h2]
      · have h3 := argE_ok (Classical.not_not.1 h2)
        rw [if_neg h2, if_neg h2, argsF_fuel n n' _ _ (by rw [List.length_drop]; omega) (by rw [List.length_drop]; omega)]
abbrev argsR (fm : FormL) (bound : Int) (k : Nat) (ws : List Int) : List ArgP × Int := argsF fm bound (ws.length + 1) k ws
theorem argsR_stop {fm : FormL} {bound : Int} {k : Nat} {ws : List Int} (h : ws.length = 0) (h2 : fm.fixed.length ≤ k) : argsR fm bound k ws = ([], 0) := by
  unfold argsR; rw [argsF, if_pos ⟨h, h2⟩]
theorem argsR_err {fm : FormL} {bound : Int} {k : Nat} {ws : List Int} (h : ws.length > 0 ∨ k < fm.fixed.length) (he : (argE (letterS fm k) ws bound).2.2 ≠ 0) : argsR fm bound k ws = ([], (argE (letterS fm k) ws bound).2.2) := by
  unfold argsR; rw [argsF, if_neg (by omega), if_pos he]
theorem argsR_step {fm : FormL} {bound : Int} {k : Nat} {ws : List Int} {a : ArgP} {m : Nat} (h : ws.length > 0 ∨ k < fm.fixed.length) (he : argE (letterS fm k) ws bound = (a, m, 0)) : argsR fm bound k ws = (a :: (argsR fm bound (k + 1) (ws.drop m)).1, (argsR fm bound (k + 1) (ws.drop m)).2) := by
  have h0 : (argE (letterS fm k) ws bound).2.2 = 0 := by rw [he]
  have h3 := argE_ok h0
  unfold argsR
  rw [argsF, if_neg (by omega), if_neg (fun e => e h0)]
  rw [he] at h3 ⊢
  dsimp only at h3 ⊢
  rw [argsF_fuel ws.length ((ws.drop m).length + 1) _ _ (by rw [List.length_drop]; omega) (by omega)]
theorem args_kinds {fm : FormL} {bound : Int} : ∀ n k ws, (argsF fm bound n k ws).2 = 0 → ∀ j, j < (argsF fm bound n k ws).1.length → letterS fm ((k + j : Nat) : Int) ≠ 0 ∧ ((argsF fm bound n k ws).1.getD j zeroA).kind = kindS (letterS fm ((k + j : Nat) : Int))
  | 0, k, ws, _, j, hj => by simp [argsF] at hj
  | n + 1, k, ws, h, j, hj => by
    rw [argsF] at h hj ⊢
    split at h
    · rename_i h1; rw [if_pos h1] at hj; simp at hj
    · rename_i h1
      rw [if_neg h1] at hj ⊢
      split at h
      · rename_i h2; exact absurd h h2
      · rename_i h2
        rw [if_neg h2] at hj ⊢
        have h3 := argE_ok (Classical.not_not.1 h2)
        cases j with
        | zero => exact ⟨h3.2.2.1, h3.2.2.2⟩
        | succ j =>
          have := args_kinds n (k + 1) _ h j (by simpa using hj)
          rw [show k + 1 + j = k + (j + 1) by omega] at this
          simpa using this
theorem kinds_none {op : Int} {ags : List ArgP} (h : ∀ j, j < ags.length → letterS (refD op) (j : Int) ≠ 0 ∧ (ags.getD j zeroA).kind = kindS (letterS (refD op) (j : Int))) : badI (refD op) 0 (ags.map ArgP.kind) = none := by
  refine badI_none fun j hj => ?_
  simp only [List.length_map] at hj
  have hh := h j hj
  have e : (ags.map ArgP.kind)[j]'(by simpa using hj) = (ags.getD j zeroA).kind := by simp [List.getD, hj]
  rw [e, hh.2, Nat.zero_add]
  intro hb
  rcases hb with hb | hb
  · exact refD_kind op j hh.1 hb
  · exact hb rfl
def wholeE (op : Int) (ags : List ArgP) : Int := if (fitsS op (ags.map ArgP.kind)).2 = true then 0 else 42
theorem wholeE_of {op : Int} {ags : List ArgP} (hob : (refS op).isSome = true) (h : badI (refD op) 0 (ags.map ArgP.kind) = none) : wholeE op ags = if offR (refD op) ags.length then 42 else 0 := by
  unfold wholeE
  rw [fits_yes (fm := refD op) hob rfl rfl]
  by_cases ho : offR (refD op) ags.length
  · rw [fitsF_off h (by rwa [List.length_map]), if_pos ho]; rfl
  · rw [fitsF_on h (by rwa [List.length_map]), if_neg ho]; rfl
def b2n (b : Bool) : Nat := if b = true then 1 else 0
def headsF (fm : FormL) (l : List Int) (bound : Int) : Nat × Int :=
  if fm.ty = true ∧ l.length = 0 then (0, 40)
  else if fm.ty = true ∧ idE (l.getD 0 0) bound ≠ 0 then (0, 43)
  else if fm.res = true ∧ l.length = b2n fm.ty then (0, 41)
  else if fm.res = true ∧ idE (l.getD (b2n fm.ty) 0) bound ≠ 0 then (0, 43)
  else (b2n fm.ty + b2n fm.res, 0)
def zeroIL : InstL := ⟨0, 0, 0, []⟩
def instF (bound : Int) (op : Int) (l : List Int) : InstL × Int :=
  if l.length ≥ 65535 then (zeroIL, 25)
  else if (refS op).isSome = false then (zeroIL, 30)
  else if (headsF (refD op) l bound).2 ≠ 0 then (zeroIL, (headsF (refD op) l bound).2)
  else if (argsR (refD op) bound 0 (l.drop (b2n (refD op).ty + b2n (refD op).res))).2 ≠ 0 then (zeroIL, (argsR (refD op) bound 0 (l.drop (b2n (refD op).ty + b2n (refD op).res))).2)
  else if offR (refD op) (argsR (refD op) bound 0 (l.drop (b2n (refD op).ty + b2n (refD op).res))).1.length then (zeroIL, 42)
  else (⟨op, if (refD op).ty = true then l.getD 0 0 else 0, if (refD op).res = true then l.getD (b2n (refD op).ty) 0 else 0, (argsR (refD op) bound 0 (l.drop (b2n (refD op).ty + b2n (refD op).res))).1⟩, 0)
def argW (a : ArgP) : List Int := if a.kind = 3 then ofTextL a.s else [a.n]
def argRoom (a : ArgP) : Nat := if a.kind = 3 then a.s.length / 4 + 1 else 1
def wrongA (c : Int) (a : ArgP) (bound : Int) : Int :=
  if c = 0 ∨ a.kind ≠ kindS c then 42
  else if (a.kind = 3 ∧ a.n ≠ 0) ∨ (a.kind ≠ 3 ∧ a.s ≠ []) then 42
  else if a.kind = 1 ∧ idE a.n bound ≠ 0 then 43
  else if a.kind = 4 ∧ enumE c a.n ≠ 0 then 31
  else if zeroAt a.s ≠ a.s.length then 13 else 0
def idH (must : Bool) (n bound e : Int) : Int := if must ≠ decide (n ≠ 0) then e else if must = true ∧ n ≥ bound then 43 else 0
def wrongL (fm : FormL) (bound : Int) : Nat → List ArgP → Int
  | _, [] => 0
  | k, a :: ags => if wrongA (letterS fm k) a bound ≠ 0 then wrongA (letterS fm k) a bound else wrongL fm bound (k + 1) ags
def headW (fm : FormL) (ty res : Int) : List Int := (if fm.ty = true then [ty] else []) ++ (if fm.res = true then [res] else [])
def roomI (fm : FormL) (ags : List ArgP) : Nat := 1 + (b2n fm.ty + b2n fm.res) + (ags.map argRoom).sum
def faultF (bound : Int) (i : InstL) : Int :=
  if (refS i.op).isSome = false then 30
  else if idH (refD i.op).ty i.ty bound 40 ≠ 0 then idH (refD i.op).ty i.ty bound 40
  else if idH (refD i.op).res i.res bound 41 ≠ 0 then idH (refD i.op).res i.res bound 41
  else if wrongL (refD i.op) bound 0 i.args ≠ 0 then wrongL (refD i.op) bound 0 i.args
  else if offR (refD i.op) i.args.length then 42
  else if roomI (refD i.op) i.args > 65535 then 25 else 0
def wordsI (fm : FormL) (i : InstL) : List Int := headW fm i.ty i.res ++ i.args.flatMap argW
def rawF (bound : Int) (i : InstL) : RawL × Int := if faultF bound i ≠ 0 then ((0, []), faultF bound i) else ((i.op, wordsI (refD i.op) i), 0)
end Go.SK
namespace Go.SK
open Go.RowKit Go.ChangeShapes Go.WideShapes Go.ChangeAt
abbrev RdC (Tc Tr Tw Ta : TypeId) (bq : Nat) (fm : FormL) (b : Nat) (bound op ty res : Int) (aa : Option Addr) (ca : Nat) (ags : List ArgP) (ao : Option Addr) (cp : Nat) (l : List Int) (a : Nat) : Res :=
  Res.star [Res.row bq Tc [.int .u16 fm.op, str fm.name, .bool fm.ty, .bool fm.res, str fm.fixed, str fm.rest, .int .i64 fm.most, .int .u8 fm.part, .pointer (some ⟨b, 0, none⟩), .int .u32 bound, .int .u16 op, .int .u32 ty, .int .u32 res, .slice aa ags.length ca], RdR Tr Tw b ao cp l a, Res.sl aa ags.length ca Ta 3 (ags.flatMap argC)]
end Go.SK
namespace Go.SK
def instS (fm : FormL) (bound : Int) (l : List Int) : List ArgP × Int :=
  if (headsF fm l bound).2 ≠ 0 then ([], (headsF fm l bound).2) else argsR fm bound 0 (l.drop (b2n fm.ty + b2n fm.res))
section
variable {fm : FormL} {bound op : Int} {l : List Int}
theorem instS_head (h : (headsF fm l bound).2 ≠ 0) : instS fm bound l = ([], (headsF fm l bound).2) := if_pos h
theorem instS_args (h : (headsF fm l bound).2 = 0) : instS fm bound l = argsR fm bound 0 (l.drop (b2n fm.ty + b2n fm.res)) := if_neg (fun e => e h)
theorem instF_count (h : l.length ≥ 65535) : instF bound op l = (zeroIL, 25) := if_pos h
theorem instF_op (h : ¬ l.length ≥ 65535) (h2 : (refS op).isSome = false) : instF bound op l = (zeroIL, 30) := by unfold instF; rw [if_neg h, if_pos h2]
theorem instS_kinds (h : (instS (refD op) bound l).2 = 0) : badI (refD op) 0 ((instS (refD op) bound l).1.map ArgP.kind) = none := by
  unfold instS at h ⊢
  split at h
  · rename_i h1; exact absurd h h1
  · rename_i h1
    rw [if_neg h1]
    refine kinds_none fun j hj => ?_
    have := args_kinds _ 0 _ h j hj
    rwa [Nat.zero_add] at this
theorem ite_ne_zero_self {α : Type} {x y : α} : (if (0 : Int) ≠ 0 then x else y) = y := if_neg (fun h => h rfl)
theorem instF_eq (h : ¬ l.length ≥ 65535) (h2 : (refS op).isSome = true) : instF bound op l = if (instS (refD op) bound l).2 ≠ 0 then (zeroIL, (instS (refD op) bound l).2) else if wholeE op (instS (refD op) bound l).1 ≠ 0 then (zeroIL, wholeE op (instS (refD op) bound l).1) else (⟨op, if (refD op).ty = true then l.getD 0 0 else 0, if (refD op).res = true then l.getD (b2n (refD op).ty) 0 else 0, (instS (refD op) bound l).1⟩, 0) := by
  unfold instF
  rw [if_neg h, if_neg (by rw [h2]; decide)]
  by_cases h3 : (headsF (refD op) l bound).2 ≠ 0
  · rw [if_pos h3, instS_head h3, if_pos h3]
  · rw [if_neg h3]
    have h4 := instS_args (Classical.not_not.1 h3)
    rw [← h4]
    by_cases h5 : (instS (refD op) bound l).2 ≠ 0
    · rw [if_pos h5, if_pos h5]
    · rw [if_neg h5, if_neg h5, wholeE_of h2 (instS_kinds (Classical.not_not.1 h5))]
      by_cases h6 : offR (refD op) (instS (refD op) bound l).1.length
      · rw [if_pos h6, if_pos h6, if_pos (by decide)]
      · rw [if_neg h6, if_neg h6, ite_ne_zero_self]
theorem instF_err {e : Int} (h : ¬ l.length ≥ 65535) (h2 : (refS op).isSome = true) (h3 : (instS (refD op) bound l).2 = e) (he : e ≠ 0) : instF bound op l = (zeroIL, e) := by rw [instF_eq h h2, h3, if_pos he]
theorem instF_whole {e : Int} (h : ¬ l.length ≥ 65535) (h2 : (refS op).isSome = true) (h3 : (instS (refD op) bound l).2 = 0) (h4 : wholeE op (instS (refD op) bound l).1 = e) (he : e ≠ 0) : instF bound op l = (zeroIL, e) := by rw [instF_eq h h2, if_neg (fun x => x h3), h4, if_pos he]
theorem instF_ok (h : ¬ l.length ≥ 65535) (h2 : (refS op).isSome = true) (h3 : (instS (refD op) bound l).2 = 0) (h4 : wholeE op (instS (refD op) bound l).1 = 0) : instF bound op l = (⟨op, if (refD op).ty = true then l.getD 0 0 else 0, if (refD op).res = true then l.getD (b2n (refD op).ty) 0 else 0, (instS (refD op) bound l).1⟩, 0) := by rw [instF_eq h h2, if_neg (fun x => x h3), if_neg (fun x => x h4)]
def H1 (fm : FormL) (l : List Int) (bound : Int) (a : Nat) (ty e : Int) : Prop := a ≤ l.length ∧ (e = 0 → a = b2n fm.ty ∧ ty = (if fm.ty = true then l.getD 0 0 else 0) ∧ ¬ (fm.ty = true ∧ l.length = 0) ∧ ¬ (fm.ty = true ∧ idE (l.getD 0 0) bound ≠ 0)) ∧ (e ≠ 0 → (headsF fm l bound).2 = e)
theorem H1.no (h : fm.ty = false) : H1 fm l bound 0 0 0 := ⟨Nat.zero_le _, fun _ => ⟨by rw [b2n, h]; rfl, by rw [h]; rfl, by rw [h]; simp, by rw [h]; simp⟩, fun h => absurd rfl h⟩
theorem H1.lacks (h : fm.ty = true) (hl : l.length = 0) : H1 fm l bound 0 0 40 := ⟨Nat.zero_le _, fun hx => absurd hx (by decide), fun _ => by unfold headsF; rw [if_pos ⟨h, hl⟩]⟩
theorem H1.word (h : fm.ty = true) (hl : 0 < l.length) : H1 fm l bound 1 (l.getD 0 0) (idE (l.getD 0 0) bound) := by
  refine ⟨hl, fun he => ⟨by rw [b2n, h]; rfl, by rw [h]; rfl, fun h2 => by omega, fun h2 => h2.2 he⟩, fun he => ?_⟩
  have h43 : idE (l.getD 0 0) bound = 43 := by
    unfold idE at he ⊢; split
    · rfl
    · rename_i hn; rw [if_neg hn] at he; exact absurd rfl he
  unfold headsF
  rw [if_neg (fun h2 => by omega), if_pos ⟨h, he⟩, h43]
def H2 (fm : FormL) (l : List Int) (bound : Int) (a : Nat) (ty res e : Int) : Prop := a ≤ l.length ∧ (e = 0 → (headsF fm l bound).2 = 0 ∧ a = b2n fm.ty + b2n fm.res ∧ ty = (if fm.ty = true then l.getD 0 0 else 0) ∧ res = (if fm.res = true then l.getD (b2n fm.ty) 0 else 0)) ∧ (e ≠ 0 → (headsF fm l bound).2 = e)
theorem H2.err {a : Nat} {ty e : Int} (h : H1 fm l bound a ty e) (he : e ≠ 0) : H2 fm l bound a ty 0 e := ⟨h.1, fun h2 => absurd h2 he, h.2.2⟩
theorem H2.no {a : Nat} {ty e : Int} (h : H1 fm l bound a ty e) (hr : fm.res = false) (he : e = 0) : H2 fm l bound a ty 0 e := by
  have h1 := h.2.1 he
  refine ⟨h.1, fun _ => ⟨?_, by rw [b2n.eq_def fm.res, hr]; exact h1.1, h1.2.1, by rw [hr]; rfl⟩, fun h2 => absurd he h2⟩
  unfold headsF
  rw [if_neg h1.2.2.1, if_neg h1.2.2.2, if_neg (by rw [hr]; simp), if_neg (by rw [hr]; simp)]
theorem H2.lacks {a : Nat} {ty : Int} (h : H1 fm l bound a ty 0) (hr : fm.res = true) (hl : a = l.length) : H2 fm l bound a ty 0 41 := by
  have h1 := h.2.1 rfl
  refine ⟨h.1, fun hx => absurd hx (by decide), fun _ => ?_⟩
  unfold headsF
  rw [if_neg h1.2.2.1, if_neg h1.2.2.2, if_pos ⟨hr, by omega⟩]
theorem H2.word {a : Nat} {ty : Int} (h : H1 fm l bound a ty 0) (hr : fm.res = true) (hl : a < l.length) : H2 fm l bound (a + 1) ty (l.getD a 0) (idE (l.getD a 0) bound) := by
  have h1 := h.2.1 rfl
  have ha := h1.1
  subst ha
  refine ⟨hl, fun he => ⟨?_, by rw [b2n.eq_def fm.res, hr]; rfl, h1.2.1, by rw [hr]; rfl⟩, fun he => ?_⟩
  · unfold headsF
    rw [if_neg h1.2.2.1, if_neg h1.2.2.2, if_neg (fun h2 => by omega), if_neg (fun h2 => h2.2 he)]
  · have h43 : idE (l.getD (b2n fm.ty) 0) bound = 43 := by
      unfold idE at he ⊢; split
      · rfl
      · rename_i hn; rw [if_neg hn] at he; exact absurd rfl he
    unfold headsF
    rw [if_neg h1.2.2.1, if_neg h1.2.2.2, if_neg (fun h2 => by omega), if_pos ⟨hr, he⟩, h43]
theorem H2.zero {a : Nat} {ty res e : Int} (h : H2 fm l bound a ty res e) (hs : (instS fm bound l).2 = 0) : e = 0 := Classical.byContradiction fun he => by
  have h1 := h.2.2 he
  rw [instS_head (by rw [h1]; exact he), h1] at hs
  exact he hs
def A1 (fm : FormL) (l : List Int) (bound : Int) (a : Nat) (e : Int) (ags : List ArgP) : Prop := a ≤ l.length ∧ ags.length ≤ a + 1 ∧ (e = 0 → ags.length ≤ a ∧ ags ++ (argsR fm bound ags.length (l.drop a)).1 = (instS fm bound l).1 ∧ (argsR fm bound ags.length (l.drop a)).2 = (instS fm bound l).2) ∧ (e ≠ 0 → (instS fm bound l).2 = e)
theorem A1.start {a : Nat} {ty res e : Int} (h : H2 fm l bound a ty res e) : A1 fm l bound a e [] := by
  refine ⟨h.1, Nat.zero_le _, fun he => ⟨Nat.zero_le _, ?_⟩, fun he => ?_⟩
  · have h1 := h.2.1 he
    rw [instS_args h1.1, ← h1.2.1]
    exact ⟨rfl, rfl⟩
  · have h1 := h.2.2 he
    rw [instS_head (by rw [h1]; exact he), h1]
theorem A1.step {a a2 : Nat} {ags ags2 : List ArgP} {c : Int} (h : A1 fm l bound a 0 ags) (hc : letterS fm (ags.length : Int) = c) (hgo : l.length - a > 0 ∨ ags.length < fm.fixed.length)
    (hE : (argE c (l.drop a) bound).2.2 = 0 → a2 = a + (argE c (l.drop a) bound).2.1 ∧ ags2 = ags ++ [(argE c (l.drop a) bound).1]) (ha2 : a2 ≤ l.length) (hn : ags2.length ≤ ags.length + 1) (hle : a ≤ a2 ∨ (argE c (l.drop a) bound).2.2 = 0) : A1 fm l bound a2 (argE c (l.drop a) bound).2.2 ags2 := by
  subst hc
  have h1 := h.2.2.1 rfl
  refine ⟨ha2, ?_, fun he => ?_, fun he => ?_⟩
  · rcases hle with hh | hh
    · omega
    · have := hE hh; omega
  · have h2 := hE he
    have h3 := argE_ok he
    have hs := argsR_step (fm := fm) (bound := bound) (k := ags.length) (ws := l.drop a) (a := (argE (letterS fm ags.length) (l.drop a) bound).1) (m := (argE (letterS fm ags.length) (l.drop a) bound).2.1) (by rw [List.length_drop]; omega) (by rw [← he])
    rw [List.drop_drop] at hs
    rw [h2.1, h2.2, List.length_append, List.length_singleton]
    rw [hs] at h1
    exact ⟨by omega, by rw [List.append_assoc]; exact h1.2.1, h1.2.2⟩
  · rw [← h1.2.2, argsR_err (by rw [List.length_drop]; omega) he]
theorem A1.stop {a : Nat} {ags : List ArgP} (h : A1 fm l bound a 0 ags) (h1 : ¬ l.length - a > 0) (h2 : ¬ ags.length < fm.fixed.length) : ags = (instS fm bound l).1 ∧ (instS fm bound l).2 = 0 := by
  have h3 := h.2.2.1 rfl
  rw [argsR_stop (by rw [List.length_drop]; omega) (by omega)] at h3
  exact ⟨by rw [← h3.2.1]; simp, h3.2.2.symm⟩
def A1mu (n a : Nat) (e : Int) : Nat := if e = 0 then n - a + 1 else 0
theorem A1mu.step {n a a2 : Nat} {e2 : Int} (h : e2 = 0 → a < a2 ∧ a2 ≤ n) : A1mu n a2 e2 < A1mu n a 0 := by
  unfold A1mu
  rw [if_pos rfl]
  split
  · rename_i he; have := h he; omega
  · omega
end
end Go.SK
namespace Go.SK
section
variable {fm : FormL} {bound : Int} {l : List Int}
theorem A1.err {a : Nat} {ags : List ArgP} {c e : Int} (h : A1 fm l bound a 0 ags) (hc : letterS fm (ags.length : Int) = c) (hgo : l.length - a > 0 ∨ ags.length < fm.fixed.length) (hE : (argE c (l.drop a) bound).2.2 = e) (he : e ≠ 0) : (instS fm bound l).2 = e := by
  subst hc
  have h1 := h.2.2.1 rfl
  rw [← h1.2.2, argsR_err (by rw [List.length_drop]; omega) (by rw [hE]; exact he), hE]
end
end Go.SK
namespace Go.SK
open Go.RowKit Go.ChangeShapes Go.WideShapes Go.ChangeAt
abbrev WrC (Tc Tw : TypeId) (bq : Nat) (fm : FormL) (bound : Int) (ao : Option Addr) (cp : Nat) (ws : List Int) (room : Int) : Res :=
  Res.star [Res.row bq Tc [.int .u16 fm.op, str fm.name, .bool fm.ty, .bool fm.res, str fm.fixed, str fm.rest, .int .i64 fm.most, .int .u8 fm.part, .int .u32 bound, .slice ao ws.length cp, .int .i64 room], Res.sl ao ws.length cp Tw 1 (ws.flatMap u32C)]
def mustW (must : Bool) (n : Int) : List Int := if must = true then [n] else []
theorem idH_lacks {must : Bool} {n bound e : Int} (h : must ≠ decide (n ≠ 0)) : idH must n bound e = e := if_pos h
theorem idH_no {must : Bool} {n bound e : Int} (h : ¬ must ≠ decide (n ≠ 0)) (hm : must = false) : idH must n bound e = 0 := by unfold idH; rw [if_neg h, if_neg (by rw [hm]; simp)]
theorem idH_id {must : Bool} {n bound e : Int} (h : ¬ must ≠ decide (n ≠ 0)) (hm : must = true) : idH must n bound e = idE n bound := by
  subst hm
  have hn : n ≠ 0 := by
    intro e; apply h; subst e; decide
  unfold idH idE
  rw [if_neg h]
  by_cases hb : n ≥ bound
  · rw [if_pos ⟨rfl, hb⟩, if_pos (.inr hb)]
  · rw [if_neg (fun hx => hb hx.2), if_neg (fun hx => hx.elim hn hb)]
def textE (s : List UInt8) : Int := if zeroAt s ≠ s.length then 13 else 0
theorem ofText_len {s : List UInt8} (h : ofTextE s = 0) : (ofTextL s).length = s.length / 4 + 1 := by
  rw [ofTextL_ok h, splitW_len, padded_len]; omega
theorem ofText_le (s : List UInt8) : (ofTextL s).length ≤ s.length / 4 + 1 := by
  by_cases h : ofTextE s = 0
  · rw [ofText_len h]; exact Nat.le_refl _
  · rw [ofTextL_err h]; exact Nat.zero_le _
section
variable {c bound : Int} {a : ArgP}
theorem wrongA_form (h : c = 0 ∨ a.kind ≠ kindS c ∨ (a.kind = 3 ∧ a.n ≠ 0) ∨ (a.kind ≠ 3 ∧ a.s ≠ [])) : wrongA c a bound = 42 := by
  unfold wrongA
  by_cases h1 : c = 0 ∨ a.kind ≠ kindS c
  · rw [if_pos h1]
  · rw [if_neg h1]
    rcases h with h | h | h
    · exact absurd (.inl h) h1
    · exact absurd (.inr h) h1
    · rw [if_pos h]
theorem wrongA_text (h : ¬ c = 0) (hk : ¬ a.kind ≠ kindS c) (h3 : a.kind = 3) (hn : ¬ a.n ≠ 0) : wrongA c a bound = textE a.s := by
  unfold wrongA
  rw [if_neg (fun hx => hx.elim h hk), if_neg (fun hx => hx.elim (fun hy => hn hy.2) (fun hy => hy.1 h3)), if_neg (by omega), if_neg (by omega)]
  rfl
theorem wrongA_one (h : ¬ c = 0) (hk : ¬ a.kind ≠ kindS c) (h3 : ¬ a.kind = 3) (hs : ¬ a.s ≠ []) : wrongA c a bound = if a.kind = 1 then idE a.n bound else if a.kind = 4 then enumE c a.n else 0 := by
  have hs0 : a.s = [] := Classical.not_not.1 hs
  have hz : ¬ zeroAt a.s ≠ a.s.length := by rw [hs0]; simp [zeroAt]
  unfold wrongA
  rw [if_neg (fun hx => hx.elim h hk), if_neg (fun hx => hx.elim (fun hy => h3 hy.1) (fun hy => hs hy.2))]
  by_cases k1 : a.kind = 1
  · rw [if_pos k1]
    by_cases he : idE a.n bound = 0
    · rw [if_neg (fun hx => hx.2 he), if_neg (by omega), if_neg hz, he]
    · rw [if_pos ⟨k1, he⟩]
      unfold idE at he ⊢; split
      · rfl
      · rename_i hn; rw [if_neg hn] at he; exact absurd rfl he
  · rw [if_neg k1, if_neg (fun hx => k1 hx.1)]
    by_cases k4 : a.kind = 4
    · rw [if_pos k4]
      by_cases he : enumE c a.n = 0
      · rw [if_neg (fun hx => hx.2 he), if_neg hz, he]
      · rw [if_pos ⟨k4, he⟩]
        unfold enumE at he ⊢; split
        · rename_i hn; rw [if_pos hn] at he; exact absurd rfl he
        · rfl
    · rw [if_neg k4, if_neg (fun hx => k4 hx.1), if_neg hz]
theorem argW_text (h : a.kind = 3) : argW a = ofTextL a.s ∧ argRoom a = a.s.length / 4 + 1 := by unfold argW argRoom; rw [if_pos h, if_pos h]; exact ⟨rfl, rfl⟩
theorem argW_one (h : ¬ a.kind = 3) : argW a = [a.n] ∧ argRoom a = 1 := by unfold argW argRoom; rw [if_neg h, if_neg h]; exact ⟨rfl, rfl⟩
end
end Go.SK
namespace Go.SK
open Go.RowKit Go.ChangeShapes Go.WideShapes Go.ChangeAt
section
variable {bound : Int} {i : InstL}
theorem faultF_op (h : (refS i.op).isSome = false) : faultF bound i = 30 := if_pos h
theorem faultF_eq (h : (refS i.op).isSome = true) : faultF bound i = if idH (refD i.op).ty i.ty bound 40 ≠ 0 then idH (refD i.op).ty i.ty bound 40
  else if idH (refD i.op).res i.res bound 41 ≠ 0 then idH (refD i.op).res i.res bound 41
  else if wrongL (refD i.op) bound 0 i.args ≠ 0 then wrongL (refD i.op) bound 0 i.args
  else if offR (refD i.op) i.args.length then 42
  else if roomI (refD i.op) i.args > 65535 then 25 else 0 := by
  unfold faultF; rw [if_neg (by rw [h]; decide)]
theorem wrongL_app {fm : FormL} {ys : List ArgP} : ∀ (xs : List ArgP) (k : Nat), wrongL fm bound k (xs ++ ys) = if wrongL fm bound k xs ≠ 0 then wrongL fm bound k xs else wrongL fm bound (k + xs.length) ys
  | [], k => by simp [wrongL]
  | x :: xs, k => by
    rw [List.cons_append, wrongL, wrongL]
    by_cases h : wrongA (letterS fm k) x bound ≠ 0
    · rw [if_pos h, if_pos h, if_pos h]
    · rw [if_neg h, if_neg h, wrongL_app xs (k + 1), List.length_cons, show k + 1 + xs.length = k + (xs.length + 1) by omega]
theorem wrongL_take {fm : FormL} {l : List ArgP} {k : Nat} (hk : k < l.length) (h : wrongL fm bound 0 (l.take k) = 0) : (wrongL fm bound 0 (l.take (k + 1)) = wrongA (letterS fm (k : Int)) (l.getD k zeroA) bound) ∧ (wrongA (letterS fm (k : Int)) (l.getD k zeroA) bound ≠ 0 → wrongL fm bound 0 l = wrongA (letterS fm (k : Int)) (l.getD k zeroA) bound) := by
  have hl : (l.take k).length = k := by rw [List.length_take]; omega
  constructor
  · rw [take_getD2 (d := zeroA) hk, wrongL_app, if_neg (fun e => e h), hl, Nat.zero_add, wrongL]
    by_cases he : wrongA (letterS fm (k : Int)) (l.getD k zeroA) bound ≠ 0
    · rw [if_pos he]
    · rw [if_neg he, wrongL, Classical.not_not.1 he]
  · intro he
    have e : l = l.take k ++ (l.getD k zeroA :: l.drop (k + 1)) := by
      have := List.take_append_drop k l
      rw [List.drop_eq_getElem_cons hk] at this
      simp only [List.getD, List.getElem?_eq_getElem hk, Option.getD_some]
      exact this.symm
    conv => lhs; rw [e]
    rw [wrongL_app, if_neg (fun e => e h), hl, Nat.zero_add, wrongL, if_pos he]
theorem wrongL_kinds {fm : FormL} : ∀ (l : List ArgP) (k : Nat), wrongL fm bound k l = 0 → ∀ j, j < l.length → letterS fm ((k + j : Nat) : Int) ≠ 0 ∧ (l.getD j zeroA).kind = kindS (letterS fm ((k + j : Nat) : Int))
  | [], k, _, j, hj => by simp at hj
  | x :: l, k, h, j, hj => by
    rw [wrongL] at h
    split at h
    · rename_i h1; exact absurd h h1
    · rename_i h1
      cases j with
      | zero =>
        have h2 := Classical.not_not.1 h1
        unfold wrongA at h2
        split at h2
        · cases h2
        · rename_i h3
          rw [Nat.add_zero]
          exact ⟨fun e => h3 (.inl e), Classical.not_not.1 fun e => h3 (.inr (by simpa using e))⟩
      | succ j =>
        have := wrongL_kinds l (k + 1) h j (by simpa using hj)
        rw [show k + 1 + j = k + (j + 1) by omega] at this
        simpa using this
theorem wrongL_none {op : Int} {l : List ArgP} (h : wrongL (refD op) bound 0 l = 0) : badI (refD op) 0 (l.map ArgP.kind) = none :=
  kinds_none fun j hj => by
    have := wrongL_kinds l 0 h j hj
    rwa [Nat.zero_add] at this
def sumR (l : List ArgP) (k : Nat) : Nat := ((l.take k).map argRoom).sum
theorem sumR_step {l : List ArgP} {k : Nat} (hk : k < l.length) : sumR l (k + 1) = sumR l k + argRoom (l.getD k zeroA) := by
  unfold sumR; rw [take_getD2 (d := zeroA) hk]; simp
theorem sumR_le {l : List ArgP} {k : Nat} : sumR l k ≤ (l.map argRoom).sum := by
  have := congrArg (fun l : List ArgP => (l.map argRoom).sum) (List.take_append_drop k l)
  simp only [List.map_append, List.sum_append] at this
  unfold sumR; omega
theorem argRoom_pos (a : ArgP) : 1 ≤ argRoom a := by unfold argRoom; split <;> omega
theorem len_sum : ∀ l : List ArgP, l.length ≤ (l.map argRoom).sum
  | [] => Nat.le_refl _
  | a :: l => by have := len_sum l; have := argRoom_pos a; simp only [List.length_cons, List.map_cons, List.sum_cons]; omega
structure RW (bound : Int) (i : InstL) (k : Nat) (ws : List Int) (room e : Int) : Prop where
  ok : e = 0 → idH (refD i.op).ty i.ty bound 40 = 0 ∧ idH (refD i.op).res i.res bound 41 = 0 ∧ wrongL (refD i.op) bound 0 (i.args.take k) = 0 ∧ ws = headW (refD i.op) i.ty i.res ++ (i.args.take k).flatMap argW ∧ room = ((b2n (refD i.op).ty + b2n (refD i.op).res + sumR i.args k : Nat) : Int)
  err : e ≠ 0 → faultF bound i = e
  len : ws.length ≤ 2 + sumR i.args k
  r0 : 0 ≤ room
  r1 : room ≤ 2 + (sumR i.args k : Int)
theorem RW.ty (hs : (refS i.op).isSome = true) {ws : List Int} {room : Int} (he : idH (refD i.op).ty i.ty bound 40 ≠ 0) (hl : ws.length ≤ 0 + 1) (h0 : 0 ≤ room) (h1 : room ≤ 0 + 1) : RW bound i 0 ws room (idH (refD i.op).ty i.ty bound 40) :=
  ⟨fun h => absurd h he, fun _ => by rw [faultF_eq hs, if_pos he], by omega, h0, by omega⟩
theorem RW.start {ws2 : List Int} {room2 : Int} (hs : (refS i.op).isSome = true) (h1 : idH (refD i.op).ty i.ty bound 40 = 0)
    (h2 : idH (refD i.op).res i.res bound 41 = 0 → ws2 = ([] ++ mustW (refD i.op).ty i.ty) ++ mustW (refD i.op).res i.res ∧ room2 = 0 + b2n (refD i.op).ty + b2n (refD i.op).res) (hl : ws2.length ≤ 2) (h0 : 0 ≤ room2) (hr : room2 ≤ 2) : RW bound i 0 ws2 room2 (idH (refD i.op).res i.res bound 41) := by
  refine ⟨fun he => ?_, fun he => by rw [faultF_eq hs, if_neg (fun e => e h1), if_pos he], by omega, h0, by omega⟩
  obtain ⟨e1, e2⟩ := h2 he
  refine ⟨h1, he, rfl, ?_, ?_⟩
  · rw [e1]; simp [headW, mustW]
  · rw [e2]; simp [sumR]
theorem RW.skip {k : Nat} {ws : List Int} {room e : Int} (h : RW bound i k ws room e) (he : e ≠ 0) (hk : k < i.args.length) : RW bound i (k + 1) ws room e := by
  have hs := sumR_step hk
  exact ⟨fun h2 => absurd h2 he, h.err, by have := h.len; omega, h.r0, by have := h.r1; omega⟩
theorem RW.step {k : Nat} {ws ws2 : List Int} {room room2 : Int} (h : RW bound i k ws room 0) (hs : (refS i.op).isSome = true) (hk : k < i.args.length)
    (hE : wrongA (letterS (refD i.op) (k : Int)) (i.args.getD k zeroA) bound = 0 → ws2 = ws ++ argW (i.args.getD k zeroA) ∧ room2 = room + (argRoom (i.args.getD k zeroA) : Int)) (hl : ws2.length ≤ ws.length + argRoom (i.args.getD k zeroA)) (h0 : 0 ≤ room2) (hr : room2 ≤ room + (argRoom (i.args.getD k zeroA) : Int)) :
    RW bound i (k + 1) ws2 room2 (wrongA (letterS (refD i.op) (k : Int)) (i.args.getD k zeroA) bound) := by
  have hsum := sumR_step hk
  have ho := h.ok rfl
  have ht := wrongL_take hk ho.2.2.1
  refine ⟨fun he => ?_, fun he => ?_, by have := h.len; omega, h0, by have := h.r1; omega⟩
  · obtain ⟨e1, e2⟩ := hE he
    refine ⟨ho.1, ho.2.1, ht.1.trans he, ?_, ?_⟩
    · rw [e1, ho.2.2.2.1, take_getD2 (d := zeroA) hk]; simp
    · rw [e2, ho.2.2.2.2, hsum]; omega
  · rw [faultF_eq hs, if_neg (fun e => e ho.1), if_neg (fun e => e ho.2.1), if_pos (by rw [ht.2 he]; exact he), ht.2 he]
theorem RW.full {ws : List Int} {room : Int} (h : RW bound i i.args.length ws room 0) (hs : (refS i.op).isSome = true) : ws = wordsI (refD i.op) i ∧ room + 1 = (roomI (refD i.op) i.args : Int) ∧ faultF bound i = if wholeE i.op i.args ≠ 0 then wholeE i.op i.args else if roomI (refD i.op) i.args > 65535 then 25 else 0 := by
  have ho := h.ok rfl
  rw [List.take_length] at ho
  refine ⟨ho.2.2.2.1, ?_, ?_⟩
  · rw [ho.2.2.2.2]; unfold sumR roomI; rw [List.take_length]; omega
  · rw [faultF_eq hs, if_neg (fun e => e ho.1), if_neg (fun e => e ho.2.1), if_neg (fun e => e ho.2.2.1), wholeE_of hs (wrongL_none ho.2.2.1)]
    by_cases hf : offR (refD i.op) i.args.length
    · rw [if_pos hf, if_pos hf, if_pos (by decide)]
    · rw [if_neg hf, if_neg hf, ite_ne_zero_self]
theorem rawF_err {e : Int} (h : faultF bound i = e) (he : e ≠ 0) : rawF bound i = ((0, []), e) := by unfold rawF; rw [h, if_pos he]
theorem rawF_ok (h : faultF bound i = 0) : rawF bound i = ((i.op, wordsI (refD i.op) i), 0) := by unfold rawF; rw [if_neg (fun e => e h)]
end
end Go.SK
namespace Go.SK
open Go.RowKit Go.ChangeShapes Go.WideShapes Go.ChangeAt
def shapeG (bound : Int) : Nat → Nat → List InstL → Int × Int
  | _, _, [] => (0, 0)
  | n, k, i :: is => if faultF bound i ≠ 0 then (faultF bound i, (k : Int)) else if n + roomI (refD i.op) i.args > 1048576 then (4, (k : Int)) else shapeG bound (n + roomI (refD i.op) i.args) (k + 1) is
def shapeF (bound : Int) (l : List InstL) : Int × Int := if bound = 0 ∨ bound > 65536 then (24, 0) else shapeG bound 5 0 l
abbrev rawsF (bound : Int) (l : List InstL) : List RawL := l.map fun i => (rawF bound i).1
def encodeF (gn bd : Int) (l : List InstL) : List UInt8 × (Int × Int) := if (shapeF bd l).1 ≠ 0 then ([], shapeF bd l) else (joinW (writeW gn bd (rawsF bd l)), (0, 0))
def zeroIP : InstL := ⟨0, 0, 0, []⟩
section
variable {bound : Int}
theorem rawF_fault {i : InstL} : (rawF bound i).2 = faultF bound i := by
  unfold rawF; split
  · rfl
  · rename_i h; exact (Classical.not_not.1 h).symm
theorem fault_parts {i : InstL} (h : faultF bound i = 0) : (refS i.op).isSome = true ∧ idH (refD i.op).ty i.ty bound 40 = 0 ∧ idH (refD i.op).res i.res bound 41 = 0 ∧ wrongL (refD i.op) bound 0 i.args = 0 ∧ ¬ offR (refD i.op) i.args.length ∧ roomI (refD i.op) i.args ≤ 65535 := by
  cases hs : (refS i.op).isSome with
  | false => rw [faultF_op hs] at h; cases h
  | true =>
    rw [faultF_eq hs] at h
    split at h
    · rename_i h1; exact absurd h h1
    · rename_i h1
      split at h
      · rename_i h2; exact absurd h h2
      · rename_i h2
        split at h
        · rename_i h3; exact absurd h h3
        · rename_i h3
          split at h
          · cases h
          · rename_i h4
            split at h
            · cases h
            · rename_i h5
              exact ⟨rfl, Classical.not_not.1 h1, Classical.not_not.1 h2, Classical.not_not.1 h3, h4, by omega⟩
theorem wrongL_all {fm : FormL} : ∀ (l : List ArgP) (k : Nat), wrongL fm bound k l = 0 → ∀ a ∈ l, ∃ c : Int, wrongA c a bound = 0
  | [], _, _, a, h => by cases h
  | x :: l, k, h, a, ha => by
    rw [wrongL] at h
    split at h
    · rename_i h1; exact absurd h h1
    · rename_i h1
      cases ha with
      | head => exact ⟨_, Classical.not_not.1 h1⟩
      | tail _ ha => exact wrongL_all l (k + 1) h a ha
theorem wrongA_zero {c : Int} {a : ArgP} (h : wrongA c a bound = 0) : c ≠ 0 ∧ a.kind = kindS c ∧ (a.kind = 3 → a.n = 0) ∧ (a.kind ≠ 3 → a.s = []) ∧ (a.kind = 1 → idE a.n bound = 0) ∧ (a.kind = 4 → enumE c a.n = 0) ∧ zeroAt a.s = a.s.length := by
  unfold wrongA at h
  split at h
  · cases h
  · rename_i h1
    split at h
    · cases h
    · rename_i h2
      split at h
      · cases h
      · rename_i h3
        split at h
        · cases h
        · rename_i h4
          split at h
          · cases h
          · rename_i h5
            exact ⟨fun e => h1 (.inl e), Classical.not_not.1 fun e => h1 (.inr e), fun k => Classical.not_not.1 fun e => h2 (.inl ⟨k, e⟩), fun k => Classical.not_not.1 fun e => h2 (.inr ⟨k, e⟩), fun k => Classical.not_not.1 fun e => h3 ⟨k, e⟩, fun k => Classical.not_not.1 fun e => h4 ⟨k, e⟩, Classical.not_not.1 h5⟩
theorem argRoom_sum {l : List ArgP} {a : ArgP} (h : a ∈ l) : argRoom a ≤ (l.map argRoom).sum := by
  induction l with
  | nil => cases h
  | cons x l ih =>
    simp only [List.map_cons, List.sum_cons]
    cases h with
    | head => omega
    | tail _ h => have := ih h; omega
theorem argW_len {c : Int} {a : ArgP} (h : wrongA c a bound = 0) (hr : argRoom a ≤ 65535) : (argW a).length = argRoom a := by
  have hz := (wrongA_zero h).2.2.2.2.2.2
  by_cases hk : a.kind = 3
  · rw [(argW_text hk).1, (argW_text hk).2]
    rw [(argW_text hk).2] at hr
    exact ofText_len (by unfold ofTextE; rw [if_neg (fun e => e hz), if_neg (by omega)])
  · rw [(argW_one hk).1, (argW_one hk).2]; rfl
theorem flatW_len : ∀ {l : List ArgP}, (∀ a ∈ l, (argW a).length = argRoom a) → (l.flatMap argW).length = (l.map argRoom).sum
  | [], _ => rfl
  | a :: l, h => by
    simp only [List.flatMap_cons, List.length_append, List.map_cons, List.sum_cons]
    rw [h a (.head _), flatW_len fun b hb => h b (.tail _ hb)]
theorem words_room {i : InstL} (h : faultF bound i = 0) : (wordsI (refD i.op) i).length + 1 = roomI (refD i.op) i.args ∧ (wordsI (refD i.op) i).length < 65535 := by
  have hp := fault_parts h
  have hl : (wordsI (refD i.op) i).length + 1 = roomI (refD i.op) i.args := by
    have hr := hp.2.2.2.2.2
    unfold wordsI roomI at *
    rw [List.length_append, flatW_len (fun a ha => by
      obtain ⟨c, hc⟩ := wrongL_all _ _ hp.2.2.2.1 a ha
      exact argW_len hc (by have := argRoom_sum ha; omega))]
    have : (headW (refD i.op) i.ty i.res).length = b2n (refD i.op).ty + b2n (refD i.op).res := by
      unfold headW b2n; split <;> split <;> simp
    omega
  exact ⟨hl, by omega⟩
theorem shapeG_step {n k : Nat} {l : List InstL} {j : Nat} (h : j < l.length) : shapeG bound n k (l.drop j) = if faultF bound (l.getD j zeroIP) ≠ 0 then (faultF bound (l.getD j zeroIP), (k : Int)) else if n + roomI (refD (l.getD j zeroIP).op) (l.getD j zeroIP).args > 1048576 then (4, (k : Int)) else shapeG bound (n + roomI (refD (l.getD j zeroIP).op) (l.getD j zeroIP).args) (k + 1) (l.drop (j + 1)) := by
  have e : l.drop j = l.getD j zeroIP :: l.drop (j + 1) := by
    rw [List.drop_eq_getElem_cons h]; simp [List.getD, h]
  rw [e, shapeG]
theorem shapeG_end {n k : Nat} {l : List InstL} : shapeG bound n k (l.drop l.length) = (0, 0) := by rw [List.drop_of_length_le (Nat.le_refl _)]; rfl
theorem shapeF_bound {l : List InstL} (h : bound = 0 ∨ bound > 65536) : shapeF bound l = (24, 0) := if_pos h
theorem shapeF_in {l : List InstL} (h : ¬ bound = 0) (h2 : ¬ bound > 65536) : shapeF bound l = shapeG bound 5 0 l := if_neg fun h3 => h3.elim h h2
theorem shapeG_good : ∀ {l : List InstL} {n k : Nat}, n ≤ 1048576 → (shapeG bound n k l).1 = 0 → (∀ i ∈ l, faultF bound i = 0) ∧ shapeG bound n k l = (0, 0) ∧ (cntF n k ((rawsF bound l).map lenL)).2.1 = 0
  | [], n, k, hn, h => ⟨by simp, rfl, rfl⟩
  | i :: is, n, k, hn, h => by
    rw [shapeG] at h ⊢
    split at h
    · rename_i h1; exact absurd h h1
    · rename_i h1
      have hf := Classical.not_not.1 h1
      split at h
      · cases h
      · rename_i h2
        rw [if_neg h1, if_neg h2]
        have ih := shapeG_good (l := is) (by omega) h
        have hw := words_room hf
        refine ⟨fun x hx => by cases hx with
          | head => exact hf
          | tail _ hx => exact ih.1 x hx, ih.2.1, ?_⟩
        simp only [rawsF, List.map_cons] at ih ⊢
        rw [rawF_ok hf, cntF, if_neg (by simp only [lenL]; omega), if_neg (by simp only [lenL]; omega)]
        have e : n + 1 + lenL (i.op, wordsI (refD i.op) i) = n + roomI (refD i.op) i.args := by simp only [lenL]; omega
        rw [e]; exact ih.2.2
theorem encode_good {gn : Int} {l : List InstL} (h : (shapeF bound l).1 = 0) : encodeF gn bound l = (joinW (writeW gn bound (rawsF bound l)), (0, 0)) ∧ writeF gn bound (rawsF bound l) = (writeW gn bound (rawsF bound l), (0, 0)) ∧ shapeF bound l = (0, 0) ∧ (∀ i ∈ l, faultF bound i = 0) ∧ ¬ bound = 0 ∧ ¬ bound > 65536 := by
  have hb : ¬ (bound = 0 ∨ bound > 65536) := fun hb => by rw [shapeF_bound hb] at h; cases h
  have h1 : ¬ bound = 0 := fun e => hb (.inl e)
  have h2 : ¬ bound > 65536 := fun e => hb (.inr e)
  have hg : (shapeG bound 5 0 l).1 = 0 := by rw [shapeF_in h1 h2] at h; exact h
  have hh := shapeG_good (by decide) hg
  exact ⟨if_neg fun e => e h, writeF_ok h1 h2 hh.2.2, by rw [shapeF_in h1 h2]; exact hh.2.1, hh.1, h1, h2⟩
theorem encode_bad {gn : Int} {l : List InstL} (h : (shapeF bound l).1 ≠ 0) : encodeF gn bound l = ([], shapeF bound l) := if_pos h
end
end Go.SK
namespace Go.SK
theorem mapL_getD {l : List InstP} {i : Nat} (h : i < l.length) : (l.map InstP.L).getD i zeroIP = (l.getD i zeroI).L := map_getD2 InstP.L zeroI h
theorem rawsF_take {bound : Int} {l : List InstP} {i : Nat} (h : i < l.length) : rawsF bound ((l.map InstP.L).take (i + 1)) = rawsF bound ((l.map InstP.L).take i) ++ [(rawF bound (l.getD i zeroI).L).1] := by
  rw [take_getD2 (d := zeroIP) (by rw [List.length_map]; exact h), mapL_getD h]; simp [rawsF]
theorem rawF_len {bound : Int} {i : InstL} {r : RawL} {e : Int} (h : rawF bound i = (r, e)) : e = faultF bound i ∧ (e = 0 → r.2.length + 1 = roomI (refD i.op) i.args ∧ r.2.length < 65535 ∧ r.1 = i.op) ∧ (e ≠ 0 → r = (0, [])) := by
  have hf := rawF_fault (bound := bound) (i := i)
  rw [h] at hf
  refine ⟨hf, fun he => ?_, fun he => ?_⟩
  · have h0 : faultF bound i = 0 := by rw [← hf]; exact he
    rw [rawF_ok h0] at h
    injection h with h1 h2
    rw [← h1]
    have := words_room h0
    exact ⟨this.1, this.2, rfl⟩
  · rw [rawF_err hf.symm he] at h
    injection h with h1 h2
    exact h1.symm
end Go.SK
namespace Go.SK
theorem encode_len {bound gn : Int} {l : List InstL} (h : (shapeF bound l).1 = 0) : (writeW gn bound (rawsF bound l)).length ≤ 1048576 := by
  have he := encode_good (gn := gn) h
  have hg : (shapeG bound 5 0 l).1 = 0 := by rw [shapeF_in he.2.2.2.2.1 he.2.2.2.2.2] at h; exact h
  have hh := shapeG_good (by decide) hg
  rw [writeW_len]
  exact (cnt_good (by decide) hh.2.2).2.2
theorem raws_mem {bound : Int} {l : List InstP} {done : List RawP} (h : done.map RawP.L = rawsF bound (l.map InstP.L)) (hf : ∀ i ∈ l.map InstP.L, faultF bound i = 0) {r : RawP} (hr : r ∈ done) : ∃ i ∈ l, r.op = i.op ∧ r.ws.length < 65535 := by
  have hm : r.L ∈ rawsF bound (l.map InstP.L) := h ▸ List.mem_map_of_mem hr
  obtain ⟨i, hi, he⟩ := List.mem_map.1 hm
  obtain ⟨p, hp, rfl⟩ := List.mem_map.1 hi
  have h0 := hf _ hi
  rw [rawF_ok h0] at he
  have h1 := congrArg Prod.fst he
  have h2 := congrArg Prod.snd he
  refine ⟨p, hp, h1.symm, ?_⟩
  have := (words_room h0).2
  have h3 : r.ws = wordsI (refD p.L.op) p.L := h2.symm
  rw [h3]; exact this
theorem raws_len {bound : Int} {l : List InstP} {done : List RawP} (h : done.map RawP.L = rawsF bound (l.map InstP.L)) : done.length = l.length := by
  have := congrArg List.length h
  simpa [rawsF] using this
end Go.SK
namespace Go.SK
theorem Wd.app {l m : List Int} (h1 : Wd l) (h2 : Wd m) : Wd (l ++ m) := fun x hx => (List.mem_append.1 hx).elim (h1 x) (h2 x)
theorem Wd.nil : Wd [] := fun x hx => by cases hx
theorem Wd.one {x : Int} (h : 0 ≤ x ∧ x < 4294967296) : Wd [x] := fun y hy => by cases hy with
  | head => exact h
  | tail _ h => cases h
end Go.SK
namespace Go.SK
open Go.RowKit Go.ChangeShapes Go.WideShapes Go.ChangeAt
def decG (bound : Int) : List InsW → List InstL × (Int × Int)
  | [] => ([], (0, 0))
  | p :: ps => if (instF bound p.2.1 p.2.2).2 ≠ 0 then ([], ((instF bound p.2.1 p.2.2).2, (p.1 : Int))) else if (decG bound ps).2.1 ≠ 0 then ([], (decG bound ps).2) else ((instF bound p.2.1 p.2.2).1 :: (decG bound ps).1, (0, 0))
abbrev DecL := (Int × Int × List InstL) × (Int × Int)
def decW (w : List Int) : DecL :=
  if (readF w).2.2.1 ≠ 0 then ((0, 0, []), (readF w).2.2)
  else if (decG (readF w).1.2 (readF w).2.1).2.1 ≠ 0 then ((0, 0, []), (decG (readF w).1.2 (readF w).2.1).2)
  else (((readF w).1.1, (readF w).1.2, (decG (readF w).1.2 (readF w).2.1).1), (0, 0))
def decodeF (b : List UInt8) : DecL := if splitE b ≠ 0 then ((0, 0, []), (splitE b, 0)) else decW (splitL b)
section
variable {bound : Int}
theorem decG_err : ∀ {ps : List InsW} {i : Nat}, i < ps.length → (∀ j, j < i → (instF bound (ps.getD j zeroW).2.1 (ps.getD j zeroW).2.2).2 = 0) → (instF bound (ps.getD i zeroW).2.1 (ps.getD i zeroW).2.2).2 ≠ 0 →
    (decG bound ps).2 = ((instF bound (ps.getD i zeroW).2.1 (ps.getD i zeroW).2.2).2, ((ps.getD i zeroW).1 : Int))
  | [], i, h, _, _ => by simp at h
  | p :: ps, 0, _, _, he => by
    simp only [List.getD_cons_zero] at he ⊢
    rw [decG, if_pos he]
  | p :: ps, i + 1, h, hall, he => by
    have h0 := hall 0 (by omega)
    simp only [List.getD_cons_zero] at h0
    have ih := decG_err (ps := ps) (i := i) (by simpa using h) (fun j hj => by simpa using hall (j + 1) (by omega)) (by simpa using he)
    rw [decG, if_neg (fun e => e h0), ih]
    simp only [List.getD_cons_succ] at he ⊢
    rw [if_pos he]
theorem decG_ok : ∀ {ps : List InsW}, (∀ j, j < ps.length → (instF bound (ps.getD j zeroW).2.1 (ps.getD j zeroW).2.2).2 = 0) → decG bound ps = (ps.map fun p => (instF bound p.2.1 p.2.2).1, (0, 0))
  | [], _ => rfl
  | p :: ps, hall => by
    have h0 := hall 0 (by simp)
    simp only [List.getD_cons_zero] at h0
    have ih := decG_ok (ps := ps) (fun j hj => by simpa using hall (j + 1) (by simpa using hj))
    rw [decG, if_neg (fun e => e h0), ih, ite_ne_zero_self]
    rfl
end
theorem decodeF_split {b : List UInt8} (h : splitE b ≠ 0) : decodeF b = ((0, 0, []), (splitE b, 0)) := if_pos h
theorem decodeF_words {b : List UInt8} (h : splitE b = 0) : decodeF b = decW (splitL b) := if_neg fun e => e h
theorem decW_read {w : List Int} (h : (readF w).2.2.1 ≠ 0) : decW w = ((0, 0, []), (readF w).2.2) := if_pos h
theorem decW_inst {w : List Int} {g bd e a : Int} {its : List InsW} {z : Int × Int} (h : readF w = ((g, bd), its, z)) (h0 : z.1 = 0) (hd : (decG bd its).2 = (e, a)) (he : e ≠ 0) : decW w = ((0, 0, []), (e, a)) := by
  unfold decW
  rw [h]
  simp only
  rw [if_neg (fun x => x h0), hd, if_pos he]
theorem decW_ok {w : List Int} {g bd : Int} {its : List InsW} {z : Int × Int} {l : List InstL} (h : readF w = ((g, bd), its, z)) (h0 : z.1 = 0) (hd : decG bd its = (l, (0, 0))) : decW w = ((g, bd, l), (0, 0)) := by
  unfold decW
  rw [h]
  simp only
  rw [if_neg (fun x => x h0), hd, ite_ne_zero_self]
theorem readF_good {w : List Int} (h : (readF w).2.2.1 = 0) : readF w = ((w.getD 2 0, w.getD 3 0), (insR w 5).1, (0, 0)) ∧ w.length ≤ 1048576 ∧ (headE w).1 = 0 ∧ ¬ (insR w 5).2 < w.length := by
  by_cases h1 : w.length > 1048576
  · rw [readF_large h1] at h; cases h
  · by_cases h2 : (headE w).1 = 0
    · by_cases h3 : (insR w 5).2 < w.length
      · rw [readF_count h1 h2 h3] at h; cases h
      · exact ⟨readF_ok h1 h2 h3, by omega, h2, h3⟩
    · rw [readF_head h1 h2] at h; exact absurd h h2
theorem raws_getD {done : List RawP} {its : List InsW} (h : done.map RawP.L = its.map (·.2)) {i : Nat} (hi : i < done.length) : (done.getD i zeroR).op = (its.getD i zeroW).2.1 ∧ (done.getD i zeroR).ws = (its.getD i zeroW).2.2 := by
  have hl : done.length = its.length := by simpa using congrArg List.length h
  have h1 := congrArg (fun l : List RawL => l.getD i (0, [])) h
  have h2 : (done.map RawP.L).getD i (0, []) = (done.getD i zeroR).L := by
    have := map_getD2 RawP.L zeroR hi
    exact this
  have h3 : (its.map (·.2)).getD i (0, []) = (its.getD i zeroW).2 := map_getD2 (fun p : InsW => p.2) zeroW (by omega)
  simp only [h2, h3] at h1
  exact ⟨congrArg Prod.fst h1, congrArg Prod.snd h1⟩
end Go.SK
namespace Go.SK
open Go.RowKit Go.ChangeShapes Go.WideShapes Go.ChangeAt
theorem its_sub {w : List Int} (hw : Wd w) {its : List InsW} (hi : its = (insR w 5).1) {i : Nat} (h : i < its.length) : Wd (its.getD i zeroW).2.2 ∧ 0 ≤ (its.getD i zeroW).2.1 ∧ (its.getD i zeroW).2.1 < 65536 ∧ (its.getD i zeroW).2.2.length < 65535 := by
  subst hi; exact ins_sub hw _ _ _ (getD_memD h)
theorem its_take {bd : Int} {its : List InsW} {i : Nat} (h : i < its.length) : (its.take (i + 1)).map (fun p => (instF bd p.2.1 p.2.2).1) = (its.take i).map (fun p => (instF bd p.2.1 p.2.2).1) ++ [(instF bd (its.getD i zeroW).2.1 (its.getD i zeroW).2.2).1] := by
  rw [take_getD2 (d := zeroW) h, List.map_append]; rfl
end Go.SK
namespace Go.SK
theorem splitL_le (b : List UInt8) : (splitL b).length ≤ b.length / 4 := by
  unfold splitL; split
  · rw [splitW_len]; exact Nat.le_refl _
  · exact Nat.zero_le _
end Go.SK
namespace Go.SK
open Go.RowKit Go.ChangeShapes Go.WideShapes Go.ChangeAt
def oneL : List InstL := [⟨128, 1, 2, [⟨1, 3, []⟩, ⟨1, 4, []⟩]⟩]
def oneB : List UInt8 := joinW (writeW 3 9 (rawsF 9 oneL))
theorem one_len : oneB.length = 40 := by decide +kernel
theorem one_encode : encodeF 3 9 oneL = (oneB, (0, 0)) := by decide +kernel
theorem one_shape : shapeF 9 oneL = (0, 0) := by decide +kernel
theorem one_decode : decodeF oneB = ((3, 9, oneL), (0, 0)) := by decide +kernel
structure Small (l : List InstP) : Prop where
  len : l.length ≤ 3000000000000
  op : ∀ i ∈ l, 0 ≤ i.op
  op2 : ∀ i ∈ l, i.op < 65536
  sum : ∀ i ∈ l, (i.args.map argRoom).sum ≤ 900000000
  txt : ∀ i ∈ l, ∀ a ∈ i.args, a.s.length ≤ 100000000000
theorem Small.args {l : List InstP} (h : Small l) : ∀ i ∈ l, i.args.length ≤ 900000000 := fun i hi => Nat.le_trans (len_sum i.args) (h.sum i hi)
theorem Small.of {l m : List InstP} (h : l.map InstP.L = m.map InstP.L) (hm : Small m) : Small l := by
  have key : ∀ i ∈ l, ∃ j ∈ m, j.op = i.op ∧ j.args = i.args := fun i hi => by
    have : i.L ∈ m.map InstP.L := h ▸ List.mem_map_of_mem hi
    obtain ⟨j, hj, he⟩ := List.mem_map.1 this
    exact ⟨j, hj, congrArg InstL.op he, congrArg InstL.args he⟩
  refine ⟨by rw [insts_len h]; exact hm.len, fun i hi => ?_, fun i hi => ?_, fun i hi => ?_, fun i hi => ?_⟩ <;> obtain ⟨j, hj, h1, h2⟩ := key i hi
  · rw [← h1]; exact hm.op j hj
  · rw [← h1]; exact hm.op2 j hj
  · rw [← h2]; exact hm.sum j hj
  · rw [← h2]; exact hm.txt j hj
theorem Small.one {l : List InstP} (h : l.map InstP.L = oneL) : Small l :=
  Small.of (m := [⟨128, 1, 2, none, 0, [⟨1, 3, []⟩, ⟨1, 4, []⟩]⟩]) h ⟨by decide, by decide, by decide, by decide, by decide⟩
end Go.SK
namespace Go.SK
theorem Op1.fieldV {P : Program} {ty : TypeId} {ρ : Operand → Value} {w : World} {C : Value → World → Prop} {S i : Nat} {x : Operand} {fs : Array Field} {fd : Field} {cs : List Value} {v : Value} (hu : P.underlying S = some (.struct fs)) (hf : fs[i]? = some fd) (hx : ρ x = .agg cs.toArray) (hp : PartOk P fd.type cs fd.offset v) (h : C v w) : Op1 P (.field S x i) ty ρ w C := by
  refine Inv.value (v := v) (w' := w) ?_ h
  simp only [execOp, Instr.field, hx, Sem.run_bind, run_underlying hu, Result.andThen, hf]
  have := hp w
  simp [asAgg, Sem.run_bind, this, Result.andThen]
end Go.SK
namespace Go.SK
open Go.RowKit Go.ChangeShapes Go.WideShapes Go.ChangeAt
abbrev SQ := @run_seq
abbrev RG := @run_region
abbrev NL := @RunL.nil
abbrev CN := @RunL.cons
abbrev TK := @RunL.take
abbrev OM := @RunL.omit
abbrev TP := @RV.tmp
section
variable {P : Program} {b : Base} {k : List Item} {f : Nat → Value} {w : World} {E : Frame → World → Prop} {ops : Array Oper} {l : List Oper} {d : Option Tmp} {ty : TypeId} {pos : String} {aft : Array Edge} {x : Operand}
theorem SR {id : Nat} {y : Code} (h : RunL P b l.toArray l (.code y :: k) f w E) : Run P b (.code (.seq (.region id l.toArray false) y) :: k) f w E := run_seq (run_region h)
theorem NSR {l2 : List Oper} {id : Nat} {y : Code} (h : RunL P b l2.toArray l2 (.code y :: k) f w E) : RunL P b ops [] (.code (.seq (.region id l2.toArray false) y) :: k) f w E := RunL.nil (run_seq (run_region h))
theorem NR {l2 : List Oper} {id : Nat} (h : RunL P b l2.toArray l2 k f w E) : RunL P b ops [] (.code (.region id l2.toArray false) :: k) f w E := RunL.nil (run_region h)
abbrev mvO (x : Operand) (d : Option Tmp) (ty : TypeId) (pos : String) (aft : Array Edge) : Oper := { dst := d, op := .move x, type := ty, pos := pos, after := aft, guard := none }
abbrev asO (x : Operand) (d : Option Tmp) (ty : TypeId) (pos : String) (aft : Array Edge) : Oper := { dst := d, op := .assign x, type := ty, pos := pos, after := aft, guard := none }
theorem MI {a : Int} (h : ev b.n f x = .int .i64 a) (hk : RunL P b ops l k (putF f d (.int .i64 a)) w E) : RunL P b ops (mvO x d ty pos aft :: l) k f w E := RunL.cons (Op1.move h hk)
theorem AI {a : Int} (h : ev b.n f x = .int .i64 a) (hk : RunL P b ops l k (putF f d (.int .i64 a)) w E) : RunL P b ops (asO x d ty pos aft :: l) k f w E := RunL.cons (Op1.assign h hk)
theorem MU {a : Int} (h : ev b.n f x = .int .u32 a) (hk : RunL P b ops l k (putF f d (.int .u32 a)) w E) : RunL P b ops (mvO x d ty pos aft :: l) k f w E := RunL.cons (Op1.move h hk)
theorem AU {a : Int} (h : ev b.n f x = .int .u32 a) (hk : RunL P b ops l k (putF f d (.int .u32 a)) w E) : RunL P b ops (asO x d ty pos aft :: l) k f w E := RunL.cons (Op1.assign h hk)
theorem MH {a : Int} (h : ev b.n f x = .int .u16 a) (hk : RunL P b ops l k (putF f d (.int .u16 a)) w E) : RunL P b ops (mvO x d ty pos aft :: l) k f w E := RunL.cons (Op1.move h hk)
theorem MC {a : Int} (h : ev b.n f x = .int .u8 a) (hk : RunL P b ops l k (putF f d (.int .u8 a)) w E) : RunL P b ops (mvO x d ty pos aft :: l) k f w E := RunL.cons (Op1.move h hk)
theorem AC {a : Int} (h : ev b.n f x = .int .u8 a) (hk : RunL P b ops l k (putF f d (.int .u8 a)) w E) : RunL P b ops (asO x d ty pos aft :: l) k f w E := RunL.cons (Op1.assign h hk)
theorem MB {a : Bool} (h : ev b.n f x = .bool a) (hk : RunL P b ops l k (putF f d (.bool a)) w E) : RunL P b ops (mvO x d ty pos aft :: l) k f w E := RunL.cons (Op1.move h hk)
theorem AB {a : Bool} (h : ev b.n f x = .bool a) (hk : RunL P b ops l k (putF f d (.bool a)) w E) : RunL P b ops (asO x d ty pos aft :: l) k f w E := RunL.cons (Op1.assign h hk)
theorem MS {a : List UInt8} (h : ev b.n f x = str a) (hk : RunL P b ops l k (putF f d (str a)) w E) : RunL P b ops (mvO x d ty pos aft :: l) k f w E := RunL.cons (Op1.move h hk)
theorem AS {a : List UInt8} (h : ev b.n f x = str a) (hk : RunL P b ops l k (putF f d (str a)) w E) : RunL P b ops (asO x d ty pos aft :: l) k f w E := RunL.cons (Op1.assign h hk)
theorem ML {a : Option Addr} {n c : Nat} (h : ev b.n f x = .slice a n c) (hk : RunL P b ops l k (putF f d (.slice a n c)) w E) : RunL P b ops (mvO x d ty pos aft :: l) k f w E := RunL.cons (Op1.move h hk)
theorem AL {a : Option Addr} {n c : Nat} (h : ev b.n f x = .slice a n c) (hk : RunL P b ops l k (putF f d (.slice a n c)) w E) : RunL P b ops (asO x d ty pos aft :: l) k f w E := RunL.cons (Op1.assign h hk)
theorem MP {a c : Nat} (h : ev b.n f x = .pointer (some ⟨a, c, none⟩)) (hk : RunL P b ops l k (putF f d (.pointer (some ⟨a, c, none⟩))) w E) : RunL P b ops (mvO x d ty pos aft :: l) k f w E := RunL.cons (Op1.move h hk)
theorem AP {a c : Nat} (h : ev b.n f x = .pointer (some ⟨a, c, none⟩)) (hk : RunL P b ops l k (putF f d (.pointer (some ⟨a, c, none⟩))) w E) : RunL P b ops (asO x d ty pos aft :: l) k f w E := RunL.cons (Op1.assign h hk)
end
section
variable {P : Program} {ty : TypeId} {ρ : Operand → Value} {w0 w : World} {C : Value → World → Prop} {M : Nat → Prop} {L L' D : List Res} {T T' : TypeId} {d : TypeDesc} {sz bytes : Nat} {zs : List Value} {x y : Operand} {b off : Nat} {v : Value} {l vs l' : List Value}
theorem SO (hst : St w0 M L D w) (hT : TyF P T d sz bytes zs) (hx : ρ x = .pointer (some ⟨b, off, none⟩)) (hy : ρ y = v) (hsel : Sel (Res.row b T' l) (Res.row b T' l') L L') (h : ∀ w' : World, St w0 M L' D w' → C undef w') (hv : v.cells = vs.toArray := by exact rfl) (hn : vs.length = sz := by exact rfl) (ho : vs.all okCell = true := by exact rfl) (hp : Put l off vs l' := by repeat (first | exact Put.nil | apply Put.put | apply Put.skip)) : Op1 P (.store T x y) ty ρ w C := Op1.store hst hT hx hy hv hn ho hsel hp h
theorem Fills.c {place : Nat → Option (Nat × Nat)} {l vs l1 l' : List Value} {i : Nat} {x : Operand} {off size : Nat} {v : Value} {rest : List (Nat × Operand)} (hx : ρ x = v) (hp : place i = some (off, size) := by exact rfl) (hv : v.cells = vs.toArray := by exact rfl) (hn : vs.length = size := by exact rfl) (hs : Nat.ble 1 size = true := by exact rfl) (hput : Put l off vs l1 := by repeat (first | exact Put.nil | apply Put.put | apply Put.skip)) (h : Fills ρ place l1 rest l') : Fills ρ place l ((i, x) :: rest) l' := .cons hp hx hv hn hs hput h
theorem Ret.det {g : FuncId} {args : Array Value} (h : Ret P g args w (fun u w' => u = v ∧ St w NoM [] [] w')) (hst : St w0 M L D w) (hk : ∀ w' : World, St w0 M L D w' → C v w') : Ret P g args w C := h.mono fun _ w' ⟨e, hp⟩ => by subst e; exact hk w' (hst.keepc hp)
theorem Ret.detE {g : FuncId} {args : Array Value} {v2 : Value} (h : Ret P g args w (fun u w' => u = v ∧ St w NoM [] [] w')) (e : v = v2) (hst : St w0 M L D w) (hk : ∀ w' : World, St w0 M L D w' → C v2 w') : Ret P g args w C := by subst e; exact Ret.det h hst hk
end
end Go.SK
namespace Go.SK
open Go.RowKit Go.ChangeShapes Go.WideShapes Go.ChangeAt
def FieldIs (P : Program) (f : Field) (off n : Nat) (d : TypeDesc) : Prop := f.offset = off ∧ P.cellsOf f.type = n ∧ P.underlying f.type = some d
structure MdTys (P : Program) (M I A : TypeId) where
  m0 : Field
  m1 : Field
  m2 : Field
  i0 : Field
  i1 : Field
  i2 : Field
  i3 : Field
  a0 : Field
  a1 : Field
  a2 : Field
  hM : P.underlying M = some (.struct #[m0, m1, m2])
  hI : P.underlying I = some (.struct #[i0, i1, i2, i3])
  hA : P.underlying A = some (.struct #[a0, a1, a2])
  fm0 : FieldIs P m0 0 1 (.int .u32)
  fm1 : FieldIs P m1 1 1 (.int .u32)
  fm2 : FieldIs P m2 2 1 (.slice I)
  fi0 : FieldIs P i0 0 1 (.int .u16)
  fi1 : FieldIs P i1 1 1 (.int .u32)
  fi2 : FieldIs P i2 2 1 (.int .u32)
  fi3 : FieldIs P i3 3 1 (.slice A)
  fa0 : FieldIs P a0 0 1 (.int .u8)
  fa1 : FieldIs P a1 1 1 (.int .u32)
  fa2 : FieldIs P a2 2 1 .string
  cM : P.cellsOf M = 3
  cI : P.cellsOf I = 4
  cA : P.cellsOf A = 3
  bI : P.bytesOf I = 40
  bA : P.bytesOf A = 24
section
variable {H : Type} {enc : TypeId × Value → H} {P : Program} {w : World} {base : Nat} {spare : Nat → Bool} {held : Bool} {M I A : TypeId}
def ArgP.good (a : ArgP) : Prop := (0 ≤ a.kind ∧ a.kind ≤ 255) ∧ (0 ≤ a.n ∧ a.n ≤ 4294967295)
def InstP.good (w : World) (i : InstP) : Prop := (0 ≤ i.op ∧ i.op ≤ 65535) ∧ (0 ≤ i.ty ∧ i.ty ≤ 4294967295) ∧ (0 ≤ i.res ∧ i.res ≤ 4294967295) ∧ (∀ a ∈ i.args, a.good) ∧ (Res.rargs i).holds w
end
end Go.SK
namespace Go.SK
open Go.RowKit Go.ChangeShapes Go.WideShapes Go.ChangeAt
section
variable {H : Type} {enc : TypeId × Value → H} {P : Program} {w : World} {base : Nat} {spare : Nat → Bool} {held : Bool} {M I A : TypeId}
structure RawTys (P : Program) (R W U : TypeId) where
  r0 : Field
  r1 : Field
  hR : P.underlying R = some (.struct #[r0, r1])
  hU : P.underlying U = some (.int .u32)
  fr0 : FieldIs P r0 0 1 (.int .u16)
  fr1 : FieldIs P r1 1 1 (.slice U)
  cR : P.cellsOf R = 2
  cU : P.cellsOf U = 1
  bU : P.bytesOf U = 4
end
section
variable {H : Type} {f : DataW H → Nat} {fa : List (DataW H) → Nat}
structure InstP.Tiny (i : InstP) : Prop where
  sum : (i.args.map argRoom).sum ≤ 1048576
  txt : ∀ a ∈ i.args, a.s.length ≤ 1048576
end
theorem InstP.Tiny.args {i : InstP} (h : i.Tiny) : i.args.length ≤ 1048576 := Nat.le_trans (len_sum _) h.sum
end Go.SK
namespace Go.SK
open Go Go.Proofs
theorem ty22 : TyF Try.prog 22 (.slice 5) 1 24 [.slice none 0 0] := TyF.of (by kernel_rfl) (by kernel_rfl)
theorem ty5 : TyF Try.prog 5 (.int .u8) 1 1 [.int .u8 0] := TyF.of (by kernel_rfl) (by kernel_rfl)
theorem followsMixed : Try.prog.follows .mixedOrders = true := by kernel_rfl
theorem ty43 : TyF Try.prog 43 (.slice 23) 1 24 [.slice none 0 0] := TyF.of (by kernel_rfl) (by kernel_rfl)
theorem ty23 : TyF Try.prog 23 (.int .u32) 1 4 [.int .u32 0] := TyF.of (by kernel_rfl) (by kernel_rfl)
end Go.SK
namespace Go.SK
open Go Go.Proofs
open Go.RowKit
theorem R3wd_Split (b : List UInt8) (ao : Option Addr) (cp : Nat) (w : World) (hA : (Res.rs ao b.length 1 (b.flatMap byC)).holds w) (hl : b.length ≤ 240000000000000) : Ret Try.prog 39 #[.slice ao b.length cp] w (fun v w' => ∃ ro rc, v = .tuple #[.slice ro (splitL b).length rc, .int .i64 (splitE b)] ∧ St w NoM [Res.sl ro (splitL b).length rc 23 1 ((splitL b).flatMap u32C)] [] w') := by
 refine Ret.enter (args := [.slice ao b.length cp]) Try.func39 rfl rfl rfl ?_
 have hst : St w NoM [] [Res.rs ao b.length 1 (b.flatMap byC)] w := St.init_D hA
 clear hA
 refine SR <| AL rfl <| AI rfl <| NL <| SQ <| run_block <| SR <| ML rfl <| CN <| Op1.lenSl (rest := []) ty22 rfl <| CN <| Op1.gtr rfl rfl <| AB rfl <| NL <| run_cond_dec rfl (fun g1 => ?_) (fun g1 => ?_)
 · skip
   refine SR <| AL rfl <| AI rfl <| NL <| run_ret2 Try.func39 rfl (TP (v := .slice _ _ _) rfl) (TP (v := .int .i64 _) rfl) ?_
   replace hst := hst.pick .nil
   have he := splitE_large (b := b) (by omega)
   rw [splitL_err (by rw [he]; decide), he]
   exact ⟨none, 0, rfl, (hst.pushNil 23 1).noD⟩
 refine SR <| ML rfl <| CN (Op1.lenSl (rest := []) ty22 rfl ?_)
 first | refine CN (Op1.remN rfl rfl (by omega) (by omega) rfl ?_) | refine CN (Op1.rem rfl rfl (by omega) ?_)
 refine CN <| Op1.neq rfl rfl <| AB rfl <| NL <| run_cond_dec rfl (fun g2 => ?_) (fun g2 => ?_)
 · skip
   refine SR <| AL rfl <| AI rfl <| NL <| run_ret2 Try.func39 rfl (TP (v := .slice _ _ _) rfl) (TP (v := .int .i64 _) rfl) ?_
   replace hst := hst.pick .nil
   have he := splitE_odd (b := b) (by omega) (by omega)
   rw [splitL_err (by rw [he]; decide), he]
   exact ⟨none, 0, rfl, (hst.pushNil 23 1).noD⟩
 refine run_skip <| run_inBlock <| SR <| ML rfl <| CN (Op1.lenSl (rest := []) ty22 rfl ?_)
 first | refine CN (Op1.quoN rfl rfl (by omega) (by omega) rfl (wrap_i64 (by omega) (by omega)) ?_) | refine CN (Op1.quo rfl rfl (by omega) ?_)
 refine CN <| Op1.makeSlR (k := b.length / 4) hst ty43 ty23 rfl rfl (by omega) rfl (by decide) (by omega) (by omega) fun w bC hst => AL rfl <| NL <| SQ <| SR <| AI rfl <| NL <| run_block <| run_loop <| Run.indW [(0, .slice _ _ _)] ⟨rfl, trivial⟩ (fun (q : Nat × Option Addr × Nat) => [(4, .slice q.2.1 q.1 q.2.2), (5, .int .i64 ((4 * q.1 : Nat) : Int))]) (fun (q : Nat × Option Addr × Nat) => [Res.sl q.2.1 q.1 q.2.2 23 1 (((splitW b).take q.1).flatMap u32C)]) (fun (q : Nat × Option Addr × Nat) => q.1 ≤ b.length / 4) (fun (q : Nat × Option Addr × Nat) => b.length / 4 - q.1) ((0, some ⟨bC, 0, none⟩, b.length / 4)) (by (try dsimp only); rw [List.take_zero]; exact hst) (Nat.zero_le _) ⟨rfl, rfl, trivial⟩ ?_
 intro ⟨j, aq, cq⟩ f w hst hJ ih3
 replace hst : St _ _ ([Res.sl aq j cq 23 1 (((splitW b).take j).flatMap u32C)] ++ []) _ _ := hst
 replace hJ : j ≤ b.length / 4 := hJ
 refine Run.slots (sl := [(4, .slice aq j cq), (5, .int .i64 ((4 * j : Nat) : Int))]) ⟨rfl, rfl, trivial⟩ ?_
 have hB0 := bget b (4 * j)
 have hB1 := bget b (4 * j + 1)
 have hB2 := bget b (4 * j + 2)
 have hB3 := bget b (4 * j + 3)
 refine SQ <| SR <| MI rfl <| ML rfl <| CN <| Op1.lenSl (rest := []) ty22 rfl <| CN <| Op1.lss rfl rfl <| NL <| run_cond_dec rfl (fun g4 => ?_) (fun g4 => ?_)
 · skip
   refine run_skip <| SQ <| run_block <| SR <| AU rfl <| NL <| SQ <| SR <| AI rfl <| NL <| run_block <| run_loop <| SQ ?_
   refine SR <| MI rfl <| CN <| Op1.geq rfl rfl <| NL <| run_cond_true (congrArg Value.bool (decide_eq_true (by decide))) <| run_skip <| SQ <| run_block <| SR <| MU rfl <| CN <| Op1.shlC (a := 0) (n := 8) (c := (0) * 256) rfl rfl (by decide) (by rw [show (2 : Int) ^ 8 = 256 from rfl]; exact wrap_u32 (by omega) (by omega)) <| AU rfl <| NL ?_
   refine RG <| MU rfl <| ML rfl <| MI rfl <| MI rfl <| CN <| Op1.addN rfl rfl rfl (wrap_i64 (by omega) (by omega)) <| CN <| Op1.indexRs ty22 ty5 (hst.hD _ (.head _)) rfl rfl (by omega) (by omega) <| CN (Op1.load1 (v := .int .u8 _) ty5 rfl rfl (Res.rs2_cell (hst.hD _ (.head _)) (flat_cell0 (g := byC) (d := 0) byC_len rfl (by omega))) ?_)
   first | refine CN (Op1.convN ty5 ty23 rfl (wrap_u32 (by omega) (by omega)) ?_) | refine CN (Op1.convN ty5 ty23 rfl (wrapB_u32 _) ?_) | refine CN (Op1.conv ty5 ty23 rfl ?_)
   refine CN <| Op1.orLow (q := 0) (i := 8) (b := ((b.getD (4 * j + 3) 0).toNat : Int)) (c := ((b.getD (4 * j + 3) 0).toNat : Int)) rfl rfl rfl (by omega) (by omega) (by rw [show (2 : Int) ^ 8 = 256 from rfl]; omega) (by omega) (by omega) <| AU rfl <| NL <| run_inBlock <| Run.forget [(0, .slice _ _ _), (4, .slice _ _ _), (5, .int .i64 _), (6, .int .u32 _), (7, .int .i64 _)] ⟨rfl, rfl, rfl, rfl, rfl, trivial⟩ fun f => RG <| MI rfl <| CN <| Op1.subN rfl rfl rfl (wrap_i64 (by omega) (by omega)) <| AI rfl <| NL <| run_inLoop <| SQ <| SR <| MI rfl ?_
   refine CN <| Op1.geq rfl rfl <| NL <| run_cond_true (congrArg Value.bool (decide_eq_true (by decide))) <| run_skip <| SQ <| run_block <| SR <| MU rfl <| CN <| Op1.shlC (a := ((b.getD (4 * j + 3) 0).toNat : Int)) (n := 8) (c := (((b.getD (4 * j + 3) 0).toNat : Int)) * 256) rfl rfl (by decide) (by rw [show (2 : Int) ^ 8 = 256 from rfl]; exact wrap_u32 (by omega) (by omega)) <| AU rfl <| NR <| MU rfl <| ML rfl ?_
   refine MI rfl <| MI rfl <| CN <| Op1.addN rfl rfl rfl (wrap_i64 (by omega) (by omega)) <| CN <| Op1.indexRs ty22 ty5 (hst.hD _ (.head _)) rfl rfl (by omega) (by omega) <| CN (Op1.load1 (v := .int .u8 _) ty5 rfl rfl (Res.rs2_cell (hst.hD _ (.head _)) (flat_cell0 (g := byC) (d := 0) byC_len rfl (by omega))) ?_)
   first | refine CN (Op1.convN ty5 ty23 rfl (wrap_u32 (by omega) (by omega)) ?_) | refine CN (Op1.convN ty5 ty23 rfl (wrapB_u32 _) ?_) | refine CN (Op1.conv ty5 ty23 rfl ?_)
   refine CN <| Op1.orLow (q := ((b.getD (4 * j + 3) 0).toNat : Int)) (i := 8) (b := ((b.getD (4 * j + 2) 0).toNat : Int)) (c := ((b.getD (4 * j + 3) 0).toNat : Int) * 256 + ((b.getD (4 * j + 2) 0).toNat : Int)) rfl rfl rfl (by omega) (by omega) (by rw [show (2 : Int) ^ 8 = 256 from rfl]; omega) (by omega) (by omega) <| AU rfl <| NL <| run_inBlock <| RG <| MI rfl <| CN <| Op1.subN rfl rfl rfl (wrap_i64 (by omega) (by omega)) <| AI rfl <| NL <| run_inLoop <| Run.forget [(0, .slice _ _ _), (4, .slice _ _ _), (5, .int .i64 _), (6, .int .u32 _), (7, .int .i64 _)] ⟨rfl, rfl, rfl, rfl, rfl, trivial⟩ fun f => SQ <| SR <| MI rfl ?_
   refine CN <| Op1.geq rfl rfl <| NL <| run_cond_true (congrArg Value.bool (decide_eq_true (by decide))) <| run_skip <| SQ <| run_block <| SR <| MU rfl <| CN <| Op1.shlC (a := ((b.getD (4 * j + 3) 0).toNat : Int) * 256 + ((b.getD (4 * j + 2) 0).toNat : Int)) (n := 8) (c := (((b.getD (4 * j + 3) 0).toNat : Int) * 256 + ((b.getD (4 * j + 2) 0).toNat : Int)) * 256) rfl rfl (by decide) (by rw [show (2 : Int) ^ 8 = 256 from rfl]; exact wrap_u32 (by omega) (by omega)) <| AU rfl <| NR <| MU rfl <| ML rfl ?_
   refine MI rfl <| MI rfl <| CN <| Op1.addN rfl rfl rfl (wrap_i64 (by omega) (by omega)) <| CN <| Op1.indexRs ty22 ty5 (hst.hD _ (.head _)) rfl rfl (by omega) (by omega) <| CN (Op1.load1 (v := .int .u8 _) ty5 rfl rfl (Res.rs2_cell (hst.hD _ (.head _)) (flat_cell0 (g := byC) (d := 0) byC_len rfl (by omega))) ?_)
   first | refine CN (Op1.convN ty5 ty23 rfl (wrap_u32 (by omega) (by omega)) ?_) | refine CN (Op1.convN ty5 ty23 rfl (wrapB_u32 _) ?_) | refine CN (Op1.conv ty5 ty23 rfl ?_)
   refine CN <| Op1.orLow (q := ((b.getD (4 * j + 3) 0).toNat : Int) * 256 + ((b.getD (4 * j + 2) 0).toNat : Int)) (i := 8) (b := ((b.getD (4 * j + 1) 0).toNat : Int)) (c := (((b.getD (4 * j + 3) 0).toNat : Int) * 256 + ((b.getD (4 * j + 2) 0).toNat : Int)) * 256 + ((b.getD (4 * j + 1) 0).toNat : Int)) rfl rfl rfl (by omega) (by omega) (by rw [show (2 : Int) ^ 8 = 256 from rfl]; omega) (by omega) (by omega) <| AU rfl <| NL <| run_inBlock <| RG <| MI rfl <| CN <| Op1.subN rfl rfl rfl (wrap_i64 (by omega) (by omega)) <| AI rfl <| NL <| run_inLoop <| SQ <| SR <| MI rfl <| CN (Op1.geq rfl rfl ?_)
   refine NL <| Run.forget [(0, .slice _ _ _), (4, .slice _ _ _), (5, .int .i64 _), (6, .int .u32 _), (7, .int .i64 _), (28, .bool _)] ⟨rfl, rfl, rfl, rfl, rfl, rfl, trivial⟩ fun f => run_cond_true (congrArg Value.bool (decide_eq_true (by decide))) <| run_skip <| SQ <| run_block <| SR <| MU rfl <| CN <| Op1.shlC (a := (((b.getD (4 * j + 3) 0).toNat : Int) * 256 + ((b.getD (4 * j + 2) 0).toNat : Int)) * 256 + ((b.getD (4 * j + 1) 0).toNat : Int)) (n := 8) (c := ((((b.getD (4 * j + 3) 0).toNat : Int) * 256 + ((b.getD (4 * j + 2) 0).toNat : Int)) * 256 + ((b.getD (4 * j + 1) 0).toNat : Int)) * 256) rfl rfl (by decide) (by rw [show (2 : Int) ^ 8 = 256 from rfl]; exact wrap_u32 (by omega) (by omega)) <| AU rfl <| NR <| MU rfl <| ML rfl ?_
   refine MI rfl <| MI rfl <| CN <| Op1.addN rfl rfl rfl (wrap_i64 (by omega) (by omega)) <| CN <| Op1.indexRs ty22 ty5 (hst.hD _ (.head _)) rfl rfl (by omega) (by omega) <| CN (Op1.load1 (v := .int .u8 _) ty5 rfl rfl (Res.rs2_cell (hst.hD _ (.head _)) (flat_cell0 (g := byC) (d := 0) byC_len rfl (by omega))) ?_)
   first | refine CN (Op1.convN ty5 ty23 rfl (wrap_u32 (by omega) (by omega)) ?_) | refine CN (Op1.convN ty5 ty23 rfl (wrapB_u32 _) ?_) | refine CN (Op1.conv ty5 ty23 rfl ?_)
   refine CN <| Op1.orLow (q := (((b.getD (4 * j + 3) 0).toNat : Int) * 256 + ((b.getD (4 * j + 2) 0).toNat : Int)) * 256 + ((b.getD (4 * j + 1) 0).toNat : Int)) (i := 8) (b := ((b.getD (4 * j) 0).toNat : Int)) (c := wordAt b j) rfl rfl rfl (by omega) (by omega) (by rw [show (2 : Int) ^ 8 = 256 from rfl]; omega) (by unfold wordAt; omega) (by exact (wordAt_lt b j).2) <| AU rfl <| NL <| run_inBlock <| RG <| MI rfl <| CN <| Op1.subN rfl rfl rfl (wrap_i64 (by omega) (by omega)) <| AI rfl <| NL <| run_inLoop <| SQ <| SR <| MI rfl <| CN (Op1.geq rfl rfl ?_)
   refine NL <| run_cond_false (congrArg Value.bool (decide_eq_false (by decide))) <| run_exit (id := 3) rfl <| RG <| ML rfl <| MU rfl <| CN (Op1.buildSl (z0 := [.int .u32 0]) hst ty43 ty23 rfl rfl (by kernel_rfl) (.c (v := .int .u32 _) rfl (h := .nil)) fun w b44 hst => ?_)
   refine CN (Op1.append (news := [.int .u32 _]) hst ty43 ty23 rfl rfl (.there (.here)) rfl rfl rfl (cells_of_obj (n := 1) (hst.objL (.head _)) _ rfl) rfl rfl (by omega) fun w ao5 cp6 hst => ?_)
   replace hst := hst.drop (.there (.here))
   refine AL rfl <| NL <| run_inBlock <| Run.forget [(0, .slice _ _ _), (4, .slice _ _ _), (5, .int .i64 _)] ⟨rfl, rfl, rfl, trivial⟩ fun f => RG <| MI rfl <| CN <| Op1.addN rfl rfl rfl (wrap_i64 (by omega) (by omega)) <| AI rfl <| NL <| run_inLoop ?_
   exact ih3 ((j + 1, ao5, cp6)) _ w (by (try dsimp only); omega) (by (try dsimp only); rw [splitW_take (by omega), List.flatMap_append]; exact hst) (by (try dsimp only); omega) ⟨rfl, trivial⟩ ⟨rfl, (congrArg (Value.int .i64) (by (try dsimp only); omega)), trivial⟩
 obtain rfl : j = b.length / 4 := by omega
 refine run_exit (id := 1) rfl <| SR <| ML rfl <| AL rfl <| AI rfl <| NL <| run_ret2 Try.func39 rfl (TP (v := .slice _ _ _) rfl) (TP (v := .int .i64 _) rfl) ?_
 replace hst := hst.pick (.cons (.here) .nil)
 have he := splitE_ok (b := b) (by omega) (by omega)
 rw [splitL_ok he, he, splitW_len]
 rw [List.take_of_length_le (by rw [splitW_len]; exact Nat.le_refl _)] at hst
 exact ⟨_, _, rfl, hst.noD⟩
end Go.SK
namespace Go.SK
open Go Go.Proofs
theorem ty9 : TyF Try.prog 9 .string 1 16 [str []] := TyF.of (by kernel_rfl) (by kernel_rfl)
end Go.SK
namespace Go.SK
open Go Go.Proofs
open Go.RowKit
theorem R3wd_Room (s : List UInt8) (w : World) (hl : s.length ≤ 9000000000000000000) : Ret Try.prog 111 #[str s] w (fun v w' => v = .int .i64 ((s.length / 4 + 1 : Nat) : Int) ∧ St w NoM [] [] w') := by
 refine Ret.enter (args := [str s]) Try.func111 rfl rfl rfl ?_
 have hst := St.init w
 refine SR <| AI rfl <| NSR <| MS rfl <| CN (Op1.lenS (rest := []) ty9 rfl ?_)
 first | refine CN (Op1.quoN rfl rfl (by omega) (by omega) rfl (wrap_i64 (by omega) (by omega)) ?_) | refine CN (Op1.quo rfl rfl (by omega) ?_)
 refine CN <| Op1.addN rfl rfl rfl (wrap_i64 (by omega) (by omega)) <| AI rfl <| NL <| run_ret1 Try.func111 rfl (TP (v := .int .i64 _) rfl) ?_
 exact ⟨congrArg (Value.int .i64) (by omega), hst.pure⟩
theorem R3wd_Join (l : List Int) (ao : Option Addr) (cp : Nat) (w : World) (hA : (Res.rs ao l.length 1 (l.flatMap u32C)).holds w) (hl : l.length ≤ 30000000000000) : Ret Try.prog 47 #[.slice ao l.length cp] w (fun v w' => ∃ ro rc, v = .slice ro (joinW l).length rc ∧ St w NoM [Res.sl ro (joinW l).length rc 5 1 ((joinW l).flatMap byC)] [] w') := by
 refine Ret.enter (args := [.slice ao l.length cp]) Try.func47 rfl rfl rfl ?_
 have hst : St w NoM [] [Res.rs ao l.length 1 (l.flatMap u32C)] w := St.init_D hA
 clear hA
 refine SR <| AL rfl <| NSR <| ML rfl <| CN (Op1.lenSl (rest := []) ty43 rfl ?_)
 first | refine CN (Op1.mulN rfl rfl rfl (wrap_i64 (by omega) (by omega)) ?_) | refine CN (Op1.mulB rfl rfl (by omega) (by omega) (by omega) (by omega) (fun hm1 hm2 => ?_))
 refine CN <| Op1.makeSlR (k := 4 * l.length) hst ty22 ty5 rfl rfl (by omega) rfl (by decide) (by omega) (by omega) fun w bC hst => AL rfl <| NL <| SQ <| SR <| ML rfl <| CN <| Op1.lenSl (rest := []) ty43 rfl <| MI rfl <| NL <| run_block <| run_loop <| Run.indW [(10, .slice _ _ _), (11, .int .i64 _)] ⟨rfl, rfl, trivial⟩ (fun (q : Nat × Option Addr × Nat) => [(3, .slice q.2.1 (4 * q.1) q.2.2), (12, .int .i64 (q.1 : Int))]) (fun (q : Nat × Option Addr × Nat) => [Res.sl q.2.1 (4 * q.1) q.2.2 5 1 (((joinW l).take (4 * q.1)).flatMap byC)]) (fun (q : Nat × Option Addr × Nat) => q.1 ≤ l.length) (fun (q : Nat × Option Addr × Nat) => l.length - q.1) ((0, some ⟨bC, 0, none⟩, 4 * l.length)) (by (try dsimp only); rw [Nat.mul_zero, List.take_zero]; exact hst) (Nat.zero_le _) ⟨rfl, rfl, trivial⟩ ?_
 intro ⟨j, aq, cq⟩ f w hst hJ ih3
 replace hst : St _ _ ([Res.sl aq (4 * j) cq 5 1 (((joinW l).take (4 * j)).flatMap byC)] ++ []) _ _ := hst
 replace hJ : j ≤ l.length := hJ
 refine Run.slots (sl := [(3, .slice aq (4 * j) cq), (12, .int .i64 (j : Int))]) ⟨rfl, rfl, trivial⟩ <| SR <| CN <| Op1.lss rfl rfl <| NL <| SQ <| run_cond_dec rfl (fun g4 => ?_) (fun g4 => ?_)
 · skip
   refine run_skip <| SQ <| run_block <| SR <| CN <| Op1.indexRs ty43 ty23 (hst.hD _ (.head _)) rfl rfl (by omega) (by omega) <| CN <| Op1.load1 (v := .int .u32 _) ty23 rfl rfl (Res.rs2_cell (hst.hD _ (.head _)) (flat_cell0 (g := u32C) (d := 0) u32C_len rfl (by omega))) <| AU rfl <| NSR <| MI rfl <| NL <| run_block <| run_loop ?_
   refine SR <| CN <| Op1.lss rfl rfl <| NL <| SQ <| run_cond_true (congrArg Value.bool (decide_eq_true (by decide))) <| run_skip <| SQ <| run_block <| SR <| ML rfl <| MU rfl <| CN <| Op1.convW ty23 ty5 rfl (wrap_byte0 (l.getD j 0)) <| CN (Op1.buildSl (z0 := [.int .u8 0]) hst ty22 ty5 rfl rfl (by kernel_rfl) (.c (v := .int .u8 _) rfl (h := .nil)) fun w b21 hst => ?_)
   refine CN (Op1.append (news := [.int .u8 _]) hst ty22 ty5 rfl rfl (.there (.here)) rfl rfl rfl (cells_of_obj (n := 1) (hst.objL (.head _)) _ rfl) rfl rfl (by omega) fun w ao5 cp6 hst => ?_)
   replace hst := hst.drop (.there (.here))
   refine AL rfl <| NR <| MU rfl <| CN <| Op1.shrI (c := l.getD j 0 / 256 ^ 1) rfl rfl (by decide) (by decide) (show l.getD j 0 / 256 = _ from div_step0 _) <| AU rfl <| NL <| run_inBlock <| RG <| CN <| Op1.addN rfl rfl rfl (wrap_i64 (by omega) (by omega)) <| MI rfl <| NL <| run_inLoop <| SQ <| RG ?_
   refine CN <| Op1.lss rfl rfl <| NL <| SQ <| run_cond_true (congrArg Value.bool (decide_eq_true (by decide))) <| run_skip <| SQ <| run_block <| SR <| ML rfl <| MU rfl <| CN <| Op1.convW ty23 ty5 rfl (wrap_byte (l.getD j 0) 1) <| CN (Op1.buildSl (z0 := [.int .u8 0]) hst ty22 ty5 rfl rfl (by kernel_rfl) (.c (v := .int .u8 _) rfl (h := .nil)) fun w b21 hst => ?_)
   refine CN (Op1.append (news := [.int .u8 _]) hst ty22 ty5 rfl rfl (.there (.here)) rfl rfl rfl (cells_of_obj (n := 1) (hst.objL (.head _)) _ rfl) rfl rfl (by omega) fun w ao7 cp8 hst => ?_)
   replace hst := hst.drop (.there (.here))
   refine AL rfl <| NL <| Run.forget [(3, .slice _ _ _), (5, .int .u32 _), (10, .slice _ _ _), (11, .int .i64 _), (12, .int .i64 _), (16, .int .i64 _)] ⟨rfl, rfl, rfl, rfl, rfl, rfl, trivial⟩ fun f => RG <| MU rfl <| CN <| Op1.shrI (c := l.getD j 0 / 256 ^ 2) rfl rfl (by decide) (by decide) (show l.getD j 0 / 256 ^ 1 / 256 = _ from div_step _ _) <| AU rfl <| NL <| run_inBlock <| RG <| CN <| Op1.addN rfl rfl rfl (wrap_i64 (by omega) (by omega)) <| MI rfl <| NL <| run_inLoop <| SQ ?_
   refine RG <| CN <| Op1.lss rfl rfl <| NL <| SQ <| run_cond_true (congrArg Value.bool (decide_eq_true (by decide))) <| run_skip <| SQ <| run_block <| SR <| ML rfl <| MU rfl <| CN <| Op1.convW ty23 ty5 rfl (wrap_byte (l.getD j 0) 2) <| CN (Op1.buildSl (z0 := [.int .u8 0]) hst ty22 ty5 rfl rfl (by kernel_rfl) (.c (v := .int .u8 _) rfl (h := .nil)) fun w b21 hst => ?_)
   refine CN (Op1.append (news := [.int .u8 _]) hst ty22 ty5 rfl rfl (.there (.here)) rfl rfl rfl (cells_of_obj (n := 1) (hst.objL (.head _)) _ rfl) rfl rfl (by omega) fun w ao9 cp10 hst => ?_)
   replace hst := hst.drop (.there (.here))
   refine AL rfl <| NR <| MU rfl <| CN <| Op1.shrI (c := l.getD j 0 / 256 ^ 3) rfl rfl (by decide) (by decide) (show l.getD j 0 / 256 ^ 2 / 256 = _ from div_step _ _) <| AU rfl <| NL <| run_inBlock <| RG <| CN <| Op1.addN rfl rfl rfl (wrap_i64 (by omega) (by omega)) <| MI rfl <| NL <| run_inLoop <| SQ <| RG ?_
   refine CN <| Op1.lss rfl rfl <| NL <| SQ <| run_cond_true (congrArg Value.bool (decide_eq_true (by decide))) <| run_skip <| SQ <| run_block <| SR <| ML rfl <| MU rfl <| CN <| Op1.convW ty23 ty5 rfl (wrap_byte (l.getD j 0) 3) <| CN (Op1.buildSl (z0 := [.int .u8 0]) hst ty22 ty5 rfl rfl (by kernel_rfl) (.c (v := .int .u8 _) rfl (h := .nil)) fun w b21 hst => ?_)
   refine CN (Op1.append (news := [.int .u8 _]) hst ty22 ty5 rfl rfl (.there (.here)) rfl rfl rfl (cells_of_obj (n := 1) (hst.objL (.head _)) _ rfl) rfl rfl (by omega) fun w ao11 cp12 hst => ?_)
   replace hst := hst.drop (.there (.here))
   refine AL rfl <| NL <| Run.forget [(3, .slice _ _ _), (5, .int .u32 _), (10, .slice _ _ _), (11, .int .i64 _), (12, .int .i64 _), (16, .int .i64 _)] ⟨rfl, rfl, rfl, rfl, rfl, rfl, trivial⟩ fun f => RG <| MU rfl <| CN <| Op1.shrI (c := l.getD j 0 / 256 ^ 4) rfl rfl (by decide) (by decide) (show l.getD j 0 / 256 ^ 3 / 256 = _ from div_step _ _) <| AU rfl <| NL <| run_inBlock <| RG <| CN <| Op1.addN rfl rfl rfl (wrap_i64 (by omega) (by omega)) <| MI rfl <| NL <| run_inLoop <| SQ ?_
   refine RG <| CN <| Op1.lss rfl rfl <| NL <| SQ <| run_cond_false (congrArg Value.bool (decide_eq_false (by decide))) <| run_exit (id := 2) rfl <| run_inBlock <| RG <| CN <| Op1.addN rfl rfl rfl (wrap_i64 (by omega) (by omega)) <| MI rfl <| NL <| run_inLoop ?_
   exact ih3 ((j + 1, ao11, cp12)) _ w (by (try dsimp only); omega) (by (try dsimp only); rw [joinW_flat4 (by omega)]; exact hst) (by (try dsimp only); omega) ⟨rfl, rfl, trivial⟩ ⟨rfl, (congrArg (Value.int .i64) (by (try dsimp only); omega)), trivial⟩
 obtain rfl : j = l.length := by omega
 refine run_exit (id := 0) rfl <| SR <| ML rfl <| AL rfl <| NL <| run_ret1 Try.func47 rfl (TP (v := .slice _ _ _) rfl) ?_
 replace hst := hst.pick (.cons (.here) .nil)
 rw [List.take_of_length_le (by rw [joinW_len]; exact Nat.le_refl _)] at hst
 rw [joinW_len]
 exact ⟨_, _, rfl, hst.noD⟩
end Go.SK
namespace Go.SK
open Go Go.Proofs
open Go.RowKit
theorem R3wd_Text (l : List Int) (ao : Option Addr) (cp : Nat) (w : World) (hA : (Res.rs ao l.length 1 (l.flatMap u32C)).holds w) (hl : l.length ≤ 35184372088832) : Ret Try.prog 113 #[.slice ao l.length cp] w (fun v w' => v = textV (textF l) ∧ St w NoM [] [] w') := by
 refine Ret.enter (args := [.slice ao l.length cp]) Try.func113 rfl rfl rfl ?_
 have hst : St w NoM [] [Res.rs ao l.length 1 (l.flatMap u32C)] w := St.init_D hA
 clear hA
 refine SR <| AS rfl <| AI rfl <| AI rfl <| NL <| run_scope <| SR <| AL rfl <| NSR <| AI rfl <| NL ?_
 refine SQ <| run_label <| SQ <| SR <| ML rfl <| CN <| Op1.lenSl (rest := []) ty43 rfl <| MI rfl <| NL <| run_block <| run_loop ?_
 replace hst := hst.pushNil 5 1
 refine Run.indW [(9, .slice _ _ _), (10, .int .i64 _)] ⟨rfl, rfl, trivial⟩ (fun (q : Nat × Option Addr × Nat) => [(5, .slice q.2.1 (4 * q.1) q.2.2), (6, .int .i64 (-1)), (11, .int .i64 (q.1 : Int))]) (fun (q : Nat × Option Addr × Nat) => [Res.sl q.2.1 (4 * q.1) q.2.2 5 1 (((joinW l).take (4 * q.1)).flatMap byC)]) (fun (q : Nat × Option Addr × Nat) => q.1 ≤ l.length ∧ ∀ r, r < 4 * q.1 → (joinW l).getD r 0 ≠ 0) (fun (q : Nat × Option Addr × Nat) => l.length - q.1) ((0, none, 0)) (by (try dsimp only); rw [Nat.mul_zero, List.take_zero]; exact hst) ⟨Nat.zero_le _, fun r hr => absurd hr (by (try dsimp only); omega)⟩ ⟨rfl, rfl, rfl, trivial⟩ ?_
 intro ⟨j, aq, cq⟩ f w hst hJ ih1
 replace hst : St _ _ ([Res.sl aq (4 * j) cq 5 1 (((joinW l).take (4 * j)).flatMap byC)] ++ []) _ _ := hst
 replace hJ : j ≤ l.length ∧ ∀ r, r < 4 * j → (joinW l).getD r 0 ≠ 0 := hJ
 refine Run.slots (sl := [(5, .slice aq (4 * j) cq), (6, .int .i64 (-1)), (11, .int .i64 (j : Int))]) ⟨rfl, rfl, rfl, trivial⟩ <| SR <| CN <| Op1.lss rfl rfl <| NL <| SQ <| run_cond_dec rfl (fun g2 => ?_) (fun g2 => ?_)
 · skip
   refine run_skip <| SQ <| run_block <| SR <| MI rfl <| CN <| Op1.indexRs ty43 ty23 (hst.hD _ (.head _)) rfl rfl (by omega) (by omega) <| CN <| Op1.load1 (v := .int .u32 _) ty23 rfl rfl (Res.rs2_cell (hst.hD _ (.head _)) (flat_cell0 (g := u32C) (d := 0) u32C_len rfl (by omega))) <| AI rfl <| AU rfl <| NSR <| MI rfl <| NL ?_
   refine run_block <| run_loop <| SR <| CN <| Op1.lss rfl rfl <| NL <| SQ <| run_cond_true (congrArg Value.bool (decide_eq_true (by decide))) <| run_skip <| SQ <| run_block <| SQ <| SR <| MU rfl ?_
   refine CN <| Op1.convW ty23 ty5 rfl (wrap_byte0 (l.getD j 0)) <| CN <| Op1.eql rfl rfl <| NL <| run_cond_dec rfl (fun g3 => ?_) (fun g3 => ?_)
   · skip
     refine SQ <| SR <| MU rfl <| CN <| Op1.neq rfl rfl <| NL <| run_cond_dec rfl (fun g4 => ?_) (fun g4 => ?_)
     · skip
       refine SR <| AS rfl <| AI rfl <| AI rfl <| NL <| run_ret3 Try.func113 rfl (TP (v := str _) rfl) (TP (v := .int .i64 _) rfl) (TP (v := .int .i64 _) rfl) ?_
       rw [textF_pad (j := j) (t := 0) (by omega) (by decide) g3 hJ.2 (by simpa using g4)]
       exact ⟨rfl, hst.pure⟩
     refine run_skip <| SR <| MI rfl <| CN <| Op1.addN rfl rfl rfl (wrap_i64 (by omega) (by omega)) <| AI rfl <| NL <| run_exit (id := 0) rfl <| SQ <| SR <| MI rfl <| CN <| Op1.lss rfl rfl <| NL <| run_cond_dec rfl (fun g5 => ?_) (fun g5 => ?_)
     · skip
       exfalso
       omega
     refine run_skip <| SR <| ML rfl <| CN <| Op1.bytesStr2 (l := (joinW l).take (4 * j + 0)) ty22 ty5 ty9 rfl (by rw [List.length_take, joinW_len]; omega) (Res.rs_of_sl (hst.hL _ (.head _))) rfl <| MI rfl <| AS rfl <| AI rfl <| AI rfl <| NL <| run_ret3 Try.func113 rfl (TP (v := str _) rfl) (TP (v := .int .i64 _) rfl) (TP (v := .int .i64 _) rfl) ?_
     rw [textF_ok (j := j) (t := 0) (by omega) (by decide) g3 hJ.2 (by simpa using g4)]
     exact ⟨rfl, hst.pure⟩
   refine run_skip <| SR <| ML rfl <| MU rfl <| CN <| Op1.convW ty23 ty5 rfl (wrap_byte0 (l.getD j 0)) <| CN (Op1.buildSl (z0 := [.int .u8 0]) hst ty22 ty5 rfl rfl (by kernel_rfl) (.c (v := .int .u8 _) rfl (h := .nil)) fun w b28 hst => ?_)
   refine CN (Op1.append (news := [.int .u8 _]) hst ty22 ty5 rfl rfl (.there (.here)) rfl rfl rfl (cells_of_obj (n := 1) (hst.objL (.head _)) _ rfl) rfl rfl (by omega) fun w ao6 cp7 hst => ?_)
   replace hst := hst.drop (.there (.here))
   refine AL rfl <| NR <| MU rfl <| CN <| Op1.shrI (c := l.getD j 0 / 256 ^ 1) rfl rfl (by decide) (by decide) (show l.getD j 0 / 256 = _ from div_step0 _) <| AU rfl <| NL <| run_inBlock <| Run.forget [(5, .slice _ _ _), (6, .int .i64 _), (7, .int .i64 _), (8, .int .u32 _), (9, .slice _ _ _), (10, .int .i64 _), (11, .int .i64 _), (16, .int .i64 _)] ⟨rfl, rfl, rfl, rfl, rfl, rfl, rfl, rfl, trivial⟩ fun f => RG <| CN <| Op1.addN rfl rfl rfl (wrap_i64 (by omega) (by omega)) <| MI rfl <| NL <| run_inLoop <| SQ ?_
   refine RG <| CN <| Op1.lss rfl rfl <| NL <| SQ <| run_cond_true (congrArg Value.bool (decide_eq_true (by decide))) <| run_skip <| SQ <| run_block <| SQ <| SR <| MU rfl <| CN <| Op1.convW ty23 ty5 rfl (wrap_byte (l.getD j 0) 1) <| CN <| Op1.eql rfl rfl <| NL ?_
   refine run_cond_dec rfl (fun g8 => ?_) (fun g8 => ?_)
   · skip
     refine SQ <| SR <| MU rfl <| CN <| Op1.neq rfl rfl <| NL <| run_cond_dec rfl (fun g9 => ?_) (fun g9 => ?_)
     · skip
       refine SR <| AS rfl <| AI rfl <| AI rfl <| NL <| run_ret3 Try.func113 rfl (TP (v := str _) rfl) (TP (v := .int .i64 _) rfl) (TP (v := .int .i64 _) rfl) ?_
       rw [textF_pad (j := j) (t := 1) (by omega) (by decide) g8 (nz_step hJ.2 (nzT (j := j) (t := 0) (by omega) (by decide) g3)) (by simpa using g9)]
       exact ⟨rfl, hst.pure⟩
     refine run_skip <| SR <| MI rfl <| CN <| Op1.addN rfl rfl rfl (wrap_i64 (by omega) (by omega)) <| AI rfl <| NL <| run_exit (id := 0) rfl <| SQ <| SR <| MI rfl <| CN <| Op1.lss rfl rfl <| NL <| run_cond_dec rfl (fun g10 => ?_) (fun g10 => ?_)
     · skip
       exfalso
       omega
     refine run_skip <| SR <| ML rfl <| CN <| Op1.bytesStr2 (l := (joinW l).take (4 * j + 1)) ty22 ty5 ty9 rfl (by rw [List.length_take, joinW_len]; omega) (Res.rs_of_sl (hst.hL _ (.head _))) (by rw [show 4 * j + 1 = 4 * j + 0 + 1 from rfl, joinW_flT (t := 0) (by omega) (by decide)]; try rfl) <| MI rfl <| AS rfl <| AI rfl <| AI rfl <| NL <| run_ret3 Try.func113 rfl (TP (v := str _) rfl) (TP (v := .int .i64 _) rfl) (TP (v := .int .i64 _) rfl) ?_
     rw [textF_ok (j := j) (t := 1) (by omega) (by decide) g8 (nz_step hJ.2 (nzT (j := j) (t := 0) (by omega) (by decide) g3)) (by simpa using g9)]
     exact ⟨rfl, hst.pure⟩
   refine run_skip <| SR <| ML rfl <| MU rfl <| CN <| Op1.convW ty23 ty5 rfl (wrap_byte (l.getD j 0) 1) <| CN (Op1.buildSl (z0 := [.int .u8 0]) hst ty22 ty5 rfl rfl (by kernel_rfl) (.c (v := .int .u8 _) rfl (h := .nil)) fun w b28 hst => ?_)
   refine CN (Op1.append (news := [.int .u8 _]) hst ty22 ty5 rfl rfl (.there (.here)) rfl rfl rfl (cells_of_obj (n := 1) (hst.objL (.head _)) _ rfl) rfl rfl (by omega) fun w ao11 cp12 hst => ?_)
   replace hst := hst.drop (.there (.here))
   refine AL rfl <| NR <| MU rfl <| CN <| Op1.shrI (c := l.getD j 0 / 256 ^ 2) rfl rfl (by decide) (by decide) (show l.getD j 0 / 256 ^ 1 / 256 = _ from div_step _ _) <| AU rfl <| NL <| run_inBlock <| RG <| CN <| Op1.addN rfl rfl rfl (wrap_i64 (by omega) (by omega)) <| MI rfl <| NL <| run_inLoop <| SQ <| RG ?_
   refine CN <| Op1.lss rfl rfl <| NL <| SQ <| run_cond_true (congrArg Value.bool (decide_eq_true (by decide))) <| run_skip <| SQ <| run_block <| SQ <| SR <| MU rfl <| CN <| Op1.convW ty23 ty5 rfl (wrap_byte (l.getD j 0) 2) <| CN <| Op1.eql rfl rfl <| NL <| Run.forget [(5, .slice _ _ _), (6, .int .i64 _), (7, .int .i64 _), (8, .int .u32 _), (9, .slice _ _ _), (10, .int .i64 _), (11, .int .i64 _), (16, .int .i64 _), (20, .bool _)] ⟨rfl, rfl, rfl, rfl, rfl, rfl, rfl, rfl, rfl, trivial⟩ (fun f => ?_)
   refine run_cond_dec rfl (fun g13 => ?_) (fun g13 => ?_)
   · skip
     refine SQ <| SR <| MU rfl <| CN <| Op1.neq rfl rfl <| NL <| run_cond_dec rfl (fun g14 => ?_) (fun g14 => ?_)
     · skip
       refine SR <| AS rfl <| AI rfl <| AI rfl <| NL <| run_ret3 Try.func113 rfl (TP (v := str _) rfl) (TP (v := .int .i64 _) rfl) (TP (v := .int .i64 _) rfl) ?_
       rw [textF_pad (j := j) (t := 2) (by omega) (by decide) g13 (nz_step (nz_step hJ.2 (nzT (j := j) (t := 0) (by omega) (by decide) g3)) (nzT (j := j) (t := 1) (by omega) (by decide) g8)) (by simpa using g14)]
       exact ⟨rfl, hst.pure⟩
     refine run_skip <| SR <| MI rfl <| CN <| Op1.addN rfl rfl rfl (wrap_i64 (by omega) (by omega)) <| AI rfl <| NL <| run_exit (id := 0) rfl <| SQ <| SR <| MI rfl <| CN <| Op1.lss rfl rfl <| NL <| run_cond_dec rfl (fun g15 => ?_) (fun g15 => ?_)
     · skip
       exfalso
       omega
     refine run_skip <| SR <| ML rfl <| CN <| Op1.bytesStr2 (l := (joinW l).take (4 * j + 2)) ty22 ty5 ty9 rfl (by rw [List.length_take, joinW_len]; omega) (Res.rs_of_sl (hst.hL _ (.head _))) (by rw [show 4 * j + 2 = 4 * j + 1 + 1 from rfl, joinW_flT (t := 1) (by omega) (by decide), show 4 * j + 1 = 4 * j + 0 + 1 from rfl, joinW_flT (t := 0) (by omega) (by decide)]; try rfl) <| MI rfl <| AS rfl <| AI rfl <| AI rfl <| NL <| run_ret3 Try.func113 rfl (TP (v := str _) rfl) (TP (v := .int .i64 _) rfl) (TP (v := .int .i64 _) rfl) ?_
     rw [textF_ok (j := j) (t := 2) (by omega) (by decide) g13 (nz_step (nz_step hJ.2 (nzT (j := j) (t := 0) (by omega) (by decide) g3)) (nzT (j := j) (t := 1) (by omega) (by decide) g8)) (by simpa using g14)]
     exact ⟨rfl, hst.pure⟩
   refine run_skip <| SR <| ML rfl <| MU rfl <| CN <| Op1.convW ty23 ty5 rfl (wrap_byte (l.getD j 0) 2) <| CN (Op1.buildSl (z0 := [.int .u8 0]) hst ty22 ty5 rfl rfl (by kernel_rfl) (.c (v := .int .u8 _) rfl (h := .nil)) fun w b28 hst => ?_)
   refine CN (Op1.append (news := [.int .u8 _]) hst ty22 ty5 rfl rfl (.there (.here)) rfl rfl rfl (cells_of_obj (n := 1) (hst.objL (.head _)) _ rfl) rfl rfl (by omega) fun w ao16 cp17 hst => ?_)
   replace hst := hst.drop (.there (.here))
   refine AL rfl <| NR <| MU rfl <| CN <| Op1.shrI (c := l.getD j 0 / 256 ^ 3) rfl rfl (by decide) (by decide) (show l.getD j 0 / 256 ^ 2 / 256 = _ from div_step _ _) <| AU rfl <| NL <| run_inBlock <| RG <| CN <| Op1.addN rfl rfl rfl (wrap_i64 (by omega) (by omega)) <| MI rfl <| NL <| run_inLoop <| SQ <| RG ?_
   refine CN <| Op1.lss rfl rfl <| NL <| SQ <| run_cond_true (congrArg Value.bool (decide_eq_true (by decide))) <| run_skip <| SQ <| run_block <| SQ <| SR <| MU rfl <| CN <| Op1.convW ty23 ty5 rfl (wrap_byte (l.getD j 0) 3) <| CN <| Op1.eql rfl rfl <| NL <| run_cond_dec rfl (fun g18 => ?_) (fun g18 => ?_)
   · skip
     refine SQ <| SR <| MU rfl <| CN <| Op1.neq rfl rfl <| NL <| run_cond_dec rfl (fun g19 => ?_) (fun g19 => ?_)
     · skip
       refine SR <| AS rfl <| AI rfl <| AI rfl <| NL <| run_ret3 Try.func113 rfl (TP (v := str _) rfl) (TP (v := .int .i64 _) rfl) (TP (v := .int .i64 _) rfl) ?_
       rw [textF_pad (j := j) (t := 3) (by omega) (by decide) g18 (nz_step (nz_step (nz_step hJ.2 (nzT (j := j) (t := 0) (by omega) (by decide) g3)) (nzT (j := j) (t := 1) (by omega) (by decide) g8)) (nzT (j := j) (t := 2) (by omega) (by decide) g13)) (by simpa using g19)]
       exact ⟨rfl, hst.pure⟩
     refine run_skip <| SR <| MI rfl <| CN <| Op1.addN rfl rfl rfl (wrap_i64 (by omega) (by omega)) <| AI rfl <| NL <| run_exit (id := 0) rfl <| Run.forget [(5, .slice _ _ _), (6, .int .i64 _)] ⟨rfl, rfl, trivial⟩ fun f => SQ <| SR <| MI rfl <| CN <| Op1.lss rfl rfl <| NL ?_
     refine run_cond_dec rfl (fun g20 => ?_) (fun g20 => ?_)
     · skip
       exfalso
       omega
     refine run_skip <| SR <| ML rfl <| CN <| Op1.bytesStr2 (l := (joinW l).take (4 * j + 3)) ty22 ty5 ty9 rfl (by rw [List.length_take, joinW_len]; omega) (Res.rs_of_sl (hst.hL _ (.head _))) (by rw [show 4 * j + 3 = 4 * j + 2 + 1 from rfl, joinW_flT (t := 2) (by omega) (by decide), show 4 * j + 2 = 4 * j + 1 + 1 from rfl, joinW_flT (t := 1) (by omega) (by decide), show 4 * j + 1 = 4 * j + 0 + 1 from rfl, joinW_flT (t := 0) (by omega) (by decide)]; try rfl) <| MI rfl <| AS rfl <| AI rfl <| AI rfl <| NL <| run_ret3 Try.func113 rfl (TP (v := str _) rfl) (TP (v := .int .i64 _) rfl) (TP (v := .int .i64 _) rfl) ?_
     rw [textF_ok (j := j) (t := 3) (by omega) (by decide) g18 (nz_step (nz_step (nz_step hJ.2 (nzT (j := j) (t := 0) (by omega) (by decide) g3)) (nzT (j := j) (t := 1) (by omega) (by decide) g8)) (nzT (j := j) (t := 2) (by omega) (by decide) g13)) (by simpa using g19)]
     exact ⟨rfl, hst.pure⟩
   refine run_skip <| SR <| ML rfl <| MU rfl <| CN <| Op1.convW ty23 ty5 rfl (wrap_byte (l.getD j 0) 3) <| CN (Op1.buildSl (z0 := [.int .u8 0]) hst ty22 ty5 rfl rfl (by kernel_rfl) (.c (v := .int .u8 _) rfl (h := .nil)) fun w b28 hst => ?_)
   refine CN (Op1.append (news := [.int .u8 _]) hst ty22 ty5 rfl rfl (.there (.here)) rfl rfl rfl (cells_of_obj (n := 1) (hst.objL (.head _)) _ rfl) rfl rfl (by omega) fun w ao21 cp22 hst => ?_)
   replace hst := hst.drop (.there (.here))
   refine AL rfl <| NL <| Run.forget [(5, .slice _ _ _), (6, .int .i64 _), (7, .int .i64 _), (8, .int .u32 _), (9, .slice _ _ _), (10, .int .i64 _), (11, .int .i64 _), (16, .int .i64 _)] ⟨rfl, rfl, rfl, rfl, rfl, rfl, rfl, rfl, trivial⟩ fun f => RG <| MU rfl <| CN <| Op1.shrI (c := l.getD j 0 / 256 ^ 4) rfl rfl (by decide) (by decide) (show l.getD j 0 / 256 ^ 3 / 256 = _ from div_step _ _) <| AU rfl <| NL <| run_inBlock <| RG <| CN <| Op1.addN rfl rfl rfl (wrap_i64 (by omega) (by omega)) <| MI rfl <| NL <| run_inLoop <| SQ ?_
   refine RG <| CN <| Op1.lss rfl rfl <| NL <| SQ <| run_cond_false (congrArg Value.bool (decide_eq_false (by decide))) <| run_exit (id := 2) rfl <| run_inBlock <| RG <| CN <| Op1.addN rfl rfl rfl (wrap_i64 (by omega) (by omega)) <| MI rfl <| NL <| run_inLoop ?_
   exact ih1 ((j + 1, ao21, cp22)) _ w (by (try dsimp only); omega) (by (try dsimp only); rw [joinW_flat4 (by omega)]; exact hst) (⟨by (try dsimp only); omega, (nz_step (nz_step (nz_step (nz_step hJ.2 (nzT (j := j) (t := 0) (by omega) (by decide) g3)) (nzT (j := j) (t := 1) (by omega) (by decide) g8)) (nzT (j := j) (t := 2) (by omega) (by decide) g13)) (nzT (j := j) (t := 3) (by omega) (by decide) g18))⟩) ⟨rfl, rfl, trivial⟩ ⟨rfl, rfl, (congrArg (Value.int .i64) (by (try dsimp only); omega)), trivial⟩
 obtain rfl : j = l.length := by omega
 refine run_exit (id := 0) rfl <| SQ <| SR <| MI rfl <| CN <| Op1.lss rfl rfl <| NL <| run_cond_dec rfl (fun g23 => ?_) (fun g23 => ?_)
 · skip
   refine SR <| AS rfl <| AI rfl <| AI rfl <| NL <| run_ret3 Try.func113 rfl (TP (v := str _) rfl) (TP (v := .int .i64 _) rfl) (TP (v := .int .i64 _) rfl) ?_
   rw [textF_none (fun r hr => hJ.2 r hr)]
   exact ⟨rfl, hst.pure⟩
 exfalso
 omega
end Go.SK
namespace Go.SK
open Go Go.Proofs
theorem ent111 : Enters Try.prog 111 := ⟨Try.f111, _, Try.func111, by kernel_rfl, rfl⟩
end Go.SK
namespace Go.SK
open Go Go.Proofs
open Go.RowKit
theorem R3wd_OfText (s : List UInt8) (w : World) (hl : s.length ≤ 100000000000000) : Ret Try.prog 110 #[str s] w (fun v w' => ∃ ro rc, v = .tuple #[.slice ro (ofTextL s).length rc, .int .i64 (ofTextE s)] ∧ St w NoM [Res.sl ro (ofTextL s).length rc 23 1 ((ofTextL s).flatMap u32C)] [] w') := by
 refine Ret.enter (args := [str s]) Try.func110 rfl rfl rfl ?_
 have hst := St.init w
 refine SR <| AL rfl <| AI rfl <| NL <| SQ <| SR <| MS rfl <| CN <| Op1.lenS (rest := []) ty9 rfl <| MI rfl <| NL <| run_block <| run_loop <| Run.indW [(0, str _), (8, .int .i64 _)] ⟨rfl, rfl, trivial⟩ (fun (i : Nat) => [(9, .int .i64 (i : Int))]) (fun (i : Nat) => []) (fun (i : Nat) => i ≤ s.length ∧ ∀ r, r < i → s.getD r 0 ≠ 0) (fun (i : Nat) => s.length - i) (0) hst ⟨Nat.zero_le _, fun r hr => absurd hr (by omega)⟩ ⟨rfl, trivial⟩ ?_
 intro i f w hst hJ ih1
 refine SR <| CN <| Op1.lss rfl rfl <| NL <| SQ <| run_cond_dec rfl (fun g2 => ?_) (fun g2 => ?_)
 · skip
   refine run_skip <| SQ <| run_block <| SR <| MI rfl <| AI rfl <| NSR <| MS rfl <| MI rfl <| CN <| Op1.indexS ty9 rfl rfl (by omega) (by omega) <| CN <| Op1.eql rfl rfl <| NL ?_
   refine run_cond_dec rfl (fun g3 => ?_) (fun g3 => ?_)
   · skip
     refine SR <| AL rfl <| AI rfl <| NL <| run_ret2 Try.func110 rfl (TP (v := .slice _ _ _) rfl) (TP (v := .int .i64 _) rfl) ?_
     replace hst := hst.pick .nil
     have he := ofTextE_zero (by omega) g3 hJ.2
     rw [ofTextL_err (by rw [he]; decide), he]
     exact ⟨none, 0, rfl, (hst.pushNil 23 1).noD⟩
   refine run_skip <| run_inBlock <| RG <| CN <| Op1.addN rfl rfl rfl (wrap_i64 (by omega) (by omega)) <| MI rfl <| NL <| run_inLoop ?_
   exact ih1 (i + 1) _ w (by omega) hst (⟨by omega, nz_step hJ.2 (byte1 g3)⟩) ⟨rfl, rfl, trivial⟩ ⟨(congrArg (Value.int .i64) (by omega)), trivial⟩
 refine run_exit (id := 0) rfl <| SQ <| SR <| MS rfl <| CN <| Op1.call1 (v1 := str _) ent111 rfl rfl <| Ret.det (R3wd_Room s _ (by omega)) hst fun w hst => CN <| Op1.gtr rfl rfl <| NL <| run_cond_dec rfl (fun g4 => ?_) (fun g4 => ?_)
 · skip
   refine SR <| AL rfl <| AI rfl <| NL <| run_ret2 Try.func110 rfl (TP (v := .slice _ _ _) rfl) (TP (v := .int .i64 _) rfl) ?_
   replace hst := hst.pick .nil
   have he := ofTextE_large (s := s) (fun r hr => hJ.2 r (by omega)) (by omega)
   rw [ofTextL_err (by rw [he]; decide), he]
   exact ⟨none, 0, rfl, (hst.pushNil 23 1).noD⟩
 refine run_skip <| SR <| MS rfl <| CN <| Op1.call1 (v1 := str _) ent111 rfl rfl <| Ret.det (R3wd_Room s _ (by omega)) hst fun w hst => CN (Op1.makeSlV (k := s.length / 4 + 1) hst ty43 ty23 rfl rfl rfl (by decide) (by omega) (by omega) fun w bC hst => ?_)
 rw [fill_zero] at hst
 refine AL rfl <| NL <| SQ <| SR <| MS rfl <| CN <| Op1.lenS (rest := []) ty9 rfl <| MI rfl <| NL <| run_block <| run_loop <| Run.indW [(0, str _), (5, .slice _ _ _), (24, .int .i64 _)] ⟨rfl, rfl, rfl, trivial⟩ (fun (i : Nat) => [(25, .int .i64 (i : Int))]) (fun (i : Nat) => [Res.sl (some ⟨bC, 0, none⟩) (s.length / 4 + 1) (s.length / 4 + 1) 23 1 ((splitW (fillB s i)).flatMap u32C)]) (fun (i : Nat) => i ≤ s.length) (fun (i : Nat) => s.length - i) (0) hst (Nat.zero_le _) ⟨rfl, trivial⟩ ?_
 intro i f w hst hK ih5
 have hLl := fillW_len (s := s) (i := i) hK
 refine SR <| CN <| Op1.lss rfl rfl <| NL <| SQ <| run_cond_dec rfl (fun g6 => ?_) (fun g6 => ?_)
 · skip
   have hlow := fill_low (s := s) (i := i) (by omega)
   refine run_skip <| SQ <| run_block <| SR <| MI rfl <| AI rfl <| NL <| RunD.start [] hst (bs := [0, 0, 2, 7, 15, 0, 0, 96, 224, 0, 512, 1536, 4064, 8191, 16383, 32767]) (ds := [some 28, some 29, some 30, some 31, some 32, some 33, some 34, some 35, some 36, some 37, some 38, some 39, some 40, some 41, some 42, none]) ⟨by kernel_rfl, by kernel_rfl, by kernel_rfl⟩ (fun tab7 => ?_)
   refine RunD.op (det _) tab7 1 (fun f' L' w' hc => Op1.move (v := .slice _ _ _) (hc.old (v := .slice _ _ _) rfl rfl rfl) ⟨[], ⟨rfl, rfl⟩, hc.st⟩) <| RunD.op (det _) tab7 2 (fun f' L' w' hc => Op1.move (v := .int .i64 _) (hc.old (v := .int .i64 _) rfl rfl rfl) ⟨[], ⟨rfl, rfl⟩, hc.st⟩) ?_
   first | refine RunD.op (det _) tab7 3 (fun f' L' w' hc => Op1.quoN (hc.det (j := 1) rfl rfl rfl rfl) rfl (by omega) (by omega) rfl (wrap_i64 (by omega) (by omega)) ⟨[], ⟨rfl, rfl⟩, hc.st⟩) ?_ | refine RunD.op (det _) tab7 3 (fun f' L' w' hc => Op1.quo (hc.det (j := 1) rfl rfl rfl rfl) rfl (by omega) ⟨[], ⟨rfl, rfl⟩, hc.st⟩) ?_
   refine RunD.op (det _) tab7 4 (fun f' L' w' hc => Op1.indexSl ty43 ty23 (hc.det (j := 0) rfl rfl rfl rfl) (hc.det (j := 2) rfl rfl rfl rfl) (by omega) (by omega) ⟨[], ⟨rfl, rfl⟩, hc.st⟩) <| RunD.op (det _) tab7 5 (fun f' L' w' hc => Op1.load1 (v := .int .u32 _) ty23 rfl (hc.det (j := 3) rfl rfl rfl rfl) (Res.sl_cell (hc.st.hL _ (List.mem_append_right _ (.head _))) (flat_cell0 (g := u32C) (d := 0) u32C_len rfl (by omega))) ⟨[], ⟨rfl, rfl⟩, hc.st⟩) <| RunD.op (det _) tab7 6 (fun f' L' w' hc => Op1.move (v := str _) (hc.old (v := str _) rfl rfl rfl) ⟨[], ⟨rfl, rfl⟩, hc.st⟩) <| RunD.op (det _) tab7 7 (fun f' L' w' hc => Op1.move (v := .int .i64 _) (hc.old (v := .int .i64 _) rfl rfl rfl) ⟨[], ⟨rfl, rfl⟩, hc.st⟩) <| RunD.op (det _) tab7 8 (fun f' L' w' hc => Op1.indexS ty9 (hc.det (j := 5) rfl rfl rfl rfl) (hc.det (j := 6) rfl rfl rfl rfl) (by omega) (by omega) ⟨[], ⟨rfl, rfl⟩, hc.st⟩) ?_
   first | refine RunD.op (det _) tab7 9 (fun f' L' w' hc => Op1.convN ty5 ty23 (hc.det (j := 7) rfl rfl rfl rfl) (wrap_u32 (by omega) (by omega)) ⟨[], ⟨rfl, rfl⟩, hc.st⟩) ?_ | refine RunD.op (det _) tab7 9 (fun f' L' w' hc => Op1.convN ty5 ty23 (hc.det (j := 7) rfl rfl rfl rfl) (wrapB_u32 _) ⟨[], ⟨rfl, rfl⟩, hc.st⟩) ?_ | refine RunD.op (det _) tab7 9 (fun f' L' w' hc => Op1.conv ty5 ty23 (hc.det (j := 7) rfl rfl rfl rfl) ⟨[], ⟨rfl, rfl⟩, hc.st⟩) ?_
   refine RunD.op (det _) tab7 10 (fun f' L' w' hc => Op1.move (v := .int .i64 _) (hc.old (v := .int .i64 _) rfl rfl rfl) ⟨[], ⟨rfl, rfl⟩, hc.st⟩) ?_
   first | refine RunD.op (det _) tab7 11 (fun f' L' w' hc => Op1.remN (hc.det (j := 9) rfl rfl rfl rfl) rfl (by omega) (by omega) rfl ⟨[], ⟨rfl, rfl⟩, hc.st⟩) ?_ | refine RunD.op (det _) tab7 11 (fun f' L' w' hc => Op1.rem (hc.det (j := 9) rfl rfl rfl rfl) rfl (by omega) ⟨[], ⟨rfl, rfl⟩, hc.st⟩) ?_
   refine RunD.op (det _) tab7 12 (fun f' L' w' hc => Op1.mulN rfl (hc.det (j := 10) rfl rfl rfl rfl) rfl (wrap_i64 (by omega) (by omega)) ⟨[], ⟨rfl, rfl⟩, hc.st⟩) <| RunD.op (det _) tab7 13 (fun f' L' w' hc => Op1.shlV (c := ((s.getD i 0).toNat : Int) * 256 ^ (i % 4)) (hc.det (j := 8) rfl rfl rfl rfl) (hc.det (j := 11) rfl rfl rfl rfl) (by omega) (by show _ ≤ 32; omega) (shl_byte (s.getD i 0) i) ⟨[], ⟨rfl, rfl⟩, hc.st⟩) <| RunD.fin followsMixed tab7 hst rfl (fun f8 w R11 hs9 hd10 hr12 hst => ?_)
   obtain ⟨h28_, r0⟩ := hd10 0 28 rfl rfl
   obtain ⟨h29_, r1⟩ := hd10 1 29 rfl rfl
   obtain ⟨h30_, r2⟩ := hd10 2 30 rfl rfl
   obtain ⟨h31_, r3⟩ := hd10 3 31 rfl rfl
   obtain ⟨h32_, r4⟩ := hd10 4 32 rfl rfl
   obtain ⟨h33_, r5⟩ := hd10 5 33 rfl rfl
   obtain ⟨h34_, r6⟩ := hd10 6 34 rfl rfl
   obtain ⟨h35_, r7⟩ := hd10 7 35 rfl rfl
   obtain ⟨h36_, r8⟩ := hd10 8 36 rfl rfl
   obtain ⟨h37_, r9⟩ := hd10 9 37 rfl rfl
   obtain ⟨h38_, r10⟩ := hd10 10 38 rfl rfl
   obtain ⟨h39_, r11⟩ := hd10 11 39 rfl rfl
   obtain ⟨h40_, r12⟩ := hd10 12 40 rfl rfl
   simp only [show List.range 13 = [0, 1, 2, 3, 4, 5, 6, 7, 8, 9, 10, 11, 12] from rfl, List.flatMap_cons, List.flatMap_nil, List.map_cons, List.map_nil, r0, r1, r2, r3, r4, r5, r6, r7, r8, r9, r10, r11, r12, List.nil_append, List.append_nil, List.cons_append] at hst
   refine RunL.slots (sl := [(0, str _), (5, .slice _ _ _), (24, .int .i64 _), (25, .int .i64 _), (28, .slice _ _ _), (30, .int .i64 _), (32, .int .u32 _), (40, .int .u32 _)]) ⟨(hs9 0 rfl).trans rfl, (hs9 5 rfl).trans rfl, (hs9 24 rfl).trans rfl, (hs9 25 rfl).trans rfl, h28_, h30_, h32_, h40_, trivial⟩ ?_
   clear hs9 hd10 hr12 tab7
   refine CN <| Op1.orHigh (a := (splitW (fillB s i)).getD (i / 4) 0) (m := 8 * (i % 4)) (q := ((s.getD i 0).toNat : Int)) (c := (splitW (fillB s i)).getD (i / 4) 0 + ((s.getD i 0).toNat : Int) * 256 ^ (i % 4)) rfl rfl hlow.1 hlow.2.1 (by rw [pow256 (by omega)]) (by omega) rfl hlow.2.2 <| CN <| Op1.indexSl ty43 ty23 rfl rfl (by omega) (by omega) <| CN <| Op1.storeSl (v := .int .u32 _) hst ty23 rfl rfl rfl rfl rfl (.here) (by simp only [List.length_cons, List.length_nil]; omega) fun w hst => NL <| run_inBlock <| RG <| CN <| Op1.addN rfl rfl rfl (wrap_i64 (by omega) (by omega)) <| MI rfl <| NL <| run_inLoop ?_
   exact ih5 (i + 1) _ w (by omega) (by (try dsimp only); rw [← fill_step (s := s) (i := i) (by omega)]; exact hst) (by omega) ⟨rfl, rfl, rfl, trivial⟩ ⟨(congrArg (Value.int .i64) (by omega)), trivial⟩
 have hi : i = s.length := by omega
 subst hi
 have hpd : fillB s s.length = padded s := rfl
 rw [hpd] at hst
 refine run_exit (id := 2) rfl <| SR <| ML rfl <| AL rfl <| AI rfl <| NL <| run_ret2 Try.func110 rfl (TP (v := .slice _ _ _) rfl) (TP (v := .int .i64 _) rfl) ?_
 replace hst := hst.pick (.cons (.here) .nil)
 have he := ofTextE_ok (s := s) (fun r hr => hJ.2 r (by omega)) (by omega)
 have hpl : (splitW (padded s)).length = s.length / 4 + 1 := by rw [splitW_len, padded_len]; omega
 rw [ofTextL_ok he, he, hpl]
 exact ⟨_, _, rfl, hst.noD⟩
end Go.SK
namespace Go.SK
open Go Go.Proofs
theorem ty135 : TyF Try.prog 135 (.struct (fieldsOf Try.prog 135)) 2 32 [.slice none 0 0, .int .i64 0] := TyF.of (by kernel_rfl) (by kernel_rfl)
theorem stf135 : StructF Try.prog 135 [(0, 1), (1, 1)] := ⟨fieldsOf Try.prog 135, by kernel_rfl, fun w => by kernel_rfl⟩
theorem ty90 : TyF Try.prog 90 (.pointer 135) 1 8 [.pointer none] := TyF.of (by kernel_rfl) (by kernel_rfl)
theorem fld135_0 : FldF Try.prog 135 0 0 := FldF.of (n := 0) (by kernel_rfl)
theorem fld135_1 : FldF Try.prog 135 1 1 := FldF.of (n := 0) (by kernel_rfl)
theorem ty3 : TyF Try.prog 3 (.int .i64) 1 8 [.int .i64 0] := TyF.of (by kernel_rfl) (by kernel_rfl)
end Go.SK
namespace Go.SK
open Go Go.Proofs
open Go.RowKit
theorem R3wd_New (l : List Int) (ao : Option Addr) (cp : Nat) (w : World) (hA : (Res.rs ao l.length 1 (l.flatMap u32C)).holds w) (hl : l.length ≤ 35184372088832) : Ret Try.prog 54 #[.slice ao l.length cp] w (fun v w' => ∃ b ro rc, v = .pointer (some ⟨b, 0, none⟩) ∧ St w NoM [RdR 135 23 b ro rc l 0] [] w') := by
 refine Ret.enter (args := [.slice ao l.length cp]) Try.func54 rfl rfl rfl ?_
 have hst : St w NoM [] [Res.rs ao l.length 1 (l.flatMap u32C)] w := St.init_D hA
 clear hA
 refine SR <| CN <| Op1.assign (v := _) rfl <| NSR <| ML rfl ?_
 replace hst := hst.pushNil 23 1
 refine CN (Op1.appendRs hst ty43 ty23 rfl rfl (.here) rfl rfl (hst.hD _ (.head _)) (flat_ok (fun _ => rfl) _) rfl (by omega) fun w aoW cpW hst => ?_)
 rw [List.nil_append, Nat.zero_add l.length] at hst
 rw [Nat.zero_add l.length]
 refine CN (Op1.buildStruct ty135 stf135 (.c (v := .slice _ _ _) rfl (h := .nil)) ?_)
 refine CN <| Op1.box (v := .agg #[.slice _ _ _, .int .i64 _]) hst rfl rfl fun w b6 hst => AP rfl <| NL <| run_ret1 Try.func54 rfl (TP (v := .pointer (some ⟨_, _, none⟩)) rfl) ?_
 replace hst := hst.pick (.cons (.here) (.cons (.here) .nil))
 exact ⟨_, _, _, rfl, (St.pack (L1 := [_, _]) (L2 := []) hst).noD⟩
theorem R3wd_Left (b : Nat) (ao : Option Addr) (cp : Nat) (l : List Int) (a : Nat) (w : World) (hR : (RdR 135 23 b ao cp l a).holds w) (hl : l.length ≤ 35184372088832) (ha : a ≤ l.length) : Ret Try.prog 56 #[.pointer (some ⟨b, 0, none⟩)] w (fun v w' => v = .int .i64 ((l.length : Int) - a) ∧ St w NoM [] [] w') := by
 refine Ret.enter (args := [.pointer (some ⟨b, 0, none⟩)]) Try.func56 rfl rfl rfl ?_
 have hst : St w NoM [] [Res.row b 135 [.slice ao l.length cp, .int .i64 (a : Int)]] w := St.init_D (RdR.row hR)
 refine SR <| AI rfl <| NL <| SQ <| SR <| MP rfl <| CN <| Op1.eqlPN ty90 rfl rfl <| NL <| run_cond_false (congrArg Value.bool (rfl : false = _)) <| run_skip <| SQ <| RunD.start [] hst (bs := [0, 1, 3, 7, 15, 0, 32, 96, 224, 511, 1023]) (ds := [some 5, some 6, some 7, some 8, some 9, some 10, some 11, some 12, some 13, some 14, some 2]) ⟨by kernel_rfl, by kernel_rfl, by kernel_rfl⟩ (fun tab1 => ?_)
 refine RunD.op (det _) tab1 1 (fun f' L' w' hc => Op1.move (v := .pointer (some ⟨_, _, none⟩)) (hc.old (v := .pointer (some ⟨_, _, none⟩)) rfl rfl rfl) ⟨[], ⟨rfl, rfl⟩, hc.st⟩) <| RunD.op (det _) tab1 2 (fun f' L' w' hc => Op1.nilCheckP (hc.det (j := 0) rfl rfl rfl rfl) ⟨[], ⟨rfl, rfl⟩, hc.st⟩) <| RunD.op (det _) tab1 3 (fun f' L' w' hc => Op1.fieldAddr fld135_0 (hc.det (j := 1) rfl rfl rfl rfl) ⟨[], ⟨rfl, rfl⟩, hc.st⟩) <| RunD.op (det _) tab1 4 (fun f' L' w' hc => Op1.load1 (v := .slice _ _ _) ty43 rfl (hc.det (j := 2) rfl rfl rfl rfl) (hc.st.cellD (.head _) rfl) ⟨[], ⟨rfl, rfl⟩, hc.st⟩) <| RunD.op (det _) tab1 5 (fun f' L' w' hc => Op1.lenSl (rest := []) ty43 (hc.det (j := 3) rfl rfl rfl rfl) ⟨[], ⟨rfl, rfl⟩, hc.st⟩) <| RunD.op (det _) tab1 6 (fun f' L' w' hc => Op1.move (v := .pointer (some ⟨_, _, none⟩)) (hc.old (v := .pointer (some ⟨_, _, none⟩)) rfl rfl rfl) ⟨[], ⟨rfl, rfl⟩, hc.st⟩) <| RunD.op (det _) tab1 7 (fun f' L' w' hc => Op1.nilCheckP (hc.det (j := 5) rfl rfl rfl rfl) ⟨[], ⟨rfl, rfl⟩, hc.st⟩) <| RunD.op (det _) tab1 8 (fun f' L' w' hc => Op1.fieldAddr fld135_1 (hc.det (j := 6) rfl rfl rfl rfl) ⟨[], ⟨rfl, rfl⟩, hc.st⟩) <| RunD.op (det _) tab1 9 (fun f' L' w' hc => Op1.load1 (v := .int .i64 _) ty3 rfl (hc.det (j := 7) rfl rfl rfl rfl) (hc.st.cellD (.head _) rfl) ⟨[], ⟨rfl, rfl⟩, hc.st⟩) <| RunD.fin followsMixed tab1 hst rfl (fun f2 w R5 hs3 hd4 hr6 hst => ?_)
 obtain ⟨h5_, r0⟩ := hd4 0 5 rfl rfl
 obtain ⟨h6_, r1⟩ := hd4 1 6 rfl rfl
 obtain ⟨h7_, r2⟩ := hd4 2 7 rfl rfl
 obtain ⟨h8_, r3⟩ := hd4 3 8 rfl rfl
 obtain ⟨h9_, r4⟩ := hd4 4 9 rfl rfl
 obtain ⟨h10_, r5⟩ := hd4 5 10 rfl rfl
 obtain ⟨h11_, r6⟩ := hd4 6 11 rfl rfl
 obtain ⟨h12_, r7⟩ := hd4 7 12 rfl rfl
 obtain ⟨h13_, r8⟩ := hd4 8 13 rfl rfl
 simp only [show List.range 9 = [0, 1, 2, 3, 4, 5, 6, 7, 8] from rfl, List.flatMap_cons, List.flatMap_nil, List.map_cons, List.map_nil, r0, r1, r2, r3, r4, r5, r6, r7, r8, List.nil_append, List.append_nil, List.cons_append] at hst
 refine RunL.slots (sl := [(9, .int .i64 _), (13, .int .i64 _)]) ⟨h9_, h13_, trivial⟩ ?_
 clear hs3 hd4 hr6 tab1
 refine CN <| Op1.subN rfl rfl rfl (wrap_i64 (by omega) (by omega)) <| AI rfl <| NL <| run_ret1 Try.func56 rfl (TP (v := .int .i64 _) rfl) ?_
 exact ⟨rfl, hst.pure⟩
end Go.SK
namespace Go.SK
open Go Go.Proofs
theorem ent56 : Enters Try.prog 56 := ⟨Try.f56, _, Try.func56, by kernel_rfl, rfl⟩
end Go.SK
namespace Go.SK
open Go Go.Proofs
open Go.RowKit
theorem R3wd_takeWord (b : Nat) (ao : Option Addr) (cp : Nat) (l : List Int) (a : Nat) (w : World) (hR : (RdR 135 23 b ao cp l a).holds w) (hl : l.length ≤ 35184372088832) (hlt : a < l.length) : Ret Try.prog 105 #[.pointer (some ⟨b, 0, none⟩), .int .i64 0, .int .i64 0] w (fun v w' => ∃ ro rc, v = .tuple #[.slice ro 1 rc, str [], .int .i64 0] ∧ St w (RdR 135 23 b ao cp l a).foot [RdR 135 23 b ao cp l (a + 1), Res.sl ro 1 rc 23 1 ([l.getD a 0].flatMap u32C)] [] w') := by
 refine Ret.enter (args := [.pointer (some ⟨b, 0, none⟩), .int .i64 0, .int .i64 0]) Try.func105 rfl rfl rfl ?_
 have hst : St w (RdR 135 23 b ao cp l a).foot [RdR 135 23 b ao cp l a] [] w := St.enter1 hR (fun d hd => by cases hd) (fun d hd => by cases hd)
 replace hst : St _ _ [_, _] _ _ := hst.unpack
 have hcap : l.length ≤ cp := Res.sl_cap (hst.hL _ (.tail _ (.head _)))
 have hsepR := hR.2
 refine SR <| AL rfl <| AS rfl <| AI rfl <| NL <| SQ <| SR <| MP rfl <| CN <| Op1.eqlPN ty90 rfl rfl <| NL <| run_cond_false (congrArg Value.bool (rfl : false = _)) <| run_skip <| SQ ?_
 refine RG <| AS rfl <| AI rfl <| NL <| SQ <| SR <| MI rfl <| NL <| run_block <| SR <| CN <| Op1.eql rfl rfl <| AB rfl <| NL ?_
 refine run_cond_dec rfl (fun g1 => ?_) (fun g1 => ?_)
 · skip
   refine RG <| AI rfl <| NL <| run_inBlock <| SQ <| SR <| MI rfl <| CN <| Op1.eql rfl rfl <| MB rfl <| RunL.splitD (d := 39) rfl (fun g2 => ?_) (fun g2 => ?_)
   · skip
     refine TK (t := 39) rfl (congrArg Value.bool (decide_eq_true g2)) <| Op1.move (v := .int .i64 _) rfl <| TK (t := 39) rfl (congrArg Value.bool (decide_eq_true g2)) <| Op1.move (v := .pointer (some ⟨_, _, none⟩)) rfl <| TK (t := 39) rfl (congrArg Value.bool (decide_eq_true g2)) (Op1.call1 (v1 := .pointer (some ⟨_, _, none⟩)) ent56 rfl rfl ((R3wd_Left b _ _ l a _ ⟨(fun r hr => by cases hr with | head => exact (hst.hL _ (.head _)) | tail _ hr => cases hr with | head => exact (hst.hL _ (.tail _ (.head _))) | tail _ h => cases h), hsepR⟩ (by omega) (by omega)).mono fun v w hp => ?_))
     obtain ⟨rfl, hp⟩ := hp
     replace hst := hst.keepc hp
     clear hp
     refine TK (t := 39) rfl (congrArg Value.bool (decide_eq_true g2)) <| Op1.gtr rfl rfl <| CN <| Op1.pickT (u := .bool _) (congrArg Value.bool (decide_eq_true g2)) rfl <| NL <| Run.forget [(0, .pointer (some ⟨_, _, none⟩)), (2, .int .i64 _), (9, str _), (10, .int .i64 _), (44, .bool _)] ⟨rfl, rfl, rfl, rfl, rfl, trivial⟩ fun f => run_cond_dec rfl (fun g3 => ?_) (fun g3 => ?_)
     · skip
       exfalso
       omega
     refine run_skip <| SQ <| SR <| MI rfl <| CN <| Op1.neq rfl rfl <| NL <| run_cond_dec rfl (fun g4 => ?_) (fun g4 => ?_)
     · skip
       exfalso
       exact g4 rfl
     refine run_skip <| SQ <| RunD.start [] hst (bs := [0, 1, 3, 7, 0, 16, 48, 112, 0, 256, 768, 1792, 0, 7936, 16383, 32767, 65535]) (ds := [some 48, some 49, some 50, some 51, some 52, some 53, some 54, some 55, some 56, some 57, some 58, some 59, some 60, some 61, some 62, some 63, some 11]) ⟨by kernel_rfl, by kernel_rfl, by kernel_rfl⟩ (fun tab5 => ?_)
     refine RunD.op (det _) tab5 1 (fun f' L' w' hc => Op1.move (v := .pointer (some ⟨_, _, none⟩)) (hc.old (v := .pointer (some ⟨_, _, none⟩)) rfl rfl rfl) ⟨[], ⟨rfl, rfl⟩, hc.st⟩) <| RunD.op (det _) tab5 2 (fun f' L' w' hc => Op1.nilCheckP (hc.det (j := 0) rfl rfl rfl rfl) ⟨[], ⟨rfl, rfl⟩, hc.st⟩) <| RunD.op (det _) tab5 3 (fun f' L' w' hc => Op1.fieldAddr fld135_0 (hc.det (j := 1) rfl rfl rfl rfl) ⟨[], ⟨rfl, rfl⟩, hc.st⟩) <| RunD.op (det _) tab5 4 (fun f' L' w' hc => Op1.load1 (v := .slice _ _ _) ty43 rfl (hc.det (j := 2) rfl rfl rfl rfl) (hc.st.cellL (List.mem_append_right _ (.head _)) rfl) ⟨[], ⟨rfl, rfl⟩, hc.st⟩) <| RunD.op (det _) tab5 5 (fun f' L' w' hc => Op1.move (v := .pointer (some ⟨_, _, none⟩)) (hc.old (v := .pointer (some ⟨_, _, none⟩)) rfl rfl rfl) ⟨[], ⟨rfl, rfl⟩, hc.st⟩) <| RunD.op (det _) tab5 6 (fun f' L' w' hc => Op1.nilCheckP (hc.det (j := 4) rfl rfl rfl rfl) ⟨[], ⟨rfl, rfl⟩, hc.st⟩) <| RunD.op (det _) tab5 7 (fun f' L' w' hc => Op1.fieldAddr fld135_1 (hc.det (j := 5) rfl rfl rfl rfl) ⟨[], ⟨rfl, rfl⟩, hc.st⟩) <| RunD.op (det _) tab5 8 (fun f' L' w' hc => Op1.load1 (v := .int .i64 _) ty3 rfl (hc.det (j := 6) rfl rfl rfl rfl) (hc.st.cellL (List.mem_append_right _ (.head _)) rfl) ⟨[], ⟨rfl, rfl⟩, hc.st⟩) <| RunD.op (det _) tab5 9 (fun f' L' w' hc => Op1.move (v := .pointer (some ⟨_, _, none⟩)) (hc.old (v := .pointer (some ⟨_, _, none⟩)) rfl rfl rfl) ⟨[], ⟨rfl, rfl⟩, hc.st⟩) <| RunD.op (det _) tab5 10 (fun f' L' w' hc => Op1.nilCheckP (hc.det (j := 8) rfl rfl rfl rfl) ⟨[], ⟨rfl, rfl⟩, hc.st⟩) <| RunD.op (det _) tab5 11 (fun f' L' w' hc => Op1.fieldAddr fld135_1 (hc.det (j := 9) rfl rfl rfl rfl) ⟨[], ⟨rfl, rfl⟩, hc.st⟩) <| RunD.op (det _) tab5 12 (fun f' L' w' hc => Op1.load1 (v := .int .i64 _) ty3 rfl (hc.det (j := 10) rfl rfl rfl rfl) (hc.st.cellL (List.mem_append_right _ (.head _)) rfl) ⟨[], ⟨rfl, rfl⟩, hc.st⟩) <| RunD.op (det _) tab5 13 (fun f' L' w' hc => Op1.move (v := .int .i64 _) (hc.old (v := .int .i64 _) rfl rfl rfl) ⟨[], ⟨rfl, rfl⟩, hc.st⟩) <| RunD.op (det _) tab5 14 (fun f' L' w' hc => Op1.addN (hc.det (j := 11) rfl rfl rfl rfl) (hc.det (j := 12) rfl rfl rfl rfl) rfl (wrap_i64 (by omega) (by omega)) ⟨[], ⟨rfl, rfl⟩, hc.st⟩) <| RunD.fin followsMixed tab5 hst rfl (fun f6 w R9 hs7 hd8 hr10 hst => ?_)
     obtain ⟨h48_, r0⟩ := hd8 0 48 rfl rfl
     obtain ⟨h49_, r1⟩ := hd8 1 49 rfl rfl
     obtain ⟨h50_, r2⟩ := hd8 2 50 rfl rfl
     obtain ⟨h51_, r3⟩ := hd8 3 51 rfl rfl
     obtain ⟨h52_, r4⟩ := hd8 4 52 rfl rfl
     obtain ⟨h53_, r5⟩ := hd8 5 53 rfl rfl
     obtain ⟨h54_, r6⟩ := hd8 6 54 rfl rfl
     obtain ⟨h55_, r7⟩ := hd8 7 55 rfl rfl
     obtain ⟨h56_, r8⟩ := hd8 8 56 rfl rfl
     obtain ⟨h57_, r9⟩ := hd8 9 57 rfl rfl
     obtain ⟨h58_, r10⟩ := hd8 10 58 rfl rfl
     obtain ⟨h59_, r11⟩ := hd8 11 59 rfl rfl
     obtain ⟨h60_, r12⟩ := hd8 12 60 rfl rfl
     obtain ⟨h61_, r13⟩ := hd8 13 61 rfl rfl
     simp only [show List.range 14 = [0, 1, 2, 3, 4, 5, 6, 7, 8, 9, 10, 11, 12, 13] from rfl, List.flatMap_cons, List.flatMap_nil, List.map_cons, List.map_nil, r0, r1, r2, r3, r4, r5, r6, r7, r8, r9, r10, r11, r12, r13, List.nil_append, List.append_nil, List.cons_append] at hst
     refine RunL.slots (sl := [(0, .pointer (some ⟨_, _, none⟩)), (2, .int .i64 _), (9, str _), (51, .slice _ _ _), (55, .int .i64 _), (61, .int .i64 _)]) ⟨(hs7 0 rfl).trans rfl, (hs7 2 rfl).trans rfl, (hs7 9 rfl).trans rfl, h51_, h55_, h61_, trivial⟩ ?_
     clear hs7 hd8 hr10 tab5
     refine CN (Op1.sliceSl2 (lo := a) (hi := a + 1) ty43 ty23 rfl rfl rfl rfl rfl (by omega) (by omega) ?_)
     replace hst := hst.pushNil 23 1
     refine CN (Op1.appendRs hst ty43 ty23 rfl rfl (.here) rfl rfl (rs_one (Res.rs_of_sl (hst.hL _ (.tail _ (.tail _ (.head _))))) hlt hcap) (flat_ok (fun _ => rfl) _) rfl (by omega) fun w aoN cpN hst => ?_)
     rw [show 0 + (a + 1 - a) = 1 by omega] at hst ⊢
     refine AL rfl <| NL <| Run.forget [(0, .pointer (some ⟨_, _, none⟩)), (2, .int .i64 _), (9, str _), (11, .slice _ _ _)] ⟨rfl, rfl, rfl, rfl, trivial⟩ fun f => SR <| MP rfl <| CN <| Op1.nilCheckP rfl <| CN <| Op1.fieldAddr fld135_1 rfl <| CN <| Op1.load1 (v := .int .i64 _) ty3 rfl rfl (hst.cellL (.tail _ (.head _)) rfl) <| MI rfl <| CN <| Op1.addN rfl rfl rfl (wrap_i64 (by omega) (by omega)) <| CN <| Op1.nilCheckP rfl <| CN <| Op1.fieldAddr fld135_1 rfl <| CN (SO (v := .int .i64 _) hst ty3 rfl rfl (.there (.here)) fun w hst => ?_)
     refine NSR <| ML rfl <| MS rfl <| AL rfl <| AS rfl <| AI rfl <| NL <| run_ret3 Try.func105 rfl (TP (v := .slice _ _ _) rfl) (TP (v := str _) rfl) (TP (v := .int .i64 _) rfl) ?_
     replace hst := hst.pick (.cons (.there (.here)) (.cons (.there (.here)) (.cons (.here) .nil)))
     exact ⟨_, _, rfl, (St.pack (L1 := [_, _]) (L2 := [_]) hst)⟩
   exfalso
   exact g2 rfl
 exfalso
 exact g1 rfl
theorem R3wd_takeEnd (b : Nat) (ao : Option Addr) (cp : Nat) (l : List Int) (a : Nat) (w : World) (hR : (RdR 135 23 b ao cp l a).holds w) (hl : l.length ≤ 35184372088832) (hlt : a = l.length) : Ret Try.prog 105 #[.pointer (some ⟨b, 0, none⟩), .int .i64 0, .int .i64 0] w (fun v w' => v = .tuple #[.slice none 0 0, str [], .int .i64 14] ∧ St w (RdR 135 23 b ao cp l a).foot [RdR 135 23 b ao cp l a] [] w') := by
 refine Ret.enter (args := [.pointer (some ⟨b, 0, none⟩), .int .i64 0, .int .i64 0]) Try.func105 rfl rfl rfl ?_
 have hst : St w (RdR 135 23 b ao cp l a).foot [RdR 135 23 b ao cp l a] [] w := St.enter1 hR (fun d hd => by cases hd) (fun d hd => by cases hd)
 replace hst : St _ _ [_, _] _ _ := hst.unpack
 have hcap : l.length ≤ cp := Res.sl_cap (hst.hL _ (.tail _ (.head _)))
 have hsepR := hR.2
 refine SR <| AL rfl <| AS rfl <| AI rfl <| NL <| SQ <| SR <| MP rfl <| CN <| Op1.eqlPN ty90 rfl rfl <| NL <| run_cond_false (congrArg Value.bool (rfl : false = _)) <| run_skip <| SQ ?_
 refine RG <| AS rfl <| AI rfl <| NL <| SQ <| SR <| MI rfl <| NL <| run_block <| SR <| CN <| Op1.eql rfl rfl <| AB rfl <| NL ?_
 refine run_cond_dec rfl (fun g1 => ?_) (fun g1 => ?_)
 · skip
   refine RG <| AI rfl <| NL <| run_inBlock <| SQ <| SR <| MI rfl <| CN <| Op1.eql rfl rfl <| MB rfl <| RunL.splitD (d := 39) rfl (fun g2 => ?_) (fun g2 => ?_)
   · skip
     refine TK (t := 39) rfl (congrArg Value.bool (decide_eq_true g2)) <| Op1.move (v := .int .i64 _) rfl <| TK (t := 39) rfl (congrArg Value.bool (decide_eq_true g2)) <| Op1.move (v := .pointer (some ⟨_, _, none⟩)) rfl <| TK (t := 39) rfl (congrArg Value.bool (decide_eq_true g2)) (Op1.call1 (v1 := .pointer (some ⟨_, _, none⟩)) ent56 rfl rfl ((R3wd_Left b _ _ l a _ ⟨(fun r hr => by cases hr with | head => exact (hst.hL _ (.head _)) | tail _ hr => cases hr with | head => exact (hst.hL _ (.tail _ (.head _))) | tail _ h => cases h), hsepR⟩ (by omega) (by omega)).mono fun v w hp => ?_))
     obtain ⟨rfl, hp⟩ := hp
     replace hst := hst.keepc hp
     clear hp
     refine TK (t := 39) rfl (congrArg Value.bool (decide_eq_true g2)) <| Op1.gtr rfl rfl <| CN <| Op1.pickT (u := .bool _) (congrArg Value.bool (decide_eq_true g2)) rfl <| NL <| Run.forget [(0, .pointer (some ⟨_, _, none⟩)), (2, .int .i64 _), (9, str _), (10, .int .i64 _), (44, .bool _)] ⟨rfl, rfl, rfl, rfl, rfl, trivial⟩ fun f => run_cond_dec rfl (fun g3 => ?_) (fun g3 => ?_)
     · skip
       refine RG <| AI rfl <| NL <| SQ <| SR <| MI rfl <| CN <| Op1.neq rfl rfl <| NL <| run_cond_dec rfl (fun g4 => ?_) (fun g4 => ?_)
       · skip
         refine SR <| MI rfl <| AL rfl <| AS rfl <| AI rfl <| NL <| run_ret3 Try.func105 rfl (TP (v := .slice _ _ _) rfl) (TP (v := str _) rfl) (TP (v := .int .i64 _) rfl) ?_
         replace hst := hst.pick (.cons (.here) (.cons (.here) .nil))
         exact ⟨rfl, (St.pack (L1 := [_, _]) (L2 := []) hst)⟩
       exfalso
       exact g4 (by decide)
     exfalso
     omega
   exfalso
   exact g2 rfl
 exfalso
 exact g1 rfl
end Go.SK
namespace Go.SK
open Go Go.Proofs
theorem ent105 : Enters Try.prog 105 := ⟨Try.f105, _, Try.func105, by kernel_rfl, rfl⟩
end Go.SK
namespace Go.SK
open Go Go.Proofs
open Go.RowKit
theorem R3wd_WordOk (b : Nat) (ao : Option Addr) (cp : Nat) (l : List Int) (a : Nat) (w : World) (hR : (RdR 135 23 b ao cp l a).holds w) (hl : l.length ≤ 35184372088832) (hlt : a < l.length) : Ret Try.prog 84 #[.pointer (some ⟨b, 0, none⟩)] w (fun v w' => v = .tuple #[.int .u32 (l.getD a 0), .int .i64 0] ∧ St w (RdR 135 23 b ao cp l a).foot [RdR 135 23 b ao cp l (a + 1)] [] w') := by
 refine Ret.enter (args := [.pointer (some ⟨b, 0, none⟩)]) Try.func84 rfl rfl rfl ?_
 have hst : St w (RdR 135 23 b ao cp l a).foot [RdR 135 23 b ao cp l a] [] w := St.enter1 hR (fun d hd => by cases hd) (fun d hd => by cases hd)
 refine SR <| AU rfl <| AI rfl <| NSR <| MP rfl <| CN (Op1.call3 (v1 := .pointer (some ⟨_, _, none⟩)) (v2 := .int .i64 _) (v3 := .int .i64 _) ent105 rfl rfl rfl rfl ((R3wd_takeWord _ _ _ l a _ (hst.hL _ (.head _)) (by omega) hlt).mono fun v w hp => ?_))
 obtain ⟨roT, rcT, rfl, hp⟩ := hp
 replace hst : St _ _ (_ :: _ :: _) _ _ := hst.call1 hp
 clear hp
 refine CN <| Op1.move (v := .tuple #[.slice _ _ _, str _, .int .i64 _]) rfl <| CN <| Op1.extract (v := .slice _ _ _) rfl rfl <| CN <| Op1.extract (v := str _) rfl rfl <| CN <| Op1.extract (v := .int .i64 _) rfl rfl <| AL rfl <| AS rfl <| AI rfl <| NL <| SQ <| SR <| MI rfl <| CN <| Op1.neq rfl rfl <| NL <| run_cond_dec rfl (fun g1 => ?_) (fun g1 => ?_)
 · skip
   exfalso
   exact g1 rfl
 refine run_skip <| SR <| ML rfl ?_
 obtain ⟨bs2, rfl⟩ := Res.sl_some (hst.hL _ (.tail _ (.head _))) (by omega)
 refine CN <| Op1.indexSl ty43 ty23 rfl rfl (by omega) (by omega) <| CN <| Op1.load1 (v := .int .u32 _) ty23 rfl rfl (Res.sl_cell (hst.hL _ (.tail _ (.head _))) (flat_cell0 (g := u32C) (d := 0) u32C_len rfl (by simp))) <| AU rfl <| AI rfl <| NL <| run_ret2 Try.func84 rfl (TP (v := .int .u32 _) rfl) (TP (v := .int .i64 _) rfl) ?_
 replace hst := hst.pick (.cons (.here) .nil)
 exact ⟨rfl, hst⟩
theorem R3wd_WordEnd (b : Nat) (ao : Option Addr) (cp : Nat) (l : List Int) (a : Nat) (w : World) (hR : (RdR 135 23 b ao cp l a).holds w) (hl : l.length ≤ 35184372088832) (hlt : a = l.length) : Ret Try.prog 84 #[.pointer (some ⟨b, 0, none⟩)] w (fun v w' => v = .tuple #[.int .u32 0, .int .i64 14] ∧ St w (RdR 135 23 b ao cp l a).foot [RdR 135 23 b ao cp l a] [] w') := by
 refine Ret.enter (args := [.pointer (some ⟨b, 0, none⟩)]) Try.func84 rfl rfl rfl ?_
 have hst : St w (RdR 135 23 b ao cp l a).foot [RdR 135 23 b ao cp l a] [] w := St.enter1 hR (fun d hd => by cases hd) (fun d hd => by cases hd)
 refine SR <| AU rfl <| AI rfl <| NSR <| MP rfl <| CN (Op1.call3 (v1 := .pointer (some ⟨_, _, none⟩)) (v2 := .int .i64 _) (v3 := .int .i64 _) ent105 rfl rfl rfl rfl ((R3wd_takeEnd _ _ _ l a _ (hst.hL _ (.head _)) (by omega) hlt).mono fun v w hp => ?_))
 obtain ⟨rfl, hp⟩ := hp
 replace hst : St _ _ (_ :: _) _ _ := hst.call1 hp
 clear hp
 refine CN <| Op1.move (v := .tuple #[.slice _ _ _, str _, .int .i64 _]) rfl <| CN <| Op1.extract (v := .slice _ _ _) rfl rfl <| CN <| Op1.extract (v := str _) rfl rfl <| CN <| Op1.extract (v := .int .i64 _) rfl rfl <| AL rfl <| AS rfl <| AI rfl <| NL <| SQ <| SR <| MI rfl <| CN <| Op1.neq rfl rfl <| NL <| run_cond_dec rfl (fun g1 => ?_) (fun g1 => ?_)
 · skip
   refine SR <| MI rfl <| AU rfl <| AI rfl <| NL <| run_ret2 Try.func84 rfl (TP (v := .int .u32 _) rfl) (TP (v := .int .i64 _) rfl) ?_
   replace hst := hst.pick (.cons (.here) .nil)
   exact ⟨rfl, hst⟩
 exfalso
 exact g1 (by decide)
end Go.SK
namespace Go.SK
open Go Go.Proofs
theorem ent113 : Enters Try.prog 113 := ⟨Try.f113, _, Try.func113, by kernel_rfl, rfl⟩
end Go.SK
namespace Go.SK
open Go Go.Proofs
open Go.RowKit
theorem R3wd_Text2 {l : List Int} {xs : List Value} {m : Nat} {s : List UInt8} {n e : Int} (ao : Option Addr) (cp : Nat) (w : World) (hm : m = l.length) (hx : xs = l.flatMap u32C) (ht : textF l = (s, n, e)) (hA : (Res.rs ao m 1 xs).holds w) (hl : l.length ≤ 35184372088832) : Ret Try.prog 113 #[.slice ao m cp] w (fun v w' => v = .tuple #[str s, .int .i64 n, .int .i64 e] ∧ St w NoM [] [] w') := by
 subst hm; subst hx; exact (R3wd_Text l ao cp w hA hl).mono fun v w' h => ⟨h.1.trans (by rw [ht]), h.2⟩
theorem R3wd_takeTextOk (b : Nat) (ao : Option Addr) (cp : Nat) (l : List Int) (a : Nat) (s : List UInt8) (n : Nat) (w : World) (hR : (RdR 135 23 b ao cp l a).holds w) (hl : l.length ≤ 35184372088832) (ht : textF (l.drop a) = (s, (n : Int), 0)) (hn : a + n ≤ l.length) : Ret Try.prog 105 #[.pointer (some ⟨b, 0, none⟩), .int .i64 1, .int .i64 0] w (fun v w' => ∃ ro rc, v = .tuple #[.slice ro n rc, str s, .int .i64 0] ∧ St w (RdR 135 23 b ao cp l a).foot [RdR 135 23 b ao cp l (a + n), Res.sl ro n rc 23 1 (((l.drop a).take n).flatMap u32C)] [] w') := by
 refine Ret.enter (args := [.pointer (some ⟨b, 0, none⟩), .int .i64 1, .int .i64 0]) Try.func105 rfl rfl rfl ?_
 have hst : St w (RdR 135 23 b ao cp l a).foot [RdR 135 23 b ao cp l a] [] w := St.enter1 hR (fun d hd => by cases hd) (fun d hd => by cases hd)
 replace hst : St _ _ [_, _] _ _ := hst.unpack
 have hcap : l.length ≤ cp := Res.sl_cap (hst.hL _ (.tail _ (.head _)))
 have hsepR := hR.2
 have hdl : (l.drop a).length = l.length - a := List.length_drop
 refine SR <| AL rfl <| AS rfl <| AI rfl <| NL <| SQ <| SR <| MP rfl <| CN <| Op1.eqlPN ty90 rfl rfl <| NL <| run_cond_false (congrArg Value.bool (rfl : false = _)) <| run_skip <| SQ ?_
 refine RG <| AS rfl <| AI rfl <| NL <| SQ <| SR <| MI rfl <| NL <| run_block <| SR <| CN <| Op1.eql rfl rfl <| AB rfl <| NL ?_
 refine run_cond_dec rfl (fun g1 => ?_) (fun g1 => ?_)
 · skip
   exfalso
   cases g1
 refine SR <| CN <| Op1.eql rfl rfl <| AB rfl <| NL <| run_cond_dec rfl (fun g2 => ?_) (fun g2 => ?_)
 · skip
   refine RunD.start [] hst (bs := [0, 1, 3, 7, 0, 16, 48, 112, 255, 511, 1023, 2047, 2047, 2047, 4095, 24575, 65535]) (ds := [some 20, some 21, some 22, some 23, some 24, some 25, some 26, some 27, some 28, some 29, some 19, some 30, some 31, some 32, some 9, some 2, some 10]) ⟨by kernel_rfl, by kernel_rfl, by kernel_rfl⟩ (fun tab3 => ?_)
   refine RunD.op (det _) tab3 1 (fun f' L' w' hc => Op1.move (v := .pointer (some ⟨_, _, none⟩)) (hc.old (v := .pointer (some ⟨_, _, none⟩)) rfl rfl rfl) ⟨[], ⟨rfl, rfl⟩, hc.st⟩) <| RunD.op (det _) tab3 2 (fun f' L' w' hc => Op1.nilCheckP (hc.det (j := 0) rfl rfl rfl rfl) ⟨[], ⟨rfl, rfl⟩, hc.st⟩) <| RunD.op (det _) tab3 3 (fun f' L' w' hc => Op1.fieldAddr fld135_0 (hc.det (j := 1) rfl rfl rfl rfl) ⟨[], ⟨rfl, rfl⟩, hc.st⟩) <| RunD.op (det _) tab3 4 (fun f' L' w' hc => Op1.load1 (v := .slice _ _ _) ty43 rfl (hc.det (j := 2) rfl rfl rfl rfl) (hc.st.cellL (List.mem_append_right _ (.head _)) rfl) ⟨[], ⟨rfl, rfl⟩, hc.st⟩) <| RunD.op (det _) tab3 5 (fun f' L' w' hc => Op1.move (v := .pointer (some ⟨_, _, none⟩)) (hc.old (v := .pointer (some ⟨_, _, none⟩)) rfl rfl rfl) ⟨[], ⟨rfl, rfl⟩, hc.st⟩) <| RunD.op (det _) tab3 6 (fun f' L' w' hc => Op1.nilCheckP (hc.det (j := 4) rfl rfl rfl rfl) ⟨[], ⟨rfl, rfl⟩, hc.st⟩) <| RunD.op (det _) tab3 7 (fun f' L' w' hc => Op1.fieldAddr fld135_1 (hc.det (j := 5) rfl rfl rfl rfl) ⟨[], ⟨rfl, rfl⟩, hc.st⟩) <| RunD.op (det _) tab3 8 (fun f' L' w' hc => Op1.load1 (v := .int .i64 _) ty3 rfl (hc.det (j := 6) rfl rfl rfl rfl) (hc.st.cellL (List.mem_append_right _ (.head _)) rfl) ⟨[], ⟨rfl, rfl⟩, hc.st⟩) <| RunD.op (det _) tab3 9 (fun f' L' w' hc => Op1.sliceSlF (lo := a) (n := l.length) (cap := cp) ty43 ty23 (hc.det (j := 3) rfl rfl rfl rfl) (hc.det (j := 7) rfl rfl rfl rfl) rfl (by omega) ⟨[], ⟨rfl, rfl⟩, hc.st⟩) <| RunD.op (det _) tab3 10 (fun f' L' w' hc => Op1.call1 (v1 := .slice _ _ _) ent113 rfl (hc.det (j := 8) rfl rfl rfl rfl) ((R3wd_Text2 (l := l.drop a) _ _ _ hdl.symm rfl ht (rs_from (Res.rs_of_sl (hc.st.hL _ (List.mem_append_right _ (.tail _ (.head _))))) (by omega) hcap) (by omega)).mono fun v w hp => ⟨[], ⟨hp.1, rfl⟩, hc.st.keepc hp.2⟩)) <| RunD.op (det _) tab3 11 (fun f' L' w' hc => Op1.move (v := .tuple #[str _, .int .i64 _, .int .i64 _]) (hc.det (j := 9) rfl rfl rfl rfl) ⟨[], ⟨rfl, rfl⟩, hc.st⟩) <| RunD.op (det _) tab3 12 (fun f' L' w' hc => Op1.extract (v := str _) (hc.det (j := 10) rfl rfl rfl rfl) rfl ⟨[], ⟨rfl, rfl⟩, hc.st⟩) <| RunD.op (det _) tab3 13 (fun f' L' w' hc => Op1.extract (v := .int .i64 _) (hc.det (j := 10) rfl rfl rfl rfl) rfl ⟨[], ⟨rfl, rfl⟩, hc.st⟩) <| RunD.op (det _) tab3 14 (fun f' L' w' hc => Op1.extract (v := .int .i64 _) (hc.det (j := 10) rfl rfl rfl rfl) rfl ⟨[], ⟨rfl, rfl⟩, hc.st⟩) <| RunD.op (det _) tab3 15 (fun f' L' w' hc => Op1.assign (v := str _) (hc.det (j := 11) rfl rfl rfl rfl) ⟨[], ⟨rfl, rfl⟩, hc.st⟩) ?_
   refine RunD.op (det _) tab3 16 (fun f' L' w' hc => Op1.assign (v := .int .i64 _) (hc.det (j := 12) rfl rfl rfl rfl) ⟨[], ⟨rfl, rfl⟩, hc.st⟩) <| RunD.fin followsMixed tab3 hst rfl (fun f4 w R7 hs5 hd6 hr8 hst => ?_)
   obtain ⟨h20_, r0⟩ := hd6 0 20 rfl rfl
   obtain ⟨h21_, r1⟩ := hd6 1 21 rfl rfl
   obtain ⟨h22_, r2⟩ := hd6 2 22 rfl rfl
   obtain ⟨h23_, r3⟩ := hd6 3 23 rfl rfl
   obtain ⟨h24_, r4⟩ := hd6 4 24 rfl rfl
   obtain ⟨h25_, r5⟩ := hd6 5 25 rfl rfl
   obtain ⟨h26_, r6⟩ := hd6 6 26 rfl rfl
   obtain ⟨h27_, r7⟩ := hd6 7 27 rfl rfl
   obtain ⟨h28_, r8⟩ := hd6 8 28 rfl rfl
   obtain ⟨h29_, r9⟩ := hd6 9 29 rfl rfl
   obtain ⟨h19_, r10⟩ := hd6 10 19 rfl rfl
   obtain ⟨h30_, r11⟩ := hd6 11 30 rfl rfl
   obtain ⟨h31_, r12⟩ := hd6 12 31 rfl rfl
   obtain ⟨h32_, r13⟩ := hd6 13 32 rfl rfl
   obtain ⟨h9_, r14⟩ := hd6 14 9 rfl rfl
   obtain ⟨h2_, r15⟩ := hd6 15 2 rfl rfl
   simp only [show List.range 16 = [0, 1, 2, 3, 4, 5, 6, 7, 8, 9, 10, 11, 12, 13, 14, 15] from rfl, List.flatMap_cons, List.flatMap_nil, List.map_cons, List.map_nil, r0, r1, r2, r3, r4, r5, r6, r7, r8, r9, r10, r11, r12, r13, r14, r15, List.nil_append, List.append_nil, List.cons_append] at hst
   refine RunL.slots (sl := [(0, .pointer (some ⟨_, _, none⟩)), (2, .int .i64 _), (9, str _), (32, .int .i64 _)]) ⟨(hs5 0 rfl).trans rfl, h2_, h9_, h32_, trivial⟩ ?_
   clear hs5 hd6 hr8 tab3
   refine AI rfl <| NL <| run_inBlock <| Run.forget [(0, .pointer (some ⟨_, _, none⟩)), (2, .int .i64 _), (9, str _), (10, .int .i64 _)] ⟨rfl, rfl, rfl, rfl, trivial⟩ fun f => SQ <| SR <| MI rfl <| CN <| Op1.eql rfl rfl <| MB rfl <| RunL.splitD (d := 39) rfl (fun g9 => ?_) (fun g9 => ?_)
   · skip
     refine TK (t := 39) rfl (congrArg Value.bool (decide_eq_true g9)) <| Op1.move (v := .int .i64 _) rfl <| TK (t := 39) rfl (congrArg Value.bool (decide_eq_true g9)) <| Op1.move (v := .pointer (some ⟨_, _, none⟩)) rfl <| TK (t := 39) rfl (congrArg Value.bool (decide_eq_true g9)) (Op1.call1 (v1 := .pointer (some ⟨_, _, none⟩)) ent56 rfl rfl ((R3wd_Left b _ _ l a _ ⟨(fun r hr => by cases hr with | head => exact (hst.hL _ (.head _)) | tail _ hr => cases hr with | head => exact (hst.hL _ (.tail _ (.head _))) | tail _ h => cases h), hsepR⟩ (by omega) (by omega)).mono fun v w hp => ?_))
     obtain ⟨rfl, hp⟩ := hp
     replace hst := hst.keepc hp
     clear hp
     refine TK (t := 39) rfl (congrArg Value.bool (decide_eq_true g9)) <| Op1.gtr rfl rfl <| CN <| Op1.pickT (u := .bool _) (congrArg Value.bool (decide_eq_true g9)) rfl <| NL <| run_cond_dec rfl (fun g10 => ?_) (fun g10 => ?_)
     · skip
       exfalso
       omega
     refine run_skip <| SQ <| SR <| MI rfl <| CN <| Op1.neq rfl rfl <| NL <| run_cond_dec rfl (fun g11 => ?_) (fun g11 => ?_)
     · skip
       exfalso
       exact g11 rfl
     refine run_skip <| SQ <| RunD.start [] hst (bs := [0, 1, 3, 7, 0, 16, 48, 112, 0, 256, 768, 1792, 0, 7936, 16383, 32767, 65535]) (ds := [some 48, some 49, some 50, some 51, some 52, some 53, some 54, some 55, some 56, some 57, some 58, some 59, some 60, some 61, some 62, some 63, some 11]) ⟨by kernel_rfl, by kernel_rfl, by kernel_rfl⟩ (fun tab12 => ?_)
     refine RunD.op (det _) tab12 1 (fun f' L' w' hc => Op1.move (v := .pointer (some ⟨_, _, none⟩)) (hc.old (v := .pointer (some ⟨_, _, none⟩)) rfl rfl rfl) ⟨[], ⟨rfl, rfl⟩, hc.st⟩) <| RunD.op (det _) tab12 2 (fun f' L' w' hc => Op1.nilCheckP (hc.det (j := 0) rfl rfl rfl rfl) ⟨[], ⟨rfl, rfl⟩, hc.st⟩) <| RunD.op (det _) tab12 3 (fun f' L' w' hc => Op1.fieldAddr fld135_0 (hc.det (j := 1) rfl rfl rfl rfl) ⟨[], ⟨rfl, rfl⟩, hc.st⟩) <| RunD.op (det _) tab12 4 (fun f' L' w' hc => Op1.load1 (v := .slice _ _ _) ty43 rfl (hc.det (j := 2) rfl rfl rfl rfl) (hc.st.cellL (List.mem_append_right _ (.head _)) rfl) ⟨[], ⟨rfl, rfl⟩, hc.st⟩) <| RunD.op (det _) tab12 5 (fun f' L' w' hc => Op1.move (v := .pointer (some ⟨_, _, none⟩)) (hc.old (v := .pointer (some ⟨_, _, none⟩)) rfl rfl rfl) ⟨[], ⟨rfl, rfl⟩, hc.st⟩) <| RunD.op (det _) tab12 6 (fun f' L' w' hc => Op1.nilCheckP (hc.det (j := 4) rfl rfl rfl rfl) ⟨[], ⟨rfl, rfl⟩, hc.st⟩) <| RunD.op (det _) tab12 7 (fun f' L' w' hc => Op1.fieldAddr fld135_1 (hc.det (j := 5) rfl rfl rfl rfl) ⟨[], ⟨rfl, rfl⟩, hc.st⟩) <| RunD.op (det _) tab12 8 (fun f' L' w' hc => Op1.load1 (v := .int .i64 _) ty3 rfl (hc.det (j := 6) rfl rfl rfl rfl) (hc.st.cellL (List.mem_append_right _ (.head _)) rfl) ⟨[], ⟨rfl, rfl⟩, hc.st⟩) <| RunD.op (det _) tab12 9 (fun f' L' w' hc => Op1.move (v := .pointer (some ⟨_, _, none⟩)) (hc.old (v := .pointer (some ⟨_, _, none⟩)) rfl rfl rfl) ⟨[], ⟨rfl, rfl⟩, hc.st⟩) <| RunD.op (det _) tab12 10 (fun f' L' w' hc => Op1.nilCheckP (hc.det (j := 8) rfl rfl rfl rfl) ⟨[], ⟨rfl, rfl⟩, hc.st⟩) <| RunD.op (det _) tab12 11 (fun f' L' w' hc => Op1.fieldAddr fld135_1 (hc.det (j := 9) rfl rfl rfl rfl) ⟨[], ⟨rfl, rfl⟩, hc.st⟩) <| RunD.op (det _) tab12 12 (fun f' L' w' hc => Op1.load1 (v := .int .i64 _) ty3 rfl (hc.det (j := 10) rfl rfl rfl rfl) (hc.st.cellL (List.mem_append_right _ (.head _)) rfl) ⟨[], ⟨rfl, rfl⟩, hc.st⟩) <| RunD.op (det _) tab12 13 (fun f' L' w' hc => Op1.move (v := .int .i64 _) (hc.old (v := .int .i64 _) rfl rfl rfl) ⟨[], ⟨rfl, rfl⟩, hc.st⟩) <| RunD.op (det _) tab12 14 (fun f' L' w' hc => Op1.addN (hc.det (j := 11) rfl rfl rfl rfl) (hc.det (j := 12) rfl rfl rfl rfl) rfl (wrap_i64 (by omega) (by omega)) ⟨[], ⟨rfl, rfl⟩, hc.st⟩) <| RunD.fin followsMixed tab12 hst rfl (fun f13 w R16 hs14 hd15 hr17 hst => ?_)
     obtain ⟨h48_, r0⟩ := hd15 0 48 rfl rfl
     obtain ⟨h49_, r1⟩ := hd15 1 49 rfl rfl
     obtain ⟨h50_, r2⟩ := hd15 2 50 rfl rfl
     obtain ⟨h51_, r3⟩ := hd15 3 51 rfl rfl
     obtain ⟨h52_, r4⟩ := hd15 4 52 rfl rfl
     obtain ⟨h53_, r5⟩ := hd15 5 53 rfl rfl
     obtain ⟨h54_, r6⟩ := hd15 6 54 rfl rfl
     obtain ⟨h55_, r7⟩ := hd15 7 55 rfl rfl
     obtain ⟨h56_, r8⟩ := hd15 8 56 rfl rfl
     obtain ⟨h57_, r9⟩ := hd15 9 57 rfl rfl
     obtain ⟨h58_, r10⟩ := hd15 10 58 rfl rfl
     obtain ⟨h59_, r11⟩ := hd15 11 59 rfl rfl
     obtain ⟨h60_, r12⟩ := hd15 12 60 rfl rfl
     obtain ⟨h61_, r13⟩ := hd15 13 61 rfl rfl
     simp only [show List.range 14 = [0, 1, 2, 3, 4, 5, 6, 7, 8, 9, 10, 11, 12, 13] from rfl, List.flatMap_cons, List.flatMap_nil, List.map_cons, List.map_nil, r0, r1, r2, r3, r4, r5, r6, r7, r8, r9, r10, r11, r12, r13, List.nil_append, List.append_nil, List.cons_append] at hst
     refine RunL.slots (sl := [(0, .pointer (some ⟨_, _, none⟩)), (2, .int .i64 _), (9, str _), (51, .slice _ _ _), (55, .int .i64 _), (61, .int .i64 _)]) ⟨(hs14 0 rfl).trans rfl, (hs14 2 rfl).trans rfl, (hs14 9 rfl).trans rfl, h51_, h55_, h61_, trivial⟩ ?_
     clear hs14 hd15 hr17 tab12
     refine CN (Op1.sliceSl2 (lo := a) (hi := a + n) ty43 ty23 rfl rfl rfl rfl (by omega) (by omega) (by omega) ?_)
     replace hst := hst.pushNil 23 1
     refine CN (Op1.appendRs hst ty43 ty23 rfl rfl (.here) rfl rfl (rs_part (Res.rs_of_sl (hst.hL _ (.tail _ (.tail _ (.head _))))) hn hcap) (flat_ok (fun _ => rfl) _) rfl (by omega) fun w aoN cpN hst => ?_)
     rw [show 0 + (a + n - a) = n by omega] at hst ⊢
     refine AL rfl <| NL <| Run.forget [(0, .pointer (some ⟨_, _, none⟩)), (2, .int .i64 _), (9, str _), (11, .slice _ _ _)] ⟨rfl, rfl, rfl, rfl, trivial⟩ fun f => SR <| MP rfl <| CN <| Op1.nilCheckP rfl <| CN <| Op1.fieldAddr fld135_1 rfl <| CN <| Op1.load1 (v := .int .i64 _) ty3 rfl rfl (hst.cellL (.tail _ (.head _)) rfl) <| MI rfl <| CN <| Op1.addN rfl rfl rfl (wrap_i64 (by omega) (by omega)) <| CN <| Op1.nilCheckP rfl <| CN <| Op1.fieldAddr fld135_1 rfl <| CN (SO (v := .int .i64 _) hst ty3 rfl rfl (.there (.here)) fun w hst => ?_)
     refine NSR <| ML rfl <| MS rfl <| AL rfl <| AS rfl <| AI rfl <| NL <| run_ret3 Try.func105 rfl (TP (v := .slice _ _ _) rfl) (TP (v := str _) rfl) (TP (v := .int .i64 _) rfl) ?_
     replace hst := hst.pick (.cons (.there (.here)) (.cons (.there (.here)) (.cons (.here) .nil)))
     exact ⟨_, _, rfl, (St.pack (L1 := [_, _]) (L2 := [_]) hst)⟩
   exfalso
   exact g9 rfl
 exfalso
 exact g2 rfl
theorem R3wd_takeTextErr (b : Nat) (ao : Option Addr) (cp : Nat) (l : List Int) (a : Nat) (e : Int) (w : World) (hR : (RdR 135 23 b ao cp l a).holds w) (hl : l.length ≤ 35184372088832) (ht : textF (l.drop a) = ([], 0, e)) (he : e ≠ 0) (hn : a ≤ l.length) : Ret Try.prog 105 #[.pointer (some ⟨b, 0, none⟩), .int .i64 1, .int .i64 0] w (fun v w' => v = .tuple #[.slice none 0 0, str [], .int .i64 e] ∧ St w (RdR 135 23 b ao cp l a).foot [RdR 135 23 b ao cp l a] [] w') := by
 refine Ret.enter (args := [.pointer (some ⟨b, 0, none⟩), .int .i64 1, .int .i64 0]) Try.func105 rfl rfl rfl ?_
 have hst : St w (RdR 135 23 b ao cp l a).foot [RdR 135 23 b ao cp l a] [] w := St.enter1 hR (fun d hd => by cases hd) (fun d hd => by cases hd)
 replace hst : St _ _ [_, _] _ _ := hst.unpack
 have hcap : l.length ≤ cp := Res.sl_cap (hst.hL _ (.tail _ (.head _)))
 have hsepR := hR.2
 have hdl : (l.drop a).length = l.length - a := List.length_drop
 refine SR <| AL rfl <| AS rfl <| AI rfl <| NL <| SQ <| SR <| MP rfl <| CN <| Op1.eqlPN ty90 rfl rfl <| NL <| run_cond_false (congrArg Value.bool (rfl : false = _)) <| run_skip <| SQ ?_
 refine RG <| AS rfl <| AI rfl <| NL <| SQ <| SR <| MI rfl <| NL <| run_block <| SR <| CN <| Op1.eql rfl rfl <| AB rfl <| NL ?_
 refine run_cond_dec rfl (fun g1 => ?_) (fun g1 => ?_)
 · skip
   exfalso
   cases g1
 refine SR <| CN <| Op1.eql rfl rfl <| AB rfl <| NL <| run_cond_dec rfl (fun g2 => ?_) (fun g2 => ?_)
 · skip
   refine RunD.start [] hst (bs := [0, 1, 3, 7, 0, 16, 48, 112, 255, 511, 1023, 2047, 2047, 2047, 4095, 24575, 65535]) (ds := [some 20, some 21, some 22, some 23, some 24, some 25, some 26, some 27, some 28, some 29, some 19, some 30, some 31, some 32, some 9, some 2, some 10]) ⟨by kernel_rfl, by kernel_rfl, by kernel_rfl⟩ (fun tab3 => ?_)
   refine RunD.op (det _) tab3 1 (fun f' L' w' hc => Op1.move (v := .pointer (some ⟨_, _, none⟩)) (hc.old (v := .pointer (some ⟨_, _, none⟩)) rfl rfl rfl) ⟨[], ⟨rfl, rfl⟩, hc.st⟩) <| RunD.op (det _) tab3 2 (fun f' L' w' hc => Op1.nilCheckP (hc.det (j := 0) rfl rfl rfl rfl) ⟨[], ⟨rfl, rfl⟩, hc.st⟩) <| RunD.op (det _) tab3 3 (fun f' L' w' hc => Op1.fieldAddr fld135_0 (hc.det (j := 1) rfl rfl rfl rfl) ⟨[], ⟨rfl, rfl⟩, hc.st⟩) <| RunD.op (det _) tab3 4 (fun f' L' w' hc => Op1.load1 (v := .slice _ _ _) ty43 rfl (hc.det (j := 2) rfl rfl rfl rfl) (hc.st.cellL (List.mem_append_right _ (.head _)) rfl) ⟨[], ⟨rfl, rfl⟩, hc.st⟩) <| RunD.op (det _) tab3 5 (fun f' L' w' hc => Op1.move (v := .pointer (some ⟨_, _, none⟩)) (hc.old (v := .pointer (some ⟨_, _, none⟩)) rfl rfl rfl) ⟨[], ⟨rfl, rfl⟩, hc.st⟩) <| RunD.op (det _) tab3 6 (fun f' L' w' hc => Op1.nilCheckP (hc.det (j := 4) rfl rfl rfl rfl) ⟨[], ⟨rfl, rfl⟩, hc.st⟩) <| RunD.op (det _) tab3 7 (fun f' L' w' hc => Op1.fieldAddr fld135_1 (hc.det (j := 5) rfl rfl rfl rfl) ⟨[], ⟨rfl, rfl⟩, hc.st⟩) <| RunD.op (det _) tab3 8 (fun f' L' w' hc => Op1.load1 (v := .int .i64 _) ty3 rfl (hc.det (j := 6) rfl rfl rfl rfl) (hc.st.cellL (List.mem_append_right _ (.head _)) rfl) ⟨[], ⟨rfl, rfl⟩, hc.st⟩) <| RunD.op (det _) tab3 9 (fun f' L' w' hc => Op1.sliceSlF (lo := a) (n := l.length) (cap := cp) ty43 ty23 (hc.det (j := 3) rfl rfl rfl rfl) (hc.det (j := 7) rfl rfl rfl rfl) rfl (by omega) ⟨[], ⟨rfl, rfl⟩, hc.st⟩) <| RunD.op (det _) tab3 10 (fun f' L' w' hc => Op1.call1 (v1 := .slice _ _ _) ent113 rfl (hc.det (j := 8) rfl rfl rfl rfl) ((R3wd_Text2 (l := l.drop a) _ _ _ hdl.symm rfl ht (rs_from (Res.rs_of_sl (hc.st.hL _ (List.mem_append_right _ (.tail _ (.head _))))) (by omega) hcap) (by omega)).mono fun v w hp => ⟨[], ⟨hp.1, rfl⟩, hc.st.keepc hp.2⟩)) <| RunD.op (det _) tab3 11 (fun f' L' w' hc => Op1.move (v := .tuple #[str _, .int .i64 _, .int .i64 _]) (hc.det (j := 9) rfl rfl rfl rfl) ⟨[], ⟨rfl, rfl⟩, hc.st⟩) <| RunD.op (det _) tab3 12 (fun f' L' w' hc => Op1.extract (v := str _) (hc.det (j := 10) rfl rfl rfl rfl) rfl ⟨[], ⟨rfl, rfl⟩, hc.st⟩) <| RunD.op (det _) tab3 13 (fun f' L' w' hc => Op1.extract (v := .int .i64 _) (hc.det (j := 10) rfl rfl rfl rfl) rfl ⟨[], ⟨rfl, rfl⟩, hc.st⟩) <| RunD.op (det _) tab3 14 (fun f' L' w' hc => Op1.extract (v := .int .i64 _) (hc.det (j := 10) rfl rfl rfl rfl) rfl ⟨[], ⟨rfl, rfl⟩, hc.st⟩) <| RunD.op (det _) tab3 15 (fun f' L' w' hc => Op1.assign (v := str _) (hc.det (j := 11) rfl rfl rfl rfl) ⟨[], ⟨rfl, rfl⟩, hc.st⟩) ?_
   refine RunD.op (det _) tab3 16 (fun f' L' w' hc => Op1.assign (v := .int .i64 _) (hc.det (j := 12) rfl rfl rfl rfl) ⟨[], ⟨rfl, rfl⟩, hc.st⟩) <| RunD.fin followsMixed tab3 hst rfl (fun f4 w R7 hs5 hd6 hr8 hst => ?_)
   obtain ⟨h20_, r0⟩ := hd6 0 20 rfl rfl
   obtain ⟨h21_, r1⟩ := hd6 1 21 rfl rfl
   obtain ⟨h22_, r2⟩ := hd6 2 22 rfl rfl
   obtain ⟨h23_, r3⟩ := hd6 3 23 rfl rfl
   obtain ⟨h24_, r4⟩ := hd6 4 24 rfl rfl
   obtain ⟨h25_, r5⟩ := hd6 5 25 rfl rfl
   obtain ⟨h26_, r6⟩ := hd6 6 26 rfl rfl
   obtain ⟨h27_, r7⟩ := hd6 7 27 rfl rfl
   obtain ⟨h28_, r8⟩ := hd6 8 28 rfl rfl
   obtain ⟨h29_, r9⟩ := hd6 9 29 rfl rfl
   obtain ⟨h19_, r10⟩ := hd6 10 19 rfl rfl
   obtain ⟨h30_, r11⟩ := hd6 11 30 rfl rfl
   obtain ⟨h31_, r12⟩ := hd6 12 31 rfl rfl
   obtain ⟨h32_, r13⟩ := hd6 13 32 rfl rfl
   obtain ⟨h9_, r14⟩ := hd6 14 9 rfl rfl
   obtain ⟨h2_, r15⟩ := hd6 15 2 rfl rfl
   simp only [show List.range 16 = [0, 1, 2, 3, 4, 5, 6, 7, 8, 9, 10, 11, 12, 13, 14, 15] from rfl, List.flatMap_cons, List.flatMap_nil, List.map_cons, List.map_nil, r0, r1, r2, r3, r4, r5, r6, r7, r8, r9, r10, r11, r12, r13, r14, r15, List.nil_append, List.append_nil, List.cons_append] at hst
   refine RunL.slots (sl := [(0, .pointer (some ⟨_, _, none⟩)), (2, .int .i64 _), (9, str _), (32, .int .i64 _)]) ⟨(hs5 0 rfl).trans rfl, h2_, h9_, h32_, trivial⟩ ?_
   clear hs5 hd6 hr8 tab3
   refine AI rfl <| NL <| run_inBlock <| Run.forget [(0, .pointer (some ⟨_, _, none⟩)), (2, .int .i64 _), (9, str _), (10, .int .i64 _)] ⟨rfl, rfl, rfl, rfl, trivial⟩ fun f => SQ <| SR <| MI rfl <| CN <| Op1.eql rfl rfl <| MB rfl <| RunL.splitD (d := 39) rfl (fun g9 => ?_) (fun g9 => ?_)
   · skip
     exfalso
     exact he g9
   refine OM (t := 39) rfl (congrArg Value.bool (decide_eq_false g9)) rfl <| OM (t := 39) rfl (congrArg Value.bool (decide_eq_false g9)) rfl <| OM (t := 39) rfl (congrArg Value.bool (decide_eq_false g9)) rfl <| OM (t := 39) rfl (congrArg Value.bool (decide_eq_false g9)) rfl <| CN <| Op1.pickF (u := .bool _) (congrArg Value.bool (decide_eq_false g9)) rfl <| NL <| run_cond_false (congrArg Value.bool (rfl : false = _)) <| run_skip <| SQ <| SR <| MI rfl <| CN <| Op1.neq rfl rfl <| NL <| run_cond_dec rfl (fun g10 => ?_) (fun g10 => ?_)
   · skip
     refine SR <| MI rfl <| AL rfl <| AS rfl <| AI rfl <| NL <| run_ret3 Try.func105 rfl (TP (v := .slice _ _ _) rfl) (TP (v := str _) rfl) (TP (v := .int .i64 _) rfl) ?_
     replace hst := hst.pick (.cons (.here) (.cons (.here) .nil))
     exact ⟨rfl, (St.pack (L1 := [_, _]) (L2 := []) hst)⟩
   exfalso
   exact g10 he
 exfalso
 exact g2 rfl
theorem R3wd_RTextOk (b : Nat) (ao : Option Addr) (cp : Nat) (l : List Int) (a : Nat) (s : List UInt8) (n : Nat) (w : World) (hR : (RdR 135 23 b ao cp l a).holds w) (hl : l.length ≤ 35184372088832) (ht : textF (l.drop a) = (s, (n : Int), 0)) (hn : a + n ≤ l.length) : Ret Try.prog 88 #[.pointer (some ⟨b, 0, none⟩)] w (fun v w' => v = .tuple #[str s, .int .i64 0] ∧ St w (RdR 135 23 b ao cp l a).foot [RdR 135 23 b ao cp l (a + n)] [] w') := by
 refine Ret.enter (args := [.pointer (some ⟨b, 0, none⟩)]) Try.func88 rfl rfl rfl ?_
 have hst : St w (RdR 135 23 b ao cp l a).foot [RdR 135 23 b ao cp l a] [] w := St.enter1 hR (fun d hd => by cases hd) (fun d hd => by cases hd)
 refine SR <| AS rfl <| AI rfl <| NSR <| MP rfl <| CN (Op1.call3 (v1 := .pointer (some ⟨_, _, none⟩)) (v2 := .int .i64 _) (v3 := .int .i64 _) ent105 rfl rfl rfl rfl ((R3wd_takeTextOk _ _ _ l a s n _ (hst.hL _ (.head _)) (by omega) ht hn).mono fun v w hp => ?_))
 obtain ⟨roT, rcT, rfl, hp⟩ := hp
 replace hst : St _ _ (_ :: _ :: _) _ _ := hst.call1 hp
 clear hp
 refine CN <| Op1.move (v := .tuple #[.slice _ _ _, str _, .int .i64 _]) rfl <| CN <| Op1.extract (v := .slice _ _ _) rfl rfl <| CN <| Op1.extract (v := str _) rfl rfl <| CN <| Op1.extract (v := .int .i64 _) rfl rfl <| AL rfl <| AS rfl <| AI rfl <| NSR <| MS rfl <| MI rfl <| AS rfl <| AI rfl <| NL ?_
 refine run_ret2 Try.func88 rfl (TP (v := str _) rfl) (TP (v := .int .i64 _) rfl) ?_
 replace hst := hst.pick (.cons (.here) .nil)
 exact ⟨rfl, hst⟩
theorem R3wd_RTextErr (b : Nat) (ao : Option Addr) (cp : Nat) (l : List Int) (a : Nat) (e : Int) (w : World) (hR : (RdR 135 23 b ao cp l a).holds w) (hl : l.length ≤ 35184372088832) (ht : textF (l.drop a) = ([], 0, e)) (he : e ≠ 0) (hn : a ≤ l.length) : Ret Try.prog 88 #[.pointer (some ⟨b, 0, none⟩)] w (fun v w' => v = .tuple #[str [], .int .i64 e] ∧ St w (RdR 135 23 b ao cp l a).foot [RdR 135 23 b ao cp l a] [] w') := by
 refine Ret.enter (args := [.pointer (some ⟨b, 0, none⟩)]) Try.func88 rfl rfl rfl ?_
 have hst : St w (RdR 135 23 b ao cp l a).foot [RdR 135 23 b ao cp l a] [] w := St.enter1 hR (fun d hd => by cases hd) (fun d hd => by cases hd)
 refine SR <| AS rfl <| AI rfl <| NSR <| MP rfl <| CN (Op1.call3 (v1 := .pointer (some ⟨_, _, none⟩)) (v2 := .int .i64 _) (v3 := .int .i64 _) ent105 rfl rfl rfl rfl ((R3wd_takeTextErr _ _ _ l a e _ (hst.hL _ (.head _)) (by omega) ht he hn).mono fun v w hp => ?_))
 obtain ⟨rfl, hp⟩ := hp
 replace hst : St _ _ (_ :: _) _ _ := hst.call1 hp
 clear hp
 refine CN <| Op1.move (v := .tuple #[.slice _ _ _, str _, .int .i64 _]) rfl <| CN <| Op1.extract (v := .slice _ _ _) rfl rfl <| CN <| Op1.extract (v := str _) rfl rfl <| CN <| Op1.extract (v := .int .i64 _) rfl rfl <| AL rfl <| AS rfl <| AI rfl <| NSR <| MS rfl <| MI rfl <| AS rfl <| AI rfl <| NL ?_
 refine run_ret2 Try.func88 rfl (TP (v := str _) rfl) (TP (v := .int .i64 _) rfl) ?_
 replace hst := hst.pick (.cons (.here) .nil)
 exact ⟨rfl, hst⟩
end Go.SK
namespace Go.SK
open Go Go.Proofs
open Go.RowKit
theorem R3wd_Turned  (w : World) : Ret Try.prog 97 #[.int .u32 119734787] w (fun v w' => v = .int .u32 50471687 ∧ St w NoM [] [] w') := by
 refine Ret.enter (args := [.int .u32 119734787]) Try.func97 rfl rfl rfl ?_
 have hst := St.init w
 refine SR <| AU rfl <| NSR <| MU rfl <| CN <| Op1.shlC (n := 24) (c := 50331648) rfl rfl (by decide) (by decide) <| MU rfl <| CN <| Op1.shlC (n := 8) (c := 587334400) rfl rfl (by decide) (by decide) <| CN <| Op1.bits (v := .int .u32 131072) rfl rfl rfl (by rfl) <| CN <| Op1.orN (m1 := 50331648) (m2 := 131072) (c := 50462720) rfl rfl rfl rfl (by decide) (by decide) (by decide) (by decide) <| MU rfl <| CN <| Op1.shrI (c := 467714) rfl rfl (by decide) (by decide) (by decide) <| CN (Op1.bits (v := .int .u32 8960) rfl rfl rfl (by rfl) ?_)
 refine CN <| Op1.orN (m1 := 50462720) (m2 := 8960) (c := 50471680) rfl rfl rfl rfl (by decide) (by decide) (by decide) (by decide) <| MU rfl <| CN <| Op1.shrI (c := 7) rfl rfl (by decide) (by decide) (by decide) <| CN <| Op1.orN (m1 := 50471680) (m2 := 7) (c := 50471687) rfl rfl rfl rfl (by decide) (by decide) (by decide) (by decide) <| AU rfl <| NL <| run_ret1 Try.func97 rfl (TP (v := .int .u32 _) rfl) ?_
 exact ⟨rfl, hst.pure⟩
end Go.SK
namespace Go.SK
open Go Go.Proofs
theorem ty29 : TyF Try.prog 29 (.struct (fieldsOf Try.prog 29)) 2 16 [.int .i64 0, .int .i64 0] := TyF.of (by kernel_rfl) (by kernel_rfl)
theorem ty67 : TyF Try.prog 67 (.slice 45) 1 24 [.slice none 0 0] := TyF.of (by kernel_rfl) (by kernel_rfl)
theorem ty45 : TyF Try.prog 45 (.struct (fieldsOf Try.prog 45)) 2 32 [.int .u16 0, .slice none 0 0] := TyF.of (by kernel_rfl) (by kernel_rfl)
theorem fld45_1 : FldF Try.prog 45 1 1 := FldF.of (n := 0) (by kernel_rfl)
theorem stf29 : StructF Try.prog 29 [(0, 1), (1, 1)] := ⟨fieldsOf Try.prog 29, by kernel_rfl, fun w => by kernel_rfl⟩
end Go.SK
namespace Go.SK
open Go Go.Proofs
open Go.RowKit
theorem R3fr_counted (l : List RawP) (ao : Option Addr) (cp : Nat) (w : World) (hA : (Res.rs ao l.length 2 (l.flatMap rawC)).holds w) (hl : l.length ≤ 35184372088832) (hla : ∀ r ∈ l, r.ws.length ≤ 35184372088832) : Ret Try.prog 76 #[.slice ao l.length cp] w (fun v w' => v = cntV (cntF 5 0 (l.map rawN)) ∧ St w NoM [] [] w') := by
 refine Ret.enter (args := [.slice ao l.length cp]) Try.func76 rfl rfl rfl ?_
 have hst : St w NoM [] [Res.rs ao l.length 2 (l.flatMap rawC)] w := St.init_D hA
 clear hA
 refine SR <| AI rfl <| CN <| Op1.alloc hst ty29 fun w b3 hst => NSR <| AI rfl <| NL <| SQ <| SR <| ML rfl <| CN <| Op1.lenSl (rest := []) ty67 rfl <| MI rfl ?_
 refine NL <| run_block <| run_loop <| Run.indW [(3, .pointer (some ⟨_, _, none⟩)), (7, .slice _ _ _), (8, .int .i64 _)] ⟨rfl, rfl, rfl, trivial⟩ (fun (q : Nat × Nat) => [(4, .int .i64 (q.2 : Int)), (9, .int .i64 (q.1 : Int))]) (fun (q : Nat × Nat) => []) (fun (q : Nat × Nat) => q.1 ≤ l.length ∧ q.2 ≤ 1048576 ∧ cntF 5 0 (l.map rawN) = cntF q.2 q.1 ((l.map rawN).drop q.1)) (fun (q : Nat × Nat) => l.length - q.1) ((0, 5)) hst ⟨Nat.zero_le _, by decide, rfl⟩ ⟨rfl, rfl, trivial⟩ ?_
 intro ⟨i, n⟩ f w hst hJ ih1
 replace hst : St _ _ ([] ++ [_]) _ _ := hst
 replace hJ : i ≤ l.length ∧ n ≤ 1048576 ∧ cntF 5 0 (l.map rawN) = cntF n i ((l.map rawN).drop i) := hJ
 refine Run.slots (sl := [(4, .int .i64 (n : Int)), (9, .int .i64 (i : Int))]) ⟨rfl, rfl, trivial⟩ <| SR <| CN <| Op1.lss rfl rfl <| NL <| SQ <| run_cond_dec rfl (fun g2 => ?_) (fun g2 => ?_)
 · skip
   have hlen := hla _ (getD_memD (d := zeroR) (i := i) (by omega))
   have hidx : (l.getD ((i : Int).toNat) zeroR).ws.length = (l.getD i zeroR).ws.length := rfl
   refine run_skip <| SQ <| run_block <| SR <| MI rfl <| CN <| Op1.indexRs ty67 ty45 (hst.hD _ (.head _)) rfl rfl (by omega) (by omega) <| CN <| Op1.loadA (vs := [.int .u16 _, .slice _ _ _]) ty45 rfl rfl rfl (Res.rs2_cells (m := 2) (hst.hD _ (.head _)) _ (flat_seg (g := rawC) (d := zeroR) rawC_len _ _ (by omega))) <| CN <| Op1.alloc hst ty45 fun w b6 hst => AI rfl <| CN (SO (v := .agg #[.int .u16 _, .slice _ _ _]) hst ty45 rfl rfl (.here) fun w hst => ?_)
   refine NSR <| MI rfl <| CN <| Op1.fieldAddr fld45_1 rfl <| CN <| Op1.load1 (v := .slice _ _ _) ty43 rfl rfl (hst.cellL (.head _) rfl) <| CN <| Op1.lenSl (rest := []) ty43 rfl <| CN <| Op1.addN rfl rfl rfl (wrap_i64 (by omega) (by omega)) <| CN <| Op1.addN rfl rfl rfl (wrap_i64 (by omega) (by omega)) <| AI rfl <| NL <| run_block <| SR <| CN (Op1.fieldAddr fld45_1 rfl ?_)
   refine CN <| Op1.load1 (v := .slice _ _ _) ty43 rfl rfl (hst.cellL (.head _) rfl) <| CN <| Op1.lenSl (rest := []) ty43 rfl <| CN <| Op1.geq rfl rfl <| AB rfl <| NL <| run_cond_dec rfl (fun g3 => ?_) (fun g3 => ?_)
   · skip
     refine SR <| MI rfl <| CN (Op1.buildStruct ty29 stf29 (.c (v := .int .i64 _) rfl (h := (.c (v := .int .i64 _) rfl (h := .nil)))) ?_)
     refine AI rfl <| CN (SO (v := .agg #[.int .i64 _, .int .i64 _]) hst ty29 rfl rfl (.there (.here)) fun w hst => ?_)
     refine NL <| run_ret2 Try.func76 rfl (TP (v := .int .i64 _) rfl) (RV.cellA (vs := [.int .i64 _, .int .i64 _]) rfl ty29 rfl rfl (cells_of_obj (n := 2) (hst.objL (.tail _ (.head _))) _ rfl)) ?_
     rw [hJ.2.2, cnt_count (by omega) (by omega)]
     exact ⟨rfl, hst.pure⟩
   refine SR <| MI rfl <| CN <| Op1.gtr rfl rfl <| AB rfl <| NL <| Run.forget [(3, .pointer (some ⟨_, _, none⟩)), (4, .int .i64 _), (5, .int .i64 _), (7, .slice _ _ _), (8, .int .i64 _), (9, .int .i64 _), (27, .bool _)] ⟨rfl, rfl, rfl, rfl, rfl, rfl, rfl, trivial⟩ fun f => run_cond_dec rfl (fun g4 => ?_) (fun g4 => ?_)
   · skip
     refine SR <| MI rfl <| CN (Op1.buildStruct ty29 stf29 (.c (v := .int .i64 _) rfl (h := (.c (v := .int .i64 _) rfl (h := .nil)))) ?_)
     refine AI rfl <| CN (SO (v := .agg #[.int .i64 _, .int .i64 _]) hst ty29 rfl rfl (.there (.here)) fun w hst => ?_)
     refine NL <| run_ret2 Try.func76 rfl (TP (v := .int .i64 _) rfl) (RV.cellA (vs := [.int .i64 _, .int .i64 _]) rfl ty29 rfl rfl (cells_of_obj (n := 2) (hst.objL (.tail _ (.head _))) _ rfl)) ?_
     rw [hJ.2.2, cnt_large (by omega) (by omega) (by omega)]
     exact ⟨rfl, hst.pure⟩
   refine run_skip <| run_inBlock <| run_inBlock <| RG <| CN <| Op1.addN rfl rfl rfl (wrap_i64 (by omega) (by omega)) <| MI rfl <| NL <| run_inLoop ?_
   replace hst := hst.pick (.cons (.there (.here)) .nil)
   exact ih1 ((i + 1, n + 1 + (l.getD i zeroR).ws.length)) _ w (by (try dsimp only); omega) hst (⟨by (try dsimp only); omega, by (try dsimp only); omega, by (try dsimp only); rw [hJ.2.2, cnt_next (by omega) (by omega) (by omega)]⟩) ⟨rfl, rfl, rfl, trivial⟩ ⟨(congrArg (Value.int .i64) (by (try dsimp only); omega)), (congrArg (Value.int .i64) (by (try dsimp only); omega)), trivial⟩
 obtain rfl : i = l.length := by omega
 refine run_exit (id := 0) rfl <| SR <| MI rfl <| CN (Op1.buildStruct ty29 stf29 .nil ?_)
 refine AI rfl <| CN (SO (v := .agg #[.int .i64 _, .int .i64 _]) hst ty29 rfl rfl (.here) fun w hst => ?_)
 refine NL <| run_ret2 Try.func76 rfl (TP (v := .int .i64 _) rfl) (RV.cellA (vs := [.int .i64 _, .int .i64 _]) rfl ty29 rfl rfl (cells_of_obj (n := 2) (hst.objL (.head _)) _ rfl)) ?_
 rw [hJ.2.2, cnt_end]
 exact ⟨rfl, hst.pure⟩
end Go.SK
namespace Go.SK
open Go Go.Proofs
theorem ent76 : Enters Try.prog 76 := ⟨Try.f76, _, Try.func76, by kernel_rfl, rfl⟩
theorem fld29_0 : FldF Try.prog 29 0 0 := FldF.of (n := 0) (by kernel_rfl)
theorem ty27 : TyF Try.prog 27 (.int .i64) 1 8 [.int .i64 0] := TyF.of (by kernel_rfl) (by kernel_rfl)
end Go.SK
namespace Go.SK
open Go Go.Proofs
open Go.RowKit
theorem R3fr_Size (l : List RawP) (ao : Option Addr) (cp : Nat) (w : World) (hA : (Res.rs ao l.length 2 (l.flatMap rawC)).holds w) (hl : l.length ≤ 35184372088832) (hla : ∀ r ∈ l, r.ws.length ≤ 35184372088832) : Ret Try.prog 75 #[.slice ao l.length cp] w (fun v w' => v = .tuple #[.int .i64 (cntF 5 0 (l.map rawN)).1, .int .i64 (cntF 5 0 (l.map rawN)).2.1] ∧ St w NoM [] [] w') := by
 refine Ret.enter (args := [.slice ao l.length cp]) Try.func75 rfl rfl rfl ?_
 have hst : St w NoM [] [Res.rs ao l.length 2 (l.flatMap rawC)] w := St.init_D hA
 clear hA
 refine SR <| AI rfl <| AI rfl <| NSR <| ML rfl <| CN <| Op1.call1 (v1 := .slice _ _ _) ent76 rfl rfl <| Ret.det (R3fr_counted _ _ _ _ (hst.hD _ (.head _)) hl hla) hst fun w hst => CN <| Op1.move (v := .tuple #[.int .i64 _, .agg #[.int .i64 _, .int .i64 _]]) rfl <| CN <| Op1.extract (v := .int .i64 _) rfl rfl <| CN <| Op1.extract (v := .agg #[.int .i64 _, .int .i64 _]) rfl rfl <| CN <| Op1.alloc hst ty29 fun w b5 hst => AI rfl <| CN (SO (v := .agg #[.int .i64 _, .int .i64 _]) hst ty29 rfl rfl (.here) fun w hst => ?_)
 refine NL <| SQ <| RunD.start [] hst (bs := [0, 0, 2, 1, 15]) (ds := [some 11, some 12, some 13, some 2, some 3]) ⟨by kernel_rfl, by kernel_rfl, by kernel_rfl⟩ (fun tab1 => ?_)
 refine RunD.op (det _) tab1 1 (fun f' L' w' hc => Op1.move (v := .int .i64 _) (hc.old (v := .int .i64 _) rfl rfl rfl) ⟨[], ⟨rfl, rfl⟩, hc.st⟩) <| RunD.op (det _) tab1 2 (fun f' L' w' hc => Op1.fieldAddr fld29_0 (hc.old (v := .pointer (some ⟨_, _, none⟩)) rfl rfl rfl) ⟨[], ⟨rfl, rfl⟩, hc.st⟩) <| RunD.op (det _) tab1 3 (fun f' L' w' hc => Op1.load1 (v := .int .i64 _) ty27 rfl (hc.det (j := 1) rfl rfl rfl rfl) (hc.st.cellL (List.mem_append_right _ (.head _)) rfl) ⟨[], ⟨rfl, rfl⟩, hc.st⟩) <| RunD.op (det _) tab1 4 (fun f' L' w' hc => Op1.assign (v := .int .i64 _) (hc.det (j := 0) rfl rfl rfl rfl) ⟨[], ⟨rfl, rfl⟩, hc.st⟩) <| RunD.fin followsMixed tab1 hst rfl (fun f2 w R5 hs3 hd4 hr6 hst => ?_)
 obtain ⟨h11_, r0⟩ := hd4 0 11 rfl rfl
 obtain ⟨h12_, r1⟩ := hd4 1 12 rfl rfl
 obtain ⟨h13_, r2⟩ := hd4 2 13 rfl rfl
 obtain ⟨h2_, r3⟩ := hd4 3 2 rfl rfl
 simp only [show List.range 4 = [0, 1, 2, 3] from rfl, List.flatMap_cons, List.flatMap_nil, List.map_cons, List.map_nil, r0, r1, r2, r3, List.nil_append, List.append_nil, List.cons_append] at hst
 refine RunL.slots (sl := [(2, .int .i64 _), (13, .int .i64 _)]) ⟨h2_, h13_, trivial⟩ ?_
 clear hs3 hd4 hr6 tab1
 refine AI rfl <| NL <| run_ret2 Try.func75 rfl (TP (v := .int .i64 _) rfl) (TP (v := .int .i64 _) rfl) ?_
 exact ⟨rfl, hst.pure⟩
end Go.SK
namespace Go.SK
open Go Go.Proofs
open Go.RowKit
theorem R3fr_Clone (l : List Int) (ad : Addr) (cp : Nat) (w : World) (hA : (Res.rs (some ad) l.length 1 (l.flatMap u32C)).holds w) (hl : l.length ≤ 35184372088832) : Ret Try.prog 112 #[.slice (some ad) l.length cp] w (fun v w' => ∃ ro rc, v = .slice ro l.length rc ∧ St w NoM [Res.sl ro l.length rc 23 1 (l.flatMap u32C)] [] w') := by
 refine Ret.enter (args := [.slice (some ad) l.length cp]) Try.func112 rfl rfl rfl ?_
 have hst : St w NoM [] [Res.rs (some ad) l.length 1 (l.flatMap u32C)] w := St.init_D hA
 clear hA
 refine SR <| AL rfl <| NL <| SQ <| SR <| ML rfl <| CN <| Op1.eqlSN ty43 rfl rfl <| NL <| run_cond_false (congrArg Value.bool (rfl : false = _)) <| run_skip <| SR <| CN (Op1.buildSl0 hst ty43 ty23 fun w b5 hst => ?_)
 refine ML rfl ?_
 replace hst := St.rowSl (n := 0) (es := 1) hst rfl (Nat.zero_le _)
 refine CN (Op1.appendRs hst ty43 ty23 rfl rfl (.here) rfl rfl (hst.hD _ (.head _)) (flat_ok (fun _ => rfl) _) rfl (by omega) fun w aoW cpW hst => ?_)
 rw [List.nil_append, Nat.zero_add l.length] at hst
 rw [Nat.zero_add l.length]
 refine AL rfl <| NL <| run_ret1 Try.func112 rfl (TP (v := .slice _ _ _) rfl) ?_
 replace hst := hst.pick (.cons (.here) .nil)
 exact ⟨_, _, rfl, hst.noD⟩
end Go.SK
namespace Go.SK
open Go Go.Proofs
theorem stf45 : StructF Try.prog 45 [(0, 1), (1, 1)] := ⟨fieldsOf Try.prog 45, by kernel_rfl, fun w => by kernel_rfl⟩
theorem ty42 : TyF Try.prog 42 (.int .u16) 1 2 [.int .u16 0] := TyF.of (by kernel_rfl) (by kernel_rfl)
theorem ent112 : Enters Try.prog 112 := ⟨Try.f112, _, Try.func112, by kernel_rfl, rfl⟩
end Go.SK
namespace Go.SK
open Go Go.Proofs
open Go.RowKit
theorem R3fr_Clone2 {l : List Int} {ao : Option Addr} {xs : List Value} {m : Nat} (cp : Nat) (w : World) (hm : m = l.length) (hx : xs = l.flatMap u32C) (hs : ∃ a, ao = some a) (hA : (Res.rs ao m 1 xs).holds w) (hl : m ≤ 35184372088832) : Ret Try.prog 112 #[.slice ao m cp] w (fun v w' => ∃ ro rc, v = .slice ro m rc ∧ St w NoM [Res.sl ro m rc 23 1 xs] [] w') := by
 subst hm; subst hx; obtain ⟨a, rfl⟩ := hs; exact R3fr_Clone l a cp w hA hl
theorem R3fr_nextNo (l : List Int) (hw : Wd l) (ao : Option Addr) (cp : Nat) (a : Nat) (ha : a < l.length) (he : (endsF l a).2 = false) (w : World) (hA : (Res.rs ao l.length 1 (l.flatMap u32C)).holds w) (hl : l.length ≤ 35184372088832) : Ret Try.prog 99 #[.slice ao l.length cp, .int .i64 (a : Int)] w (fun v w' => v = .tuple #[.agg #[.int .u16 0, .slice none 0 0], .int .i64 0] ∧ St w NoM [] [] w') := by
 refine Ret.enter (args := [.slice ao l.length cp, .int .i64 (a : Int)]) Try.func99 rfl rfl rfl ?_
 have hst : St w NoM [] [Res.rs ao l.length 1 (l.flatMap u32C)] w := St.init_D hA
 clear hA
 have hx := hw.get a
 have hx2 := hw.get ((a : Int).toNat)
 have hd : l.getD a 0 / 65536 = 0 ∨ l.getD a 0 / 65536 > (l.length : Int) - a := by
   unfold endsF at he; split at he
   · assumption
   · cases he
 have hidx : l.getD ((a : Int)).toNat 0 = l.getD a 0 := rfl
 refine SR <| CN <| Op1.alloc hst ty45 fun w b4 hst => AI rfl <| NSR <| ML rfl <| MI rfl <| CN <| Op1.indexRs ty43 ty23 (hst.hD _ (.head _)) rfl rfl (by omega) (by omega) <| CN <| Op1.load1 (v := .int .u32 _) ty23 rfl rfl (Res.rs2_cell (hst.hD _ (.head _)) (flat_cell0 (g := u32C) (d := 0) u32C_len rfl (by omega))) <| CN (Op1.shrI (c := _ / 65536) rfl rfl (by decide) (by decide) rfl ?_)
 first | refine CN (Op1.convN ty23 ty3 rfl (wrap_i64 (by omega) (by omega)) ?_) | refine CN (Op1.conv ty23 ty3 rfl ?_)
 refine AI rfl <| NL <| SQ <| SR <| MI rfl <| CN <| Op1.eql rfl rfl <| MB rfl <| RunL.splitD (d := 15) rfl (fun g1 => ?_) (fun g1 => ?_)
 · skip
   refine OM (t := 15) rfl (congrArg Value.bool (decide_eq_true g1)) rfl <| OM (t := 15) rfl (congrArg Value.bool (decide_eq_true g1)) rfl <| OM (t := 15) rfl (congrArg Value.bool (decide_eq_true g1)) rfl <| OM (t := 15) rfl (congrArg Value.bool (decide_eq_true g1)) rfl <| OM (t := 15) rfl (congrArg Value.bool (decide_eq_true g1)) rfl <| OM (t := 15) rfl (congrArg Value.bool (decide_eq_true g1)) rfl <| CN <| Op1.pickT (u := .bool _) (congrArg Value.bool (decide_eq_true g1)) rfl <| NL <| run_cond_true (congrArg Value.bool (rfl : true = _)) <| SR <| CN (Op1.buildStruct ty45 stf45 .nil ?_)
   refine CN (SO (v := .agg #[.int .u16 _, .slice _ _ _]) hst ty45 rfl rfl (.here) fun w hst => ?_)
   refine AI rfl <| NL <| run_ret2 Try.func99 rfl (RV.cellA (vs := [.int .u16 _, .slice _ _ _]) rfl ty45 rfl rfl (cells_of_obj (n := 2) (hst.objL (.head _)) _ rfl)) (TP (v := .int .i64 _) rfl) ?_
   exact ⟨rfl, hst.pure⟩
 refine TK (t := 15) rfl (congrArg Value.bool (decide_eq_false g1)) <| Op1.move (v := .int .i64 _) rfl <| TK (t := 15) rfl (congrArg Value.bool (decide_eq_false g1)) <| Op1.move (v := .slice _ _ _) rfl <| TK (t := 15) rfl (congrArg Value.bool (decide_eq_false g1)) <| Op1.lenSl (rest := []) ty43 rfl <| TK (t := 15) rfl (congrArg Value.bool (decide_eq_false g1)) <| Op1.move (v := .int .i64 _) rfl <| TK (t := 15) rfl (congrArg Value.bool (decide_eq_false g1)) <| Op1.subN rfl rfl rfl (wrap_i64 (by omega) (by omega)) <| TK (t := 15) rfl (congrArg Value.bool (decide_eq_false g1)) <| Op1.gtr rfl rfl <| CN <| Op1.pickF (u := .bool _) (congrArg Value.bool (decide_eq_false g1)) rfl <| NL <| Run.forget [(0, .slice _ _ _), (1, .int .i64 _), (4, .pointer (some ⟨_, _, none⟩)), (6, .int .i64 _), (22, .bool _)] ⟨rfl, rfl, rfl, rfl, rfl, trivial⟩ fun f => run_cond_dec rfl (fun g2 => ?_) (fun g2 => ?_)
 · skip
   refine SR <| CN (Op1.buildStruct ty45 stf45 .nil ?_)
   refine CN (SO (v := .agg #[.int .u16 _, .slice _ _ _]) hst ty45 rfl rfl (.here) fun w hst => ?_)
   refine AI rfl <| NL <| run_ret2 Try.func99 rfl (RV.cellA (vs := [.int .u16 _, .slice _ _ _]) rfl ty45 rfl rfl (cells_of_obj (n := 2) (hst.objL (.head _)) _ rfl)) (TP (v := .int .i64 _) rfl) ?_
   exact ⟨rfl, hst.pure⟩
 exfalso
 omega
theorem R3fr_nextOk (l : List Int) (hw : Wd l) (ao : Option Addr) (cp : Nat) (a : Nat) (ha : a < l.length) (n : Nat) (hn : l.getD a 0 / 65536 = (n : Int)) (h1 : 1 ≤ n) (h2 : a + n ≤ l.length) (hcp : l.length ≤ cp) (w : World) (hA : (Res.rs ao l.length 1 (l.flatMap u32C)).holds w) (hl : l.length ≤ 35184372088832) : Ret Try.prog 99 #[.slice ao l.length cp, .int .i64 (a : Int)] w (fun v w' => ∃ ro rc, v = .tuple #[.agg #[.int .u16 (l.getD a 0 % 65536), .slice ro (n - 1) rc], .int .i64 (n : Int)] ∧ St w NoM [Res.sl ro (n - 1) rc 23 1 (((l.drop (a + 1)).take (n - 1)).flatMap u32C)] [] w') := by
 refine Ret.enter (args := [.slice ao l.length cp, .int .i64 (a : Int)]) Try.func99 rfl rfl rfl ?_
 have hst : St w NoM [] [Res.rs ao l.length 1 (l.flatMap u32C)] w := St.init_D hA
 clear hA
 have hx := hw.get a
 have hx2 := hw.get ((a : Int).toNat)
 have hidx : l.getD ((a : Int)).toNat 0 = l.getD a 0 := rfl
 have hcap : True := trivial
 refine SR <| CN <| Op1.alloc hst ty45 fun w b4 hst => AI rfl <| NSR <| ML rfl <| MI rfl <| CN <| Op1.indexRs ty43 ty23 (hst.hD _ (.head _)) rfl rfl (by omega) (by omega) <| CN <| Op1.load1 (v := .int .u32 _) ty23 rfl rfl (Res.rs2_cell (hst.hD _ (.head _)) (flat_cell0 (g := u32C) (d := 0) u32C_len rfl (by omega))) <| CN (Op1.shrI (c := _ / 65536) rfl rfl (by decide) (by decide) rfl ?_)
 first | refine CN (Op1.convN ty23 ty3 rfl (wrap_i64 (by omega) (by omega)) ?_) | refine CN (Op1.conv ty23 ty3 rfl ?_)
 refine AI rfl <| NL <| SQ <| SR <| MI rfl <| CN <| Op1.eql rfl rfl <| MB rfl <| RunL.splitD (d := 15) rfl (fun g1 => ?_) (fun g1 => ?_)
 · skip
   exfalso
   omega
 refine TK (t := 15) rfl (congrArg Value.bool (decide_eq_false g1)) <| Op1.move (v := .int .i64 _) rfl <| TK (t := 15) rfl (congrArg Value.bool (decide_eq_false g1)) <| Op1.move (v := .slice _ _ _) rfl <| TK (t := 15) rfl (congrArg Value.bool (decide_eq_false g1)) <| Op1.lenSl (rest := []) ty43 rfl <| TK (t := 15) rfl (congrArg Value.bool (decide_eq_false g1)) <| Op1.move (v := .int .i64 _) rfl <| TK (t := 15) rfl (congrArg Value.bool (decide_eq_false g1)) <| Op1.subN rfl rfl rfl (wrap_i64 (by omega) (by omega)) <| TK (t := 15) rfl (congrArg Value.bool (decide_eq_false g1)) <| Op1.gtr rfl rfl <| CN <| Op1.pickF (u := .bool _) (congrArg Value.bool (decide_eq_false g1)) rfl <| NL <| Run.forget [(0, .slice _ _ _), (1, .int .i64 _), (4, .pointer (some ⟨_, _, none⟩)), (6, .int .i64 _), (22, .bool _)] ⟨rfl, rfl, rfl, rfl, rfl, trivial⟩ fun f => run_cond_dec rfl (fun g2 => ?_) (fun g2 => ?_)
 · skip
   exfalso
   omega
 refine run_skip <| SQ ?_
 have hw1 : (a : Int) + 1 = ((a + 1 : Nat) : Int) := by omega
 apply RunD.start [(18, Res.row b4 45 _, Res.emp)] hst (bs := [0, 0, 3, 7, 15, 0, 0, 64, 0, 0, 768, 0, 0, 6144, 16352, 32736, 65535, 0, 131071, 524287]) (ds := [some 24, some 25, some 26, some 27, some 28, some 29, some 30, some 31, some 32, some 33, some 34, some 35, some 36, some 37, some 38, some 39, some 40, some 41, none, some 5]) (htab := ⟨by kernel_rfl, by kernel_rfl, by kernel_rfl⟩)
 intro tab3
 refine RunD.op (det _) tab3 1 (fun f' L' w' hc => Op1.move (v := .slice _ _ _) (hc.old (v := .slice _ _ _) rfl rfl rfl) ⟨[], ⟨rfl, rfl⟩, hc.st⟩) <| RunD.op (det _) tab3 2 (fun f' L' w' hc => Op1.move (v := .int .i64 _) (hc.old (v := .int .i64 _) rfl rfl rfl) ⟨[], ⟨rfl, rfl⟩, hc.st⟩) <| RunD.op (det _) tab3 3 (fun f' L' w' hc => Op1.indexRs ty43 ty23 (hc.st.hD _ (.head _)) (hc.det (j := 0) rfl rfl rfl rfl) (hc.det (j := 1) rfl rfl rfl rfl) (by omega) (by omega) ⟨[], ⟨rfl, rfl⟩, hc.st⟩) <| RunD.op (det _) tab3 4 (fun f' L' w' hc => Op1.load1 (v := .int .u32 _) ty23 rfl (hc.det (j := 2) rfl rfl rfl rfl) (Res.rs2_cell (hc.st.hD _ (.head _)) (flat_cell0 (g := u32C) (d := 0) u32C_len rfl (by omega))) ⟨[], ⟨rfl, rfl⟩, hc.st⟩) <| RunD.op (det _) tab3 5 (fun f' L' w' hc => Op1.convW ty23 ty42 (hc.det (j := 3) rfl rfl rfl rfl) (wrap16 _) ⟨[], ⟨rfl, rfl⟩, hc.st⟩) <| RunD.op (det _) tab3 6 (fun f' L' w' hc => Op1.move (v := .slice _ _ _) (hc.old (v := .slice _ _ _) rfl rfl rfl) ⟨[], ⟨rfl, rfl⟩, hc.st⟩) <| RunD.op (det _) tab3 7 (fun f' L' w' hc => Op1.move (v := .int .i64 _) (hc.old (v := .int .i64 _) rfl rfl rfl) ⟨[], ⟨rfl, rfl⟩, hc.st⟩) <| RunD.op (det _) tab3 8 (fun f' L' w' hc => Op1.addN (hc.det (j := 6) rfl rfl rfl rfl) rfl rfl (wrap_i64 (by omega) (by omega)) ⟨[], ⟨rfl, rfl⟩, hc.st⟩) <| RunD.op (det _) tab3 9 (fun f' L' w' hc => Op1.move (v := .int .i64 _) (hc.old (v := .int .i64 _) rfl rfl rfl) ⟨[], ⟨rfl, rfl⟩, hc.st⟩) <| RunD.op (det _) tab3 10 (fun f' L' w' hc => Op1.move (v := .int .i64 _) (hc.old (v := .int .i64 _) rfl rfl rfl) ⟨[], ⟨rfl, rfl⟩, hc.st⟩) <| RunD.op (det _) tab3 11 (fun f' L' w' hc => Op1.addN (hc.det (j := 8) rfl rfl rfl rfl) (hc.det (j := 9) rfl rfl rfl rfl) rfl (wrap_i64 (by omega) (by omega)) ⟨[], ⟨rfl, rfl⟩, hc.st⟩) <| RunD.op (det _) tab3 12 (fun f' L' w' hc => Op1.move (v := .int .i64 _) (hc.old (v := .int .i64 _) rfl rfl rfl) ⟨[], ⟨rfl, rfl⟩, hc.st⟩) <| RunD.op (det _) tab3 13 (fun f' L' w' hc => Op1.move (v := .int .i64 _) (hc.old (v := .int .i64 _) rfl rfl rfl) ⟨[], ⟨rfl, rfl⟩, hc.st⟩) <| RunD.op (det _) tab3 14 (fun f' L' w' hc => Op1.addN (hc.det (j := 11) rfl rfl rfl rfl) (hc.det (j := 12) rfl rfl rfl rfl) rfl (wrap_i64 (by omega) (by omega)) ⟨[], ⟨rfl, rfl⟩, hc.st⟩) <| RunD.op (det _) tab3 15 (fun f' L' w' hc => Op1.sliceSl3 (lo := a + 1) (hi := a + n) (m := a + n) ty43 ty23 (hc.det (j := 5) rfl rfl rfl rfl) (hc.det (j := 7) rfl rfl rfl rfl) (hc.det (j := 10) rfl rfl rfl rfl) (hc.det (j := 13) rfl rfl rfl rfl) (by omega) (by omega) (by omega) (by omega) (by omega) (by omega) ⟨[], ⟨rfl, rfl⟩, hc.st⟩) ?_
 refine RunD.op (fun v rs => ∃ ro rc, v = .slice ro (a + n - (a + 1)) rc ∧ rs = [Res.sl ro (a + n - (a + 1)) rc 23 1 (((l.drop (a + 1)).take (a + n - (a + 1))).flatMap u32C)]) tab3 16 (fun f' L' w' hc => Op1.call1 (v1 := .slice _ _ _) ent112 rfl (hc.det (j := 14) rfl rfl rfl rfl) ((R3fr_Clone2 (l := (l.drop (a + 1)).take (a + n - (a + 1))) _ _ (by rw [List.length_take, List.length_drop]; omega) rfl (subAo_some (rs_ao (hc.st.hD _ (.head _)) (by omega))) (rs_part3 (hc.st.hD _ (.head _)) (by omega) (by omega) (Nat.le_refl _)) (by omega)).mono fun v w hp => (by obtain ⟨ro, rc, rfl, hp⟩ := hp; exact ⟨_, ⟨ro, rc, rfl, rfl⟩, hc.st.call0 hp⟩))) <| RunD.opR (fun g v rs => (∀ ro rc, g 39 = .slice ro (a + n - (a + 1)) rc → v = .agg #[.int .u16 (l.getD a 0 % 65536), .slice ro (a + n - (a + 1)) rc]) ∧ rs = []) tab3 17 (fun f' L' w' hc => by obtain ⟨_, _, q1, _⟩ := hc.dep 15 39 rfl rfl; obtain ⟨ro, rc, h39, _⟩ := q1; exact Op1.buildStruct ty45 stf45 (.c (v := .int .u16 _) (hc.det (j := 4) rfl rfl rfl rfl) (h := (.c (v := .slice ro _ rc) (evs h39 rfl) (h := .nil)))) ⟨[], fun g hg => ⟨fun ro2 rc2 e => (by rw [hg 15 39 rfl rfl, h39] at e; cases e; rfl), rfl⟩, hc.st⟩) ?_
 refine RunD.op (det _) tab3 18 (fun f' L' w' hc => Op1.move (v := .int .i64 _) (hc.old (v := .int .i64 _) rfl rfl rfl) ⟨[], ⟨rfl, rfl⟩, hc.st⟩) <| RunD.ownR (fun g v rs => v = undef ∧ ∀ ro rc, g 39 = .slice ro (a + n - (a + 1)) rc → rs = [Res.row b4 45 [.int .u16 (l.getD a 0 % 65536), .slice ro (a + n - (a + 1)) rc]]) tab3 19 (.head _) (fun f' L' L'' w' hc hq => by obtain ⟨_, _, q1, _⟩ := hc.dep 15 39 rfl rfl; obtain ⟨ro, rc, h39, _⟩ := q1; obtain ⟨g16, _, q2, hg16, _⟩ := hc.dep 16 40 rfl rfl; have h40 := q2.1 ro rc ((hg16 15 39 rfl rfl).trans h39); obtain ⟨X, hsel, hX⟩ := hq (Res.row b4 45 [.int .u16 (l.getD a 0 % 65536), .slice ro (a + n - (a + 1)) rc]); exact Op1.store (v := .agg #[.int .u16 _, .slice _ _ _]) hc.st ty45 (hc.old (v := .pointer (some ⟨_, _, none⟩)) rfl rfl rfl) (evs h40 rfl) rfl rfl rfl hsel (by repeat (first | exact Put.nil | apply Put.put | apply Put.skip)) fun w hst => ⟨[_], fun g hg => ⟨rfl, fun ro2 rc2 e => (by rw [hg 15 39 rfl rfl, h39] at e; cases e; rfl)⟩, hX _ hst⟩) ?_
 refine RunD.fin followsMixed tab3 hst rfl (fun f4 w R7 hs5 hd6 hr8 hst => ?_)
 obtain ⟨h24_, r0⟩ := hd6 0 24 rfl rfl
 obtain ⟨h25_, r1⟩ := hd6 1 25 rfl rfl
 obtain ⟨h26_, r2⟩ := hd6 2 26 rfl rfl
 obtain ⟨h27_, r3⟩ := hd6 3 27 rfl rfl
 obtain ⟨h28_, r4⟩ := hd6 4 28 rfl rfl
 obtain ⟨h29_, r5⟩ := hd6 5 29 rfl rfl
 obtain ⟨h30_, r6⟩ := hd6 6 30 rfl rfl
 obtain ⟨h31_, r7⟩ := hd6 7 31 rfl rfl
 obtain ⟨h32_, r8⟩ := hd6 8 32 rfl rfl
 obtain ⟨h33_, r9⟩ := hd6 9 33 rfl rfl
 obtain ⟨h34_, r10⟩ := hd6 10 34 rfl rfl
 obtain ⟨h35_, r11⟩ := hd6 11 35 rfl rfl
 obtain ⟨h36_, r12⟩ := hd6 12 36 rfl rfl
 obtain ⟨h37_, r13⟩ := hd6 13 37 rfl rfl
 obtain ⟨h38_, r14⟩ := hd6 14 38 rfl rfl
 obtain ⟨ro, rc, h39_, r15⟩ := hd6 15 39 rfl rfl
 obtain ⟨h40_, r16⟩ := hd6 16 40 rfl rfl
 replace h40_ := h40_ ro rc ((DrawTab.mask tab3 _ (j := 16) (l := 15) (t := 39) rfl rfl).trans h39_)
 obtain ⟨h41_, r17⟩ := hd6 17 41 rfl rfl
 obtain ⟨_, _, r18⟩ := hr8 18 rfl
 replace r18 := r18 ro rc ((DrawTab.mask tab3 _ (j := 18) (l := 15) (t := 39) rfl rfl).trans h39_)
 simp only [show List.range 19 = [0, 1, 2, 3, 4, 5, 6, 7, 8, 9, 10, 11, 12, 13, 14, 15, 16, 17, 18] from rfl, List.flatMap_cons, List.flatMap_nil, List.map_cons, List.map_nil, r0, r1, r2, r3, r4, r5, r6, r7, r8, r9, r10, r11, r12, r13, r14, r15, r16, r17, r18, List.nil_append, List.append_nil, List.cons_append] at hst
 refine RunL.slots (sl := [(4, .pointer (some ⟨_, _, none⟩)), (41, .int .i64 _)]) ⟨(hs5 4 rfl).trans rfl, h41_, trivial⟩ ?_
 clear hs5 hd6 hr8 tab3
 refine AI rfl <| NL <| run_ret2 Try.func99 rfl (RV.cellA (vs := [.int .u16 _, .slice _ _ _]) rfl ty45 rfl rfl (cells_of_obj (n := 2) (hst.objL (.tail _ (.head _))) _ rfl)) (TP (v := .int .i64 _) rfl) ?_
 replace hst := hst.pick (.cons (.here) .nil)
 rw [show a + n - (a + 1) = n - 1 by omega] at hst ⊢
 exact ⟨ro, rc, by rw [hidx, hn], hst.noD⟩
end Go.SK
namespace Go.SK
open Go Go.Proofs
theorem ty66 : TyF Try.prog 66 (.struct (fieldsOf Try.prog 66)) 2 8 [.int .u32 0, .int .u32 0] := TyF.of (by kernel_rfl) (by kernel_rfl)
theorem ent84 : Enters Try.prog 84 := ⟨Try.f84, _, Try.func84, by kernel_rfl, rfl⟩
theorem ent97 : Enters Try.prog 97 := ⟨Try.f97, _, Try.func97, by kernel_rfl, rfl⟩
theorem stf66 : StructF Try.prog 66 [(0, 1), (1, 1)] := ⟨fieldsOf Try.prog 66, by kernel_rfl, fun w => by kernel_rfl⟩
theorem fld66_0 : FldF Try.prog 66 0 0 := FldF.of (n := 0) (by kernel_rfl)
theorem fld66_1 : FldF Try.prog 66 1 1 := FldF.of (n := 0) (by kernel_rfl)
end Go.SK
