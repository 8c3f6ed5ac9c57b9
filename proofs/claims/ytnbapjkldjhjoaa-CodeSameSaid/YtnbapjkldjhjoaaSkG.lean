/-
  From a walk to a law; arguments taken apart.
-/
import Derived.Test.YtnbapjkldjhjoaaSkF
import Derived.ProofKit
import Derived.OpenShut
import Derived.ShutString
import Derived.ChangeOld
import Derived.Below
set_option linter.unusedVariables false
set_option linter.unusedSimpArgs false
namespace Go.SK
open Go.RowKit Go.ChangeShapes Go.WideShapes Go.ChangeAt

theorem Ret.law {P : Program} {g : FuncId} {args : Array Value} {w : World} (h : Ret P g args w (fun v w' => v = .bool true ∧ St w NoM [] [] w')) :
    Calls P g args w fun e w' => e = .returned (.bool true) ∧ Below w.heap.size w w' :=
  Calls.mono h fun e w' ⟨v, he, hv, hst⟩ => ⟨by rw [he, hv], hst.kept.below⟩

theorem trodAll_lt {H : Type} {enc : TypeId × Value → H} {P : Program} {w : World} {base : Nat} {sp : Nat → Bool} {held : Bool} : ∀ (ts : List TypeId) (vs : List Value) (ds : List (DataW H)) (ps : List MemPlace),
    DataW.TrodAll enc P w base sp held ts vs ds ps → ∀ x ∈ ps, x.block < w.heap.size
  | [], [], [], ps, h => by simp [DataW.TrodAll] at h; subst h; simp
  | t :: ts, v :: vs, d :: ds, ps, h => by
    obtain ⟨p, q, ⟨m, hm⟩, h2, rfl⟩ := h
    intro x hx
    rcases List.mem_append.1 hx with hx | hx
    · exact DataW.trod_lt m _ _ _ hm x hx
    · exact trodAll_lt ts vs ds q h2 x hx
  | [], [], _ :: _, _, h => by simp [DataW.TrodAll] at h
  | [], _ :: _, _, _, h => by simp [DataW.TrodAll] at h
  | _ :: _, [], _, _, h => by simp [DataW.TrodAll] at h
  | _ :: _, _ :: _, [], _, h => by simp [DataW.TrodAll] at h

theorem trodAll_below {H : Type} {enc : TypeId × Value → H} {P : Program} (hl : laidOutB P = true) {W W' : World} (hb : Below W.heap.size W W') : ∀ (ts : List TypeId) (vs : List Value) (ds : List (DataW H)) (ps : List MemPlace),
    ts.all (fun t => P.readableRec t && Nat.blt t P.types.size) = true → DataW.TrodAll enc P W 0 (fun _ => true) true ts vs ds ps → (∀ x ∈ ps, x.block < W.heap.size) →
    DataW.TrodAll enc P W' 0 (fun b => decide (b < W.heap.size)) true ts vs ds ps
  | [], [], [], ps, _, h, _ => h
  | t :: ts, v :: vs, d :: ds, ps, hr, h, hlt => by
    obtain ⟨p, q, h1, h2, rfl⟩ := h
    simp only [List.all_cons, Bool.and_eq_true] at hr
    exact ⟨p, q, Below.trod hl hr.1.1 (by simpa using hr.1.2) h1 hb (fun x hx => hlt x (List.mem_append_left _ hx)),
      trodAll_below hl hb ts vs ds q hr.2 h2 (fun x hx => hlt x (List.mem_append_right _ hx)), rfl⟩
  | [], [], _ :: _, _, _, h, _ => by simp [DataW.TrodAll] at h
  | [], _ :: _, _, _, _, h, _ => by simp [DataW.TrodAll] at h
  | _ :: _, [], _, _, _, h, _ => by simp [DataW.TrodAll] at h
  | _ :: _, _ :: _, [], _, _, h, _ => by simp [DataW.TrodAll] at h

/-! arguments, taken apart -/
inductive All2 {A B : Type} (R : A → B → Prop) : List A → List B → Prop
  | nil : All2 R [] []
  | cons {a : A} {b : B} {as : List A} {bs : List B} : R a b → All2 R as bs → All2 R (a :: as) (b :: bs)

theorem All2.of_get {A B : Type} {R : A → B → Prop} : ∀ (as : List A) (bs : List B), as.length = bs.length → (∀ (i : Nat) (a : A) (b : B), as[i]? = some a → bs[i]? = some b → R a b) → All2 R as bs
  | [], [], _, _ => .nil
  | a :: as, b :: bs, hl, h => .cons (h 0 a b rfl rfl) (All2.of_get as bs (by simpa using hl) (fun i x y hx hy => h (i + 1) x y (by simpa using hx) (by simpa using hy)))
  | [], _ :: _, hl, _ => by simp at hl
  | _ :: _, [], hl, _ => by simp at hl

theorem row_cells {P : Program} {w : World} {r : Reach} {base : Nat} {t : TypeId} {cs : Array Value} {ts : List TypeId} (h : Row.okWide P w r base t cs) (ht : P.cellTypes P.depth t = some ts) (hs : cs.size = ts.length) :
    All2 (fun u v => Cell.okWide P w r base u v) ts cs.toList := by
  obtain ⟨ts', ht', _, hc⟩ := h
  rw [ht] at ht'
  obtain rfl := Option.some.inj ht'
  refine All2.of_get _ _ (by simpa using hs.symm) fun i a b ha hb => ?_
  have hi : i < ts.length := (List.getElem?_eq_some_iff.1 ha).1
  obtain ⟨u, hu, hok⟩ := hc i b (by simpa using hb)
  rw [Nat.mod_eq_of_lt hi, ha] at hu
  obtain rfl := Option.some.inj hu
  exact hok

theorem agg_cells {P : Program} {w : World} {r : Reach} {base : Nat} {t : TypeId} {v : Value} {ts : List TypeId} {d : TypeDesc} (h : Value.okWide P w r base t v) (hu : P.underlying t = some d) (hd : aggB d = true)
    (ht : P.cellTypes P.depth t = some ts) (hs : P.cellsOf t = ts.length) : ∃ cs : List Value, v = .agg cs.toArray ∧ All2 (fun u v => Cell.okWide P w r base u v) ts cs := by
  simp only [Value.okWide, hu] at h
  have : ∃ cs, v = .agg cs ∧ cs.size = P.cellsOf t ∧ Row.okWide P w r base t cs := by
    cases d <;> simp [aggB] at hd <;> exact h
  obtain ⟨cs, rfl, hsz, hrow⟩ := this
  exact ⟨cs.toList, by simp, row_cells hrow ht (hsz.trans hs)⟩

theorem cell_int {P : Program} {w : World} {r : Reach} {base : Nat} {u : TypeId} {v : Value} {k : IntKind} (h : Cell.okWide P w r base u v) (hu : P.underlying u = some (.int k)) : ∃ n, v = .int k n ∧ k.has n := by
  simp only [Cell.okWide, hu] at h
  cases v <;> simp [Cell.ok, hu] at h
  obtain ⟨rfl, h⟩ := h
  exact ⟨_, rfl, h⟩
theorem cell_bool {P : Program} {w : World} {r : Reach} {base : Nat} {u : TypeId} {v : Value} (h : Cell.okWide P w r base u v) (hu : P.underlying u = some .bool) : ∃ n, v = .bool n := by
  simp only [Cell.okWide, hu] at h
  cases v <;> simp [Cell.ok, hu] at h
  exact ⟨_, rfl⟩
theorem cell_str {P : Program} {w : World} {r : Reach} {base : Nat} {u : TypeId} {v : Value} (h : Cell.okWide P w r base u v) (hu : P.underlying u = some .string) : ∃ l, v = str l ∧ l.length ≤ 9223372036854775807 := by
  simp only [Cell.okWide, hu] at h
  cases v <;> simp [Cell.ok, hu] at h
  rename_i s
  refine ⟨s.data.toList, str_of s, ?_⟩
  have h3 : s.size = s.data.toList.length := by cases s; rfl
  omega
theorem val_cell {P : Program} {w : World} {r : Reach} {base : Nat} {u : TypeId} {v : Value} {d : TypeDesc} (h : Value.okWide P w r base u v) (hu : P.underlying u = some d) (hd : aggB d = false) : Cell.okWide P w r base u v := by
  simp only [Value.okWide, hu] at h
  cases d <;> simp [aggB] at hd <;> exact h

theorem has_i32 {n : Int} (h : IntKind.i32.has n) : -2147483648 ≤ n ∧ n ≤ 2147483647 := by
  simpa [IntKind.has, IntKind.min, IntKind.max, IntKind.signed, IntKind.bits] using h
theorem has_i64 {n : Int} (h : IntKind.i64.has n) : -9223372036854775808 ≤ n ∧ n ≤ 9223372036854775807 := by
  simpa [IntKind.has, IntKind.min, IntKind.max, IntKind.signed, IntKind.bits] using h
theorem has_u8 {n : Int} (h : IntKind.u8.has n) : 0 ≤ n ∧ n ≤ 255 := by
  simpa [IntKind.has, IntKind.min, IntKind.max, IntKind.signed, IntKind.bits] using h
theorem has_u16 {n : Int} (h : IntKind.u16.has n) : 0 ≤ n ∧ n ≤ 65535 := by
  simpa [IntKind.has, IntKind.min, IntKind.max, IntKind.signed, IntKind.bits] using h
theorem has_u32 {n : Int} (h : IntKind.u32.has n) : 0 ≤ n ∧ n ≤ 4294967295 := by
  simpa [IntKind.has, IntKind.min, IntKind.max, IntKind.signed, IntKind.bits] using h
end Go.SK
namespace Go.SK
theorem All2.uncons {A B : Type} {R : A → B → Prop} {a : A} {as : List A} {cs : List B} (h : All2 R (a :: as) cs) : ∃ b bs, cs = b :: bs ∧ R a b ∧ All2 R as bs := by
  cases h with
  | cons h1 h2 => exact ⟨_, _, rfl, h1, h2⟩
theorem All2.unnil {A B : Type} {R : A → B → Prop} {cs : List B} (h : All2 R ([] : List A) cs) : cs = [] := by
  cases h; rfl
end Go.SK
