/-
  Strings gone through; functions with first arguments.
-/
import Derived.Test.YtnbapjkldjhjoaaSkN
set_option linter.unusedVariables false
set_option linter.unusedSimpArgs false
namespace Go.SK
open Go.RowKit

/-- all slots but these may hold whatever -/
theorem Run.forget {P : Program} {b : Base} {k : List Item} {E : Frame → World → Prop} {f : Nat → Value} {w : World} (kv : List (Nat × Value)) (hkv : Slots f kv) (h : ∀ f', Run P b k (sts kv f') w E) : Run P b k f w E := by
  have := h f
  rwa [sts_self hkv] at this

/-! a string gone through, rune by rune (bytes below 128); runes to strings -/
abbrev Res.iter (b : Nat) (s : List UInt8) (pos : Nat) : Res := Res.obj b (.stringIter ⟨s.toArray⟩ pos)

theorem newObj_run {P : Program} {w : World} {o : Obj} : (newObj o).run P w = .ok w.heap.size (w.alloc o) := by
  simp [newObj, Sem.run]

theorem decode_ascii {s : List UInt8} {i : Nat} {c : UInt8} (h : s[i]? = some c) (hc : c.toNat < 128) : Utf8.decode ⟨s.toArray⟩ i = (c.toNat, 1) := by
  obtain ⟨hi, rfl⟩ := List.getElem?_eq_some_iff.1 h
  have hg : (ByteArray.mk s.toArray).get! (i + 0) = s[i] := by
    show s.toArray[i + 0]! = s[i]
    simp [hi]
  unfold Utf8.decode
  simp only [hg]
  rw [if_pos hc]

section
variable {P : Program} {ty : TypeId} {ρ : Operand → Value} {w0 w : World} {C : Value → World → Prop} {M : Nat → Prop} {L L' D : List Res}
variable {T : TypeId} {d : TypeDesc} {sz bytes : Nat} {zs : List Value}

theorem Op1.rangeS {x : Operand} {s : List UInt8} (hst : St w0 M L D w) (hT : TyF P T .string sz bytes zs) (hx : ρ x = str s)
    (h : ∀ (w' : World) (b : Nat), St w0 M (Res.iter b s 0 :: L) D w' → C (.pointer (some ⟨b, 0, none⟩)) w') : Op1 P (.range T x) ty ρ w C := by
  refine Inv.value (v := .pointer (some ⟨w.heap.size, 0, none⟩)) (w' := w.alloc (.stringIter ⟨s.toArray⟩ 0)) ?_ (h _ _ ?_)
  · simp [execOp, Instr.range, hx, str, Sem.run_bind, hT.run_und, newObj_run, Result.andThen]
  · refine hst.push (Kept.alloc _ _ _) ?_ ?_
    · simp only [Res.obj]; rw [alloc_new]
    · intro b hb; exact Nat.le_of_eq hb.symm

theorem Op1.nextS {x : Operand} {b i : Nat} {s : List UInt8} {c : UInt8} (hst : St w0 M L D w) (hx : ρ x = .pointer (some ⟨b, 0, none⟩)) (hs : Sel (Res.iter b s i) (Res.iter b s (i + 1)) L L')
    (hi : s[i]? = some c) (hc : c.toNat < 128) (h : ∀ w' : World, St w0 M L' D w' → C (.tuple #[.bool true, .int .i64 i, .int .i32 c.toNat]) w') : Op1 P (.next x true) ty ρ w C := by
  have hh := hst.hL _ hs.mem
  simp only [Res.obj] at hh
  have hlt : i < s.length := (List.getElem?_eq_some_iff.1 hi).1
  have hz : (ByteArray.mk s.toArray).size = s.length := by simp [ByteArray.size]
  refine Inv.value (v := .tuple #[.bool true, .int .i64 i, .int .i32 c.toNat]) (w' := { w with heap := w.heap.setIfInBounds b (.stringIter ⟨s.toArray⟩ (i + 1)) }) ?_ (h _ (hst.upd hs (Kept.put _ _ _) (by simpa [Res.obj] using putObj_get hh) (fun b hb => .inl hb)))
  have hset : ∀ o', (setObj b o').run P w = .ok () { w with heap := w.heap.setIfInBounds b o' } := fun o' => setObj_run hh (by simp)
  simp only [execOp, hx, Instr.next, Sem.run_bind, getObj_run hh (by simp), Result.andThen, hz, hlt, if_true, decode_ascii hi hc, hset]
  rfl

theorem Op1.nextE {x : Operand} {b i : Nat} {s : List UInt8} (hst : St w0 M L D w) (hx : ρ x = .pointer (some ⟨b, 0, none⟩)) (hm : Res.iter b s i ∈ L) (hi : s.length ≤ i) (h : C (.tuple #[.bool false]) w) : Op1 P (.next x true) ty ρ w C := by
  have hh := hst.hL _ hm
  simp only [Res.obj] at hh
  have hz : (ByteArray.mk s.toArray).size = s.length := by simp [ByteArray.size]
  have hn : ¬ i < s.length := by omega
  refine Inv.value (v := .tuple #[.bool false]) (w' := w) ?_ h
  simp only [execOp, hx, Instr.next, Sem.run_bind, getObj_run hh (by simp), Result.andThen, hz, hn, if_false]
  rfl

theorem encode_ascii {n : Int} (h0 : 0 ≤ n) (h1 : n < 128) : Utf8.encode n = ⟨[UInt8.ofNat n.toNat].toArray⟩ := by
  have hv : Utf8.valid n = true := by unfold Utf8.valid; simp; omega
  unfold Utf8.encode
  simp only [hv, if_true]
  rw [if_pos (by omega)]
theorem Op1.runeStr {S D' : TypeId} {k : IntKind} {x : Operand} {n : Int} {sz' bytes' : Nat} {zs' : List Value} (hS : TyF P S (.int k) sz bytes zs) (hD : TyF P D' .string sz' bytes' zs') (hx : ρ x = .int k n) (h0 : 0 ≤ n) (h1 : n < 128)
    (h : C (str [UInt8.ofNat n.toNat]) w) : Op1 P (.convert S D' x) ty ρ w C := by
  refine Inv.value (v := str [UInt8.ofNat n.toNat]) (w' := w) ?_ h
  simp only [execOp, hx, convert, Sem.run_bind, hS.run_und, hD.run_und, Result.andThen]
  simp [Conv.intToString, encode_ascii h0 h1, str]
end
section
variable {P : Program} {ty : TypeId} {ρ : Operand → Value} {w : World} {C : Value → World → Prop} {g : FuncId} {tys : Array TypeId}
theorem Op1.call6 {a1 a2 a3 a4 a5 a6 : Operand} {v1 v2 v3 v4 v5 v6 : Value} (hg : Enters P g) (hf : ρ (.func g) = .func (.func g) #[] #[]) (h1 : ρ a1 = v1) (h2 : ρ a2 = v2) (h3 : ρ a3 = v3) (h4 : ρ a4 = v4) (h5 : ρ a5 = v5) (h6 : ρ a6 = v6) (hc : Ret P g #[v1, v2, v3, v4, v5, v6] w C) : Op1 P (.call ⟨.value (.func g), #[a1, a2, a3, a4, a5, a6], tys⟩) ty ρ w C :=
  Op1.callF (args := [a1, a2, a3, a4, a5, a6]) (vs := [v1, v2, v3, v4, v5, v6]) hg hf (by simp [h1, h2, h3, h4, h5, h6]) hc
theorem Op1.call7 {a1 a2 a3 a4 a5 a6 a7 : Operand} {v1 v2 v3 v4 v5 v6 v7 : Value} (hg : Enters P g) (hf : ρ (.func g) = .func (.func g) #[] #[]) (h1 : ρ a1 = v1) (h2 : ρ a2 = v2) (h3 : ρ a3 = v3) (h4 : ρ a4 = v4) (h5 : ρ a5 = v5) (h6 : ρ a6 = v6) (h7 : ρ a7 = v7) (hc : Ret P g #[v1, v2, v3, v4, v5, v6, v7] w C) : Op1 P (.call ⟨.value (.func g), #[a1, a2, a3, a4, a5, a6, a7], tys⟩) ty ρ w C :=
  Op1.callF (args := [a1, a2, a3, a4, a5, a6, a7]) (vs := [v1, v2, v3, v4, v5, v6, v7]) hg hf (by simp [h1, h2, h3, h4, h5, h6, h7]) hc
theorem Op1.call8 {a1 a2 a3 a4 a5 a6 a7 a8 : Operand} {v1 v2 v3 v4 v5 v6 v7 v8 : Value} (hg : Enters P g) (hf : ρ (.func g) = .func (.func g) #[] #[]) (h1 : ρ a1 = v1) (h2 : ρ a2 = v2) (h3 : ρ a3 = v3) (h4 : ρ a4 = v4) (h5 : ρ a5 = v5) (h6 : ρ a6 = v6) (h7 : ρ a7 = v7) (h8 : ρ a8 = v8) (hc : Ret P g #[v1, v2, v3, v4, v5, v6, v7, v8] w C) : Op1 P (.call ⟨.value (.func g), #[a1, a2, a3, a4, a5, a6, a7, a8], tys⟩) ty ρ w C :=
  Op1.callF (args := [a1, a2, a3, a4, a5, a6, a7, a8]) (vs := [v1, v2, v3, v4, v5, v6, v7, v8]) hg hf (by simp [h1, h2, h3, h4, h5, h6, h7, h8]) hc
/-- a method's value, or a function that holds its first arguments -/
theorem CallV.funcF {first args cap : List Value} (hg : Enters P g) (hc : Ret P g (first ++ args ++ cap).toArray w C) : CallV P (.func (.func g) first.toArray cap.toArray) args w C := by
  obtain ⟨fn, c, h1, h2, h3⟩ := hg
  have h2' : fn.name ≠ "runtime.NumGoroutine" := by simpa using h2
  refine Inv.enter (g := g) (args := (first ++ args ++ cap).toArray) (w' := w) ?_ hc
  simp [Deferred.ofValue, invoke, callFunc, Sem.run_bind, program, Sem.run, h1, h2', h3, Result.andThen]
end
end Go.SK
