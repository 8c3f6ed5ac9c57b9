/-
  Steps of functions, plain law, and walks of functions: what the laws rest on.
-/
import Derived.Test.YtbjkagmkphmefaaSkG0e
set_option linter.unusedVariables false
set_option linter.unusedSimpArgs false
set_option linter.unusedSectionVars false
namespace Go.SK
open Go.RowKit
section
variable {P : Program} {ty : TypeId} {ρ : Operand → Value} {w0 w : World} {C : Value → World → Prop} {M : Nat → Prop} {L L' D : List Res}
variable {T T' : TypeId} {d : TypeDesc} {sz bytes : Nat} {zs : List Value}
theorem Op1.buildArr {e : TypeId} {de : TypeDesc} {es eb : Nat} {ez : List Value} {n : Nat} {parts : List (Nat × Operand)} {l' : List Value} (hT : TyF P T (.array n e) sz bytes zs) (he : TyF P e de es eb ez)
    (hf : Fills ρ (arrPlace es) zs parts l') (h : C (.agg l'.toArray) w) : Op1 P (.build T parts.toArray) ty ρ w C := by
  obtain ⟨z, hz, hzs⟩ := hT.run_zero w
  have hb := hf.build
  have hr : (Instr.build T (parts.toArray.map fun p => (p.1, ρ p.2))).run P w = .ok (.agg l'.toArray) w := by
    unfold Instr.build
    simp only [Sem.run_bind, hz, Result.andThen, hT.run_und, he.run_size, hzs]
    unfold arrPlace at hb
    rw [hb]
    rfl
  refine Inv.value (v := .agg l'.toArray) (w' := w) ?_ h
  simp only [execOp, Sem.run_bind]
  rw [hr]
  rfl
end
end Go.SK
namespace Go.SK
open Go.RowKit
section
variable {P : Program} {ty : TypeId} {ρ : Operand → Value} {w : World} {C : Value → World → Prop} {g : FuncId} {tys : Array TypeId}
variable {a1 a2 a3 a4 a5 : Operand} {v1 v2 v3 v4 v5 : Value}
theorem Op1.call3 (hg : Enters P g) (hf : ρ (.func g) = .func (.func g) #[] #[]) (h1 : ρ a1 = v1) (h2 : ρ a2 = v2) (h3 : ρ a3 = v3) (hc : Ret P g #[v1, v2, v3] w C) : Op1 P (.call ⟨.value (.func g), #[a1, a2, a3], tys⟩) ty ρ w C :=
  Op1.callF (args := [a1, a2, a3]) (vs := [v1, v2, v3]) hg hf (by simp [h1, h2, h3]) hc
variable {T : TypeId} {d : TypeDesc} {sz bytes : Nat} {zs : List Value} {k : IntKind} {a b : Int}
end
end Go.SK
namespace Go.SK
open Go.RowKit
section
variable {P : Program} {ty : TypeId} {ρ : Operand → Value} {w0 w : World} {C : Value → World → Prop} {M : Nat → Prop} {L L' D : List Res}
variable {T e : TypeId} {de : TypeDesc} {d : TypeDesc} {sz bytes es eb : Nat} {zs ez : List Value} {ao : Option Addr} {n cap : Nat} {xs : List Value}
theorem Res.sl_some (h : (Res.sl ao n cap e es xs).holds w) (hn : 0 < n) : ∃ b, ao = some ⟨b, 0, none⟩ := by
  rcases h.2 with ⟨_, h0⟩ | ⟨g, c, cur, hv, _⟩
  · omega
  · cases hv; exact ⟨g, rfl⟩
end
end Go.SK
namespace Go.SK
open Go.RowKit
section
variable {P : Program} {ty : TypeId} {ρ : Operand → Value} {w : World} {C : Value → World → Prop} {g : FuncId} {tys : Array TypeId}
theorem Op1.call8 {a1 a2 a3 a4 a5 a6 a7 a8 : Operand} {v1 v2 v3 v4 v5 v6 v7 v8 : Value} (hg : Enters P g) (hf : ρ (.func g) = .func (.func g) #[] #[]) (h1 : ρ a1 = v1) (h2 : ρ a2 = v2) (h3 : ρ a3 = v3) (h4 : ρ a4 = v4) (h5 : ρ a5 = v5) (h6 : ρ a6 = v6) (h7 : ρ a7 = v7) (h8 : ρ a8 = v8) (hc : Ret P g #[v1, v2, v3, v4, v5, v6, v7, v8] w C) : Op1 P (.call ⟨.value (.func g), #[a1, a2, a3, a4, a5, a6, a7, a8], tys⟩) ty ρ w C :=
  Op1.callF (args := [a1, a2, a3, a4, a5, a6, a7, a8]) (vs := [v1, v2, v3, v4, v5, v6, v7, v8]) hg hf (by simp [h1, h2, h3, h4, h5, h6, h7, h8]) hc
end
end Go.SK
namespace Go.SK
theorem wrapB_i64 (c : UInt8) : IntKind.i64.wrap (c.toNat : Int) = c.toNat := by have := c.toNat_lt; exact wrap_i64 (by omega) (by omega)
end Go.SK
namespace Go.SK
open Go.RowKit Go.ChangeShapes Go.WideShapes Go.ChangeAt
theorem step_all {p : Nat → Prop} {i : Nat} (h : ∀ j, j < i → p j) (hi : p i) : ∀ j, j < i + 1 → p j := fun j hj => by
  by_cases e : j = i
  · rw [e]; exact hi
  · exact h j (by omega)
end Go.SK
namespace Go.SK
open Go.RowKit Go.ChangeShapes Go.WideShapes Go.ChangeAt
section
variable {P : Program} {ty : TypeId} {ρ : Operand → Value} {w : World} {C : Value → World → Prop} {T T2 : TypeId} {x y : Operand} {sz bytes : Nat} {zs : List Value} {e : TypeId}
theorem equal_pn {a : Addr} (hT : TyF P T (.pointer e) sz bytes zs) : (Op.equal T (.pointer (some a)) (.pointer none)).run P w = .ok false w := by
  show (Op.equalIn (9999 + 1) T (.pointer (some a)) (.pointer none)).run P w = _
  rw [Op.equalIn]
  simp [Sem.run_bind, hT.run_und, Result.andThen]
theorem Op1.eqlPN {a : Addr} (hT : TyF P T (.pointer e) sz bytes zs) (hx : ρ x = .pointer (some a)) (hy : ρ y = .pointer none) (h : C (.bool false) w) : Op1 P (.binOp .eql T x y T2) ty ρ w C := by
  refine Op1.of (v := .bool false) (w' := w) ?_ h
  simp only [execOp, hx, hy, eqGuard]
  simp [binOp, equal_pn hT, Result.andThen]
end
end Go.SK
namespace Go.SK
theorem no_lt {p : Nat → Prop} : ∀ j, j < 0 → p j := fun j hj => absurd hj (Nat.not_lt_zero j)
end Go.SK
namespace Go.SK
abbrev nameC (n : NameL) : List Value := [.int .u8 n.letter, .int .u32 n.n, str n.name]
theorem nameC_len (n : NameL) : (nameC n).length = 3 := rfl
theorem names_any_small : (List.range 256).all (fun n => decide ((look namesT n ≠ []) ↔ (namesL.find? (fun x => decide (x.letter = (n : Int)))).isSome = true)) = true := by decide +kernel
theorem names_any {c : Int} (h0 : 0 ≤ c) (h1 : c ≤ 255) : (look namesT c ≠ []) ↔ (namesL.find? (fun x => decide (x.letter = c))).isSome = true := by
  have := List.all_eq_true.1 names_any_small c.toNat (List.mem_range.2 (by omega))
  rw [show ((c.toNat : Nat) : Int) = c by omega] at this
  simpa only [decide_eq_true_eq] using this
theorem most_div {k r m : Int} (hr : 0 < r) : (m ≤ k / r ↔ m * r ≤ k) := Int.le_ediv_iff_mul_le hr
theorem div_bd {a b : Int} (ha : 0 ≤ a) (hb : 0 < b) : 0 ≤ a / b ∧ a / b ≤ a := ⟨Int.ediv_nonneg ha (by omega), Int.ediv_le_self b ha⟩
end Go.SK
namespace Go.SK
theorem kind_zero : kindS 0 = 0 := by decide +kernel
theorem bad_long {f : FormL} {ks : List Int} (hr : f.rest = []) (h : badI f 0 ks = none) : ks.length ≤ f.fixed.length := by
  refine Classical.byContradiction fun hn => ?_
  have key : ∀ i, i ≤ f.fixed.length → badI f i (ks.drop i) = none := by
    intro i
    induction i with
    | zero => intro _; exact h
    | succ i ih =>
      intro hi
      have h1 := ih (by omega)
      refine bad_miss h1 (by omega) fun hb => ?_
      have := bad_hit h1 (by omega) hb
      cases this
  have h1 := key f.fixed.length (Nat.le_refl _)
  have hb : badB f f.fixed.length (ks.getD f.fixed.length 0) := by
    have hl : letterS f (f.fixed.length : Int) = 0 := by
      unfold letterS
      rw [if_neg (by omega), if_neg (by omega)]
      unfold restS; rw [if_pos (.inr (.inl hr))]
    by_cases hk : ks.getD f.fixed.length 0 = 0
    · exact .inl hk
    · right; rw [hl, kind_zero]; exact fun e => hk e.symm
  have := bad_hit h1 (by omega) hb
  cases this
end Go.SK
namespace Go.SK
open Go.RowKit Go.ChangeShapes Go.WideShapes Go.ChangeAt
theorem idE_ne {n bound : Int} : idE n bound ≠ 0 ↔ (n = 0 ∨ n ≥ bound) := by unfold idE; split <;> simp_all
theorem enumE_zero {c n : Int} : enumE c n = 0 ↔ (namesL.find? (enN c n)).isSome = true := by unfold enumE; split <;> simp_all
end Go.SK
namespace Go.SK
def wholeQ (fm : FormL) (n : Nat) : Bool := if n < fm.fixed.length then false else if fm.rest.length = 0 then decide (n = fm.fixed.length) else decide (((n : Int) - fm.fixed.length) % fm.rest.length = 0)
theorem wholeQ_off {fm : FormL} {n : Nat} (h : fm.rest = [] → n ≤ fm.fixed.length) : wholeQ fm n = true ↔ ¬ offR fm n := by
  unfold wholeQ offR
  by_cases h1 : n < fm.fixed.length
  · rw [if_pos h1]
    refine ⟨fun hx => absurd hx (by decide), fun hx => absurd (Or.inl (by omega)) hx⟩
  · rw [if_neg h1]
    by_cases h2 : fm.rest.length = 0
    · have h3 := h (List.length_eq_zero_iff.1 h2)
      rw [if_pos h2]
      refine ⟨fun _ hx => ?_, fun _ => decide_eq_true (by omega)⟩
      rcases hx with hx | hx
      · omega
      · exact hx.1 (List.length_eq_zero_iff.1 h2)
    · rw [if_neg h2]
      refine ⟨fun hd hx => ?_, fun hx => decide_eq_true (Classical.not_not.1 fun hn => hx (.inr ⟨fun e => h2 (by rw [e]; rfl), hn⟩))⟩
      rcases hx with hx | hx
      · omega
      · exact hx.2 (of_decide_eq_true hd)
end Go.SK
namespace Go.SK
theorem wrongA_eq {c bound : Int} {a : ArgP} (h : ¬ (c = 0 ∨ a.kind ≠ kindS c)) (h2 : ¬ ((a.kind = 3 ∧ a.n ≠ 0) ∨ (a.kind ≠ 3 ∧ a.s ≠ []))) : wrongA c a bound = if a.kind = 1 ∧ (a.n = 0 ∨ a.n ≥ bound) then 43 else if a.kind = 4 ∧ (namesL.find? (enN c a.n)).isSome = false then 31 else textE a.s := by
  have e1 : (a.kind = 1 ∧ idE a.n bound ≠ 0) ↔ (a.kind = 1 ∧ (a.n = 0 ∨ a.n ≥ bound)) := by rw [idE_ne]
  have e2 : (a.kind = 4 ∧ enumE c a.n ≠ 0) ↔ (a.kind = 4 ∧ (namesL.find? (enN c a.n)).isSome = false) := by
    have : enumE c a.n ≠ 0 ↔ (namesL.find? (enN c a.n)).isSome = false := by
      rw [Ne, enumE_zero]; cases (namesL.find? (enN c a.n)).isSome <;> simp
    rw [this]
  unfold wrongA
  rw [if_neg h, if_neg h2]
  by_cases k1 : a.kind = 1 ∧ (a.n = 0 ∨ a.n ≥ bound)
  · rw [if_pos (e1.2 k1), if_pos k1]
  · rw [if_neg (fun x => k1 (e1.1 x)), if_neg k1]
    by_cases k4 : a.kind = 4 ∧ (namesL.find? (enN c a.n)).isSome = false
    · rw [if_pos (e2.2 k4), if_pos k4]
    · rw [if_neg (fun x => k4 (e2.1 x)), if_neg k4]; rfl
theorem textE_hit {s : List UInt8} {i : Nat} (hi : i < s.length) (hz : s.getD i 0 = 0) (hn : ∀ j, j < i → s.getD j 0 ≠ 0) : textE s = 13 := by
  unfold textE; rw [if_pos]; rw [zero_at hi hz hn]; omega
theorem textE_none {s : List UInt8} (hn : ∀ j, j < s.length → s.getD j 0 ≠ 0) : textE s = 0 := by
  unfold textE; rw [if_neg (fun h => h (zero_none hn))]
end Go.SK
namespace Go.SK
open Go.RowKit Go.ChangeShapes Go.WideShapes Go.ChangeAt
section
variable {P : Program} {b : Base} {k : List Item} {f : Nat → Value} {w : World} {E : Frame → World → Prop} {ops : Array Oper} {l : List Oper} {d : Option Tmp} {ty : TypeId} {pos : String} {aft : Array Edge} {x : Operand}
theorem AH {a : Int} (h : ev b.n f x = .int .u16 a) (hk : RunL P b ops l k (putF f d (.int .u16 a)) w E) : RunL P b ops (asO x d ty pos aft :: l) k f w E := RunL.cons (Op1.assign h hk)
end
end Go.SK
namespace Go.SK
theorem dfa_nil : dfaF [] = some (.top 0) := rfl
end Go.SK
namespace Go.SK
theorem ops_pos : (refT.all fun f => !(decide (f.op = 0))) = true := by decide +kernel
theorem known_pos {i : InstL} (h : i.Known) : i.op ≠ 0 := fun e => by
  obtain ⟨h1, h2⟩ := known_form h
  have h3 := List.all_eq_true.1 ops_pos _ h1
  rw [h2, e] at h3
  exact absurd h3 (by decide)
theorem kd_in {i : InstL} (h : kdF i ≠ 9) : ptF i = 8 := Classical.byContradiction fun e => h (kd_above e)
def cnt1 (l : List InstL) (k : Nat) : Nat := ((l.take k).filter fun i => decide (ptF i = 1)).length
def overB (l : List InstL) (k : Nat) (p : Int) : Bool := (l.take k).any fun i => decide (p < ptF i)
def firstF (l : List InstL) : Nat → Bool
  | 0 => false
  | k + 1 => if opA l (k + 1) = 248 then decide (opA l k = 54 ∨ opA l k = 55) else firstF l k
def aheadF (l : List InstL) (k : Nat) : Int := if 0 < k ∧ ptA l (k - 1) = 8 then opA l (k - 1) else 0
def mayO (op ah : Int) (f : Bool) : Bool :=
  if op = 54 then decide (ah = 0 ∨ ah = 56)
  else if op = 55 then decide (ah = 54 ∨ ah = 55)
  else if op = 248 then decide (ah = 54 ∨ ah = 55 ∨ endsB ah = true)
  else if op = 56 then endsB ah
  else if ah = 0 ∨ ah = 54 ∨ ah = 55 ∨ ah = 56 ∨ endsB ah = true then false
  else if op = 245 then decide ((ah = 248 ∨ ah = 245) ∧ f = false)
  else if op = 59 then decide ((ah = 248 ∨ ah = 59) ∧ f = true)
  else if ah = 246 then decide (op = 249 ∨ op = 250)
  else if ah = 247 then decide (op = 250 ∨ op = 251)
  else true
def mayB (l : List InstL) (k : Nat) : Bool :=
  if overB l k (ptA l k) = true then false
  else if ptA l k = 1 then decide (cnt1 l k = 0)
  else if 1 < ptA l k ∧ cnt1 l k = 0 then false
  else if ptA l k < 8 then true
  else mayO (opA l k) (aheadF l k) (firstF l (k - 1))
def aheadS (l : List InstL) (k : Nat) : LS → Prop
  | .top p => (0 ≤ p ∧ p ≤ 7) ∧ (∀ j, j < k → ptA l j ≤ p) ∧ (p ≠ 0 → ∃ j, j < k ∧ ptA l j = p) ∧ (cnt1 l k = 0 ↔ p = 0)
  | .fn => 0 < k ∧ cnt1 l k ≠ 0 ∧ ptA l (k - 1) = 8 ∧ (opA l (k - 1) = 54 ∨ opA l (k - 1) = 55)
  | .blk f => 0 < k ∧ cnt1 l k ≠ 0 ∧ ptA l (k - 1) = 8 ∧ (opA l (k - 1) = 248 ∨ opA l (k - 1) = (if f = true then 59 else 245)) ∧ firstF l (k - 1) = f ∧ ∃ j, 1 ≤ j ∧ j ≤ k - 1 ∧ opA l j = 248
  | .pl => 0 < k ∧ cnt1 l k ≠ 0 ∧ ptA l (k - 1) = 8 ∧ kdF (l.getD (k - 1) zeroIL) = 0
  | .mg o => 0 < k ∧ cnt1 l k ≠ 0 ∧ ptA l (k - 1) = 8 ∧ opA l (k - 1) = o ∧ (o = 246 ∨ o = 247)
  | .en => 0 < k ∧ cnt1 l k ≠ 0 ∧ ptA l (k - 1) = 8 ∧ (249 ≤ opA l (k - 1) ∧ opA l (k - 1) ≤ 255)
  | .zz => 0 < k ∧ cnt1 l k ≠ 0 ∧ ptA l (k - 1) = 8 ∧ opA l (k - 1) = 56
theorem cnt1_step {l : List InstL} {k : Nat} (h : k < l.length) : cnt1 l (k + 1) = cnt1 l k + (if ptA l k = 1 then 1 else 0) := by
  unfold cnt1 ptA
  rw [take_getD2 (d := zeroIL) h, List.filter_append, List.length_append]
  congr 1
  by_cases e : ptF (l.getD k zeroIL) = 1
  · rw [if_pos e, List.filter_cons_of_pos (by simpa using e)]; rfl
  · rw [if_neg e, List.filter_cons_of_neg (by simpa using e)]; rfl
theorem overB_step {l : List InstL} {k : Nat} {p : Int} (h : k < l.length) : overB l (k + 1) p = (overB l k p || decide (p < ptA l k)) := by
  unfold overB ptA
  rw [take_getD2 (d := zeroIL) h, List.any_append]; simp
theorem overB_iff {l : List InstL} {k : Nat} {p : Int} (hk : k ≤ l.length) : overB l k p = true ↔ ∃ j, j < k ∧ p < ptA l j := by
  induction k with
  | zero => simp [overB]
  | succ k ih =>
    rw [overB_step (by omega), Bool.or_eq_true, ih (by omega), decide_eq_true_iff]
    constructor
    · rintro (⟨j, h1, h2⟩ | h)
      · exact ⟨j, by omega, h2⟩
      · exact ⟨k, by omega, h⟩
    · rintro ⟨j, h1, h2⟩
      by_cases e : j = k
      · subst e; exact .inr h2
      · exact .inl ⟨j, by omega, h2⟩
theorem ahead_step {l : List InstL} (hkn : ∀ i ∈ l, i.Known) {k : Nat} {S S' : LS} (h : k < l.length) (hp : aheadS l k S) (hs : stepO S (l.getD k zeroIL) = some S') : aheadS l (k + 1) S' := by
  have hi : (l.getD k zeroIL).Known := hkn _ (getD_memD h)
  have hpt := pt_le hi
  have hc := cnt1_step h
  have hkc := kd_cases (l.getD k zeroIL)
  have hP : ptA l k = ptF (l.getD k zeroIL) := rfl
  have hO : opA l k = (l.getD k zeroIL).op := rfl
  have hK : k + 1 - 1 = k := rfl
  have hpos : ∀ {c : Nat}, cnt1 l k ≠ 0 → cnt1 l (k + 1) ≠ 0 := fun hx => by rw [hc]; omega
  cases S with
  | top p =>
    obtain ⟨⟨p0, p1⟩, p2, p3, p4⟩ := hp
    unfold stepO at hs
    simp only at hs
    split at hs
    · rename_i h1
      split at hs
      · rename_i h2
        cases hs
        refine ⟨by omega, hpos (c := 0) (fun e => by have := p4.1 e; omega), by rw [hK, hP]; exact h1, .inl (by rw [hK, hO]; exact h2.2)⟩
      · cases hs
    · rename_i h1
      split at hs
      · cases hs
      · rename_i h2
        split at hs
        · rename_i h3
          split at hs
          · rename_i h4
            cases hs
            refine ⟨by omega, fun j hj => ?_, fun _ => ⟨k, by omega, by rw [hP]; exact h3⟩, ?_⟩
            · by_cases e : j = k
              · subst e; rw [hP]; omega
              · have := p2 j (by omega); omega
            · rw [hc, hP, if_pos h3]; omega
          · cases hs
        · rename_i h3
          split at hs
          · cases hs
          · rename_i h4
            cases hs
            refine ⟨by omega, fun j hj => ?_, fun _ => ⟨k, by omega, hP⟩, ?_⟩
            · by_cases e : j = k
              · subst e; rw [hP]; omega
              · have := p2 j (by omega); omega
            · rw [hc, hP, if_neg h3, Nat.add_zero, p4]; omega
  | fn =>
    obtain ⟨q0, q1, q2, q3⟩ := hp
    unfold stepO at hs
    simp only at hs
    split at hs
    · rename_i h1
      cases hs
      refine ⟨by omega, hpos (c := 0) q1, by rw [hK, hP]; exact kd_in (by omega), .inr (by rw [hK, hO]; omega)⟩
    · split at hs
      · rename_i h1 h2
        cases hs
        have ho : opA l k = 248 := by rw [hO]; omega
        refine ⟨by omega, hpos (c := 0) q1, by rw [hK, hP]; exact kd_in (by omega), .inl ho, ?_, k, by omega, by omega, ho⟩
        obtain ⟨m, rfl⟩ : ∃ m, k = m + 1 := ⟨k - 1, by omega⟩
        rw [hK, firstF, if_pos ho]
        exact decide_eq_true q3
      · cases hs
  | blk f =>
    obtain ⟨q0, q1, q2, q3, q4, q5⟩ := hp
    unfold stepO at hs
    simp only at hs
    obtain ⟨c, hcf⟩ : ∃ c : Int, (if f = true then (5 : Int) else 4) = c := ⟨_, rfl⟩
    rw [hcf] at hs
    split at hs
    · rename_i h1
      cases hs
      have ho : opA l k = if f = true then 59 else 245 := by
        rw [hO]
        cases f
        · rw [if_neg (by decide)] at hcf ⊢; omega
        · rw [if_pos rfl] at hcf ⊢; omega
      refine ⟨by omega, hpos (c := 0) q1, ?_, .inr ho, ?_, ?_⟩
      · rw [hK, hP]; refine kd_in ?_
        cases f
        · rw [if_neg (by decide)] at hcf; omega
        · rw [if_pos rfl] at hcf; omega
      · obtain ⟨m, rfl⟩ : ∃ m, k = m + 1 := ⟨k - 1, by omega⟩
        rw [hK, firstF, if_neg (by rw [ho]; cases f <;> decide)]
        exact q4
      · obtain ⟨j, h2, h3, h4⟩ := q5
        exact ⟨j, h2, by omega, h4⟩
    · split at hs
      · rename_i h1 h2
        cases hs
        exact ⟨by omega, hpos (c := 0) q1, by rw [hK, hP]; exact kd_in (by omega), h2⟩
      · split at hs
        · rename_i h1 h2 h3
          cases hs
          exact ⟨by omega, hpos (c := 0) q1, by rw [hK, hP]; exact kd_in (by omega), rfl, by omega⟩
        · split at hs
          · rename_i h1 h2 h3 h4
            cases hs
            exact ⟨by omega, hpos (c := 0) q1, by rw [hK, hP]; exact kd_in (by omega), by rw [hK, hO]; omega⟩
          · cases hs
  | pl =>
    obtain ⟨q0, q1, q2, q3⟩ := hp
    unfold stepO at hs
    simp only at hs
    split at hs
    · rename_i h2
      cases hs
      exact ⟨by omega, hpos (c := 0) q1, by rw [hK, hP]; exact kd_in (by omega), h2⟩
    · split at hs
      · rename_i h1 h2
        cases hs
        exact ⟨by omega, hpos (c := 0) q1, by rw [hK, hP]; exact kd_in (by omega), rfl, by omega⟩
      · split at hs
        · rename_i h1 h2 h3
          cases hs
          exact ⟨by omega, hpos (c := 0) q1, by rw [hK, hP]; exact kd_in (by omega), by rw [hK, hO]; omega⟩
        · cases hs
  | mg o =>
    obtain ⟨q0, q1, q2, q3⟩ := hp
    unfold stepO at hs
    simp only at hs
    split at hs
    · rename_i h2
      cases hs
      have h3 := h2.1
      exact ⟨by omega, hpos (c := 0) q1, by rw [hK, hP]; exact kd_in (by omega), by rw [hK, hO]; omega⟩
    · cases hs
  | en =>
    obtain ⟨q0, q1, q2, q3⟩ := hp
    unfold stepO at hs
    simp only at hs
    split at hs
    · rename_i h2
      cases hs
      have ho : opA l k = 248 := by rw [hO]; omega
      refine ⟨by omega, hpos (c := 0) q1, by rw [hK, hP]; exact kd_in (by omega), .inl ho, ?_, k, by omega, by omega, ho⟩
      obtain ⟨m, rfl⟩ : ∃ m, k = m + 1 := ⟨k - 1, by omega⟩
      rw [hK, firstF, if_pos ho]
      refine decide_eq_false ?_
      rw [show m + 1 - 1 = m from rfl] at q3
      omega
    · split at hs
      · rename_i h1 h2
        cases hs
        exact ⟨by omega, hpos (c := 0) q1, by rw [hK, hP]; exact kd_in (by omega), by rw [hK, hO]; omega⟩
      · cases hs
  | zz =>
    obtain ⟨q0, q1, q2, q3⟩ := hp
    unfold stepO at hs
    simp only at hs
    split at hs
    · rename_i h2
      cases hs
      exact ⟨by omega, hpos (c := 0) q1, by rw [hK, hP]; exact kd_in (by omega), .inl (by rw [hK, hO]; omega)⟩
    · cases hs
theorem ahead_of {l : List InstL} (hkn : ∀ i ∈ l, i.Known) : ∀ {k : Nat} {S : LS}, k ≤ l.length → dfaF (l.take k) = some S → aheadS l k S
  | 0, S, _, hd => by
    rw [List.take_zero, dfa_nil] at hd
    cases hd
    exact ⟨by omega, fun j hj => absurd hj (by omega), fun e => absurd rfl e, by simp [cnt1]⟩
  | k + 1, S, hk, hd => by
    obtain ⟨S0, h0⟩ := dfa_prefix hk hd (show k ≤ k + 1 by omega)
    exact ahead_step hkn (by omega) (ahead_of hkn (by omega) h0) (by rw [← dfa_next (by omega) h0]; exact hd)
end Go.SK
namespace Go.SK
theorem topA_mono {l : List InstL} (p : Nat) : topA l p ≤ topA l (p + 1) := by rw [topA]; omega
end Go.SK
namespace Go.SK
theorem mayO_iff {op ah : Int} {f : Bool} : mayO op ah f = true ↔ (op = 54 ∧ (ah = 0 ∨ ah = 56)) ∨ (op = 55 ∧ (ah = 54 ∨ ah = 55)) ∨ (op = 248 ∧ (ah = 54 ∨ ah = 55 ∨ (249 ≤ ah ∧ ah ≤ 255))) ∨ (op = 56 ∧ (249 ≤ ah ∧ ah ≤ 255)) ∨
    ((op ≠ 54 ∧ op ≠ 55 ∧ op ≠ 248 ∧ op ≠ 56) ∧ (ah ≠ 0 ∧ ah ≠ 54 ∧ ah ≠ 55 ∧ ah ≠ 56 ∧ ¬ (249 ≤ ah ∧ ah ≤ 255)) ∧ ((op = 245 ∧ (ah = 248 ∨ ah = 245) ∧ f = false) ∨ (op = 59 ∧ (ah = 248 ∨ ah = 59) ∧ f = true) ∨ (op ≠ 245 ∧ op ≠ 59 ∧ (ah = 246 → op = 249 ∨ op = 250) ∧ (ah = 247 → op = 250 ∨ op = 251)))) := by
  unfold mayO
  simp only [endsB_iff]
  split
  · rename_i h; rw [decide_eq_true_iff]; omega
  · split
    · rename_i h; rw [decide_eq_true_iff]; omega
    · split
      · rename_i h; rw [decide_eq_true_iff]; omega
      · split
        · rename_i h; rw [endsB_iff]; omega
        · split
          · rename_i h
            refine ⟨fun e => (Bool.noConfusion e), fun e => ?_⟩
            exfalso
            omega
          · rename_i a1 a2 a3 a4 a5
            split
            · rename_i h
              rw [decide_eq_true_iff]
              constructor
              · intro e; exact .inr (.inr (.inr (.inr ⟨⟨a1, a2, a3, a4⟩, by omega, .inl ⟨h, e.1, e.2⟩⟩)))
              · rintro (e | e | e | e | ⟨_, _, e | e | e⟩)
                · omega
                · omega
                · omega
                · omega
                · exact ⟨e.2.1, e.2.2⟩
                · omega
                · omega
            · rename_i b1
              split
              · rename_i h
                rw [decide_eq_true_iff]
                constructor
                · intro e; exact .inr (.inr (.inr (.inr ⟨⟨a1, a2, a3, a4⟩, by omega, .inr (.inl ⟨h, e.1, e.2⟩)⟩)))
                · rintro (e | e | e | e | ⟨_, _, e | e | e⟩)
                  · omega
                  · omega
                  · omega
                  · omega
                  · omega
                  · exact ⟨e.2.1, e.2.2⟩
                  · omega
              · rename_i b2
                have key : ∀ P : Prop, (P ↔ (ah = 246 → op = 249 ∨ op = 250) ∧ (ah = 247 → op = 250 ∨ op = 251)) → (P ↔ (op = 54 ∧ (ah = 0 ∨ ah = 56)) ∨ (op = 55 ∧ (ah = 54 ∨ ah = 55)) ∨ (op = 248 ∧ (ah = 54 ∨ ah = 55 ∨ (249 ≤ ah ∧ ah ≤ 255))) ∨ (op = 56 ∧ (249 ≤ ah ∧ ah ≤ 255)) ∨
    ((op ≠ 54 ∧ op ≠ 55 ∧ op ≠ 248 ∧ op ≠ 56) ∧ (ah ≠ 0 ∧ ah ≠ 54 ∧ ah ≠ 55 ∧ ah ≠ 56 ∧ ¬ (249 ≤ ah ∧ ah ≤ 255)) ∧ ((op = 245 ∧ (ah = 248 ∨ ah = 245) ∧ f = false) ∨ (op = 59 ∧ (ah = 248 ∨ ah = 59) ∧ f = true) ∨ (op ≠ 245 ∧ op ≠ 59 ∧ (ah = 246 → op = 249 ∨ op = 250) ∧ (ah = 247 → op = 250 ∨ op = 251))))) := by
                  intro P hP
                  rw [hP]
                  constructor
                  · intro e; exact .inr (.inr (.inr (.inr ⟨⟨a1, a2, a3, a4⟩, by omega, .inr (.inr ⟨b1, b2, e⟩)⟩)))
                  · rintro (e | e | e | e | ⟨_, _, e | e | e⟩)
                    · omega
                    · omega
                    · omega
                    · omega
                    · omega
                    · omega
                    · exact e.2.2
                refine key _ ?_
                split
                · rename_i h; rw [decide_eq_true_iff]; omega
                · split
                  · rename_i h h2; rw [decide_eq_true_iff]; omega
                  · rename_i h h2; simp; omega
theorem mayM_iff {o op : Int} : mayM o op = true ↔ (op = 251 ∧ o = 247) ∨ (op = 249 ∧ o = 246) ∨ op = 250 := by
  unfold mayM
  split
  · rw [decide_eq_true_iff]; omega
  · split
    · rw [decide_eq_true_iff]; omega
    · rw [decide_eq_true_iff]; omega
section
variable {i : InstL}
theorem step_fn : (stepO .fn i).isSome = true ↔ kdF i = 2 ∨ kdF i = 3 := by
  unfold stepO; simp only
  split
  · simp; omega
  · split
    · simp; omega
    · simp; omega
theorem step_blk {f : Bool} {c : Int} (hc : (if f = true then (5 : Int) else 4) = c) : (stepO (.blk f) i).isSome = true ↔ kdF i = c ∨ kdF i = 0 ∨ kdF i = 6 ∨ kdF i = 7 := by
  unfold stepO; simp only
  rw [hc]
  split
  · simp; omega
  · split
    · simp; omega
    · split
      · simp; omega
      · split
        · simp; omega
        · simp; omega
theorem step_pl : (stepO .pl i).isSome = true ↔ kdF i = 0 ∨ kdF i = 6 ∨ kdF i = 7 := by
  unfold stepO; simp only
  split
  · simp; omega
  · split
    · simp; omega
    · split
      · simp; omega
      · simp; omega
theorem step_mg {o : Int} : (stepO (.mg o) i).isSome = true ↔ kdF i = 7 ∧ mayM o i.op = true := by
  unfold stepO; simp only
  split
  · rename_i h; exact ⟨fun _ => h, fun _ => rfl⟩
  · rename_i h; exact ⟨fun e => (by cases e), fun e => absurd e h⟩
theorem step_en : (stepO .en i).isSome = true ↔ kdF i = 3 ∨ kdF i = 8 := by
  unfold stepO; simp only
  split
  · simp; omega
  · split
    · simp; omega
    · simp; omega
theorem step_zz : (stepO .zz i).isSome = true ↔ kdF i = 1 := by
  unfold stepO; simp only
  split
  · simp; omega
  · simp; omega
theorem step_top {p : Int} : (stepO (.top p) i).isSome = true ↔ (ptF i = 8 ∧ 1 ≤ p ∧ i.op = 54) ∨ (ptF i ≠ 8 ∧ ¬ ptF i < p ∧ ((ptF i = 1 ∧ p = 0) ∨ (ptF i ≠ 1 ∧ ¬ (1 < ptF i ∧ p = 0)))) := by
  unfold stepO; simp only
  split
  · split
    · simp; omega
    · simp; omega
  · split
    · simp; omega
    · split
      · split
        · simp; omega
        · simp; omega
      · split
        · simp; omega
        · simp; omega
end
theorem bool_iff {a b : Bool} (h : a = true ↔ b = true) : a = b := by
  cases a <;> cases b <;> simp_all
set_option maxHeartbeats 4000000 in
theorem may_step {l : List InstL} (hkn : ∀ i ∈ l, i.Known) {k : Nat} {S : LS} (h : k < l.length) (hp : aheadS l k S) : mayB l k = (stepO S (l.getD k zeroIL)).isSome := by
  have hi : (l.getD k zeroIL).Known := hkn _ (getD_memD h)
  have hpt := pt_le hi
  have hkc := kd_cases (l.getD k zeroIL)
  have hP : ptA l k = ptF (l.getD k zeroIL) := rfl
  have hO : opA l k = (l.getD k zeroIL).op := rfl
  have hle : ∀ j, j < k → ptA l j ≤ 8 := fun j hj => (pt_le (hkn _ (getD_memD (show j < l.length by omega)))).2
  have ho8 : ptF (l.getD k zeroIL) = 8 → overB l k (ptA l k) = false := fun e => by
    rw [← Bool.not_eq_true, overB_iff (by omega)]
    rintro ⟨j, h1, h2⟩
    have := hle j h1
    omega
  have hfun : 0 < k → cnt1 l k ≠ 0 → ptA l (k - 1) = 8 → mayB l k = (decide (ptF (l.getD k zeroIL) = 8) && mayO (opA l k) (opA l (k - 1)) (firstF l (k - 1))) := fun q0 q1 q2 => by
    unfold mayB
    by_cases e : ptF (l.getD k zeroIL) = 8
    · rw [ho8 e, if_neg (by decide), if_neg (by omega), if_neg (fun hx => q1 hx.2), if_neg (by omega), decide_eq_true e, Bool.true_and]
      unfold aheadF
      rw [if_pos ⟨q0, q2⟩]
    · rw [if_pos ((overB_iff (by omega)).2 ⟨k - 1, by omega, by omega⟩), decide_eq_false e, Bool.false_and]
  cases S with
  | top p =>
    obtain ⟨⟨p0, p1⟩, p2, p3, p4⟩ := hp
    have hover : ∀ q : Int, 0 ≤ q → (overB l k q = true ↔ q < p) := fun q hq => by
      rw [overB_iff (by omega)]
      constructor
      · rintro ⟨j, h1, h2⟩; have := p2 j h1; omega
      · intro hqp
        obtain ⟨j, h1, h2⟩ := p3 (by omega)
        exact ⟨j, h1, by omega⟩
    refine bool_iff ?_
    rw [step_top]
    unfold mayB
    by_cases e : ptF (l.getD k zeroIL) = 8
    · rw [ho8 e, if_neg (by decide), if_neg (by omega)]
      by_cases hc : cnt1 l k = 0
      · rw [if_pos ⟨by omega, hc⟩]
        have := p4.1 hc
        refine ⟨fun hx => (Bool.noConfusion hx), fun hx => ?_⟩
        exfalso; omega
      · rw [if_neg (fun hx => hc hx.2), if_neg (by omega)]
        have ha : aheadF l k = 0 := by
          unfold aheadF
          refine if_neg fun hx => ?_
          have := p2 (k - 1) (by omega)
          omega
        rw [ha, mayO_iff]
        have : ¬ p = 0 := fun e => hc (p4.2 e)
        omega
    · have ho := hover (ptA l k) (by omega)
      by_cases hq : ptA l k < p
      · rw [if_pos (ho.2 hq)]
        refine ⟨fun hx => (Bool.noConfusion hx), fun hx => ?_⟩
        exfalso; omega
      · rw [if_neg (fun hx => hq (ho.1 hx))]
        by_cases h1 : ptA l k = 1
        · rw [if_pos h1, decide_eq_true_iff, p4]; omega
        · rw [if_neg h1]
          by_cases h2 : 1 < ptA l k ∧ cnt1 l k = 0
          · rw [if_pos h2]
            have := p4.1 h2.2
            refine ⟨fun hx => (Bool.noConfusion hx), fun hx => ?_⟩
            exfalso; omega
          · rw [if_neg h2, if_pos (by omega)]
            refine ⟨fun _ => ?_, fun _ => rfl⟩
            by_cases hc : cnt1 l k = 0
            · have := p4.1 hc; omega
            · have : ¬ p = 0 := fun e => hc (p4.2 e); omega
  | fn =>
    obtain ⟨q0, q1, q2, q3⟩ := hp
    rw [hfun q0 q1 q2]
    refine bool_iff ?_
    rw [Bool.and_eq_true, decide_eq_true_iff, mayO_iff, step_fn]
    rcases hkc with ⟨hk, hq⟩ | ⟨hq, ⟨hk, ho⟩ | ⟨hk, ho⟩ | ⟨hk, ho⟩ | ⟨hk, ho⟩ | ⟨hk, ho⟩ | ⟨hk, ho⟩ | ⟨hk, ho⟩ | ⟨hk, ho⟩ | ⟨hk, ho⟩⟩ <;> omega
  | blk f =>
    obtain ⟨q0, q1, q2, q3, q4, q5⟩ := hp
    rw [hfun q0 q1 q2, q4]
    refine bool_iff ?_
    cases f
    · rw [if_neg (by decide)] at q3
      rw [Bool.and_eq_true, decide_eq_true_iff, mayO_iff, step_blk (c := 4) rfl]
      simp only [and_true, Bool.false_eq_true, and_false, false_or]
      rcases hkc with ⟨hk, hq⟩ | ⟨hq, ⟨hk, ho⟩ | ⟨hk, ho⟩ | ⟨hk, ho⟩ | ⟨hk, ho⟩ | ⟨hk, ho⟩ | ⟨hk, ho⟩ | ⟨hk, ho⟩ | ⟨hk, ho⟩ | ⟨hk, ho⟩⟩ <;> omega
    · rw [if_pos rfl] at q3
      rw [Bool.and_eq_true, decide_eq_true_iff, mayO_iff, step_blk (c := 5) rfl]
      simp only [and_true, Bool.true_eq_false, and_false, false_or]
      rcases hkc with ⟨hk, hq⟩ | ⟨hq, ⟨hk, ho⟩ | ⟨hk, ho⟩ | ⟨hk, ho⟩ | ⟨hk, ho⟩ | ⟨hk, ho⟩ | ⟨hk, ho⟩ | ⟨hk, ho⟩ | ⟨hk, ho⟩ | ⟨hk, ho⟩⟩ <;> omega
  | pl =>
    obtain ⟨q0, q1, q2, q3⟩ := hp
    rw [hfun q0 q1 q2]
    refine bool_iff ?_
    have hk2 := kd_cases (l.getD (k - 1) zeroIL)
    have hO2 : opA l (k - 1) = (l.getD (k - 1) zeroIL).op := rfl
    have hne : opA l (k - 1) ≠ 0 := known_pos (hkn _ (getD_memD (by omega)))
    have hB : opA l (k - 1) ≠ 54 ∧ opA l (k - 1) ≠ 55 ∧ opA l (k - 1) ≠ 56 ∧ opA l (k - 1) ≠ 248 ∧ opA l (k - 1) ≠ 245 ∧ opA l (k - 1) ≠ 59 ∧ opA l (k - 1) ≠ 246 ∧ opA l (k - 1) ≠ 247 ∧ ¬ (249 ≤ opA l (k - 1) ∧ opA l (k - 1) ≤ 255) := by omega
    clear hk2
    rw [Bool.and_eq_true, decide_eq_true_iff, mayO_iff, step_pl]
    cases firstF l (k - 1)
    · simp only [and_true, Bool.false_eq_true, and_false, false_or]; rcases hkc with ⟨hk, hq⟩ | ⟨hq, ⟨hk, ho⟩ | ⟨hk, ho⟩ | ⟨hk, ho⟩ | ⟨hk, ho⟩ | ⟨hk, ho⟩ | ⟨hk, ho⟩ | ⟨hk, ho⟩ | ⟨hk, ho⟩ | ⟨hk, ho⟩⟩ <;> omega
    · simp only [and_true, Bool.true_eq_false, and_false, false_or]; rcases hkc with ⟨hk, hq⟩ | ⟨hq, ⟨hk, ho⟩ | ⟨hk, ho⟩ | ⟨hk, ho⟩ | ⟨hk, ho⟩ | ⟨hk, ho⟩ | ⟨hk, ho⟩ | ⟨hk, ho⟩ | ⟨hk, ho⟩ | ⟨hk, ho⟩⟩ <;> omega
  | mg o =>
    obtain ⟨q0, q1, q2, q3, q4⟩ := hp
    rw [hfun q0 q1 q2]
    refine bool_iff ?_
    have hq4 : opA l (k - 1) = 246 ∨ opA l (k - 1) = 247 := by omega
    rw [Bool.and_eq_true, decide_eq_true_iff, mayO_iff, step_mg, mayM_iff, ← q3]
    generalize opA l (k - 1) = ah at *
    have hB : ah ≠ 0 ∧ ah ≠ 54 ∧ ah ≠ 55 ∧ ah ≠ 56 ∧ ¬ (249 ≤ ah ∧ ah ≤ 255) := by omega
    have hC : ¬ (ah = 248 ∨ ah = 245) ∧ ¬ (ah = 248 ∨ ah = 59) := by omega
    simp only [hB, hC, ne_eq, not_false_eq_true, and_self, false_and, and_false, false_or, true_and]
    rcases hkc with ⟨hk, hq⟩ | ⟨hq, ⟨hk, ho⟩ | ⟨hk, ho⟩ | ⟨hk, ho⟩ | ⟨hk, ho⟩ | ⟨hk, ho⟩ | ⟨hk, ho⟩ | ⟨hk, ho⟩ | ⟨hk, ho⟩ | ⟨hk, ho⟩⟩ <;> omega
  | en =>
    obtain ⟨q0, q1, q2, q3⟩ := hp
    rw [hfun q0 q1 q2]
    refine bool_iff ?_
    rw [Bool.and_eq_true, decide_eq_true_iff, mayO_iff, step_en]
    rcases hkc with ⟨hk, hq⟩ | ⟨hq, ⟨hk, ho⟩ | ⟨hk, ho⟩ | ⟨hk, ho⟩ | ⟨hk, ho⟩ | ⟨hk, ho⟩ | ⟨hk, ho⟩ | ⟨hk, ho⟩ | ⟨hk, ho⟩ | ⟨hk, ho⟩⟩ <;> omega
  | zz =>
    obtain ⟨q0, q1, q2, q3⟩ := hp
    rw [hfun q0 q1 q2]
    refine bool_iff ?_
    rw [Bool.and_eq_true, decide_eq_true_iff, mayO_iff, step_zz]
    rcases hkc with ⟨hk, hq⟩ | ⟨hq, ⟨hk, ho⟩ | ⟨hk, ho⟩ | ⟨hk, ho⟩ | ⟨hk, ho⟩ | ⟨hk, ho⟩ | ⟨hk, ho⟩ | ⟨hk, ho⟩ | ⟨hk, ho⟩ | ⟨hk, ho⟩⟩ <;> omega
end Go.SK
namespace Go.SK
theorem label_of {l : List InstL} (hkn : ∀ i ∈ l, i.Known) {k : Nat} {S : LS} (hk : k ≤ l.length) (hp : aheadS l k S) (h : aheadF l k = 248 ∨ aheadF l k = 245 ∨ aheadF l k = 59) : 0 < k ∧ ∃ j, 1 ≤ j ∧ j ≤ k - 1 ∧ opA l j = 248 := by
  unfold aheadF at h
  split at h
  · rename_i h0
    cases S with
    | top p =>
      obtain ⟨⟨p0, p1⟩, p2, p3, p4⟩ := hp
      have := p2 (k - 1) (by omega)
      omega
    | fn => obtain ⟨q0, q1, q2, q3⟩ := hp; omega
    | blk f => obtain ⟨q0, q1, q2, q3, q4, q5⟩ := hp; exact ⟨q0, q5⟩
    | pl =>
      obtain ⟨q0, q1, q2, q3⟩ := hp
      have hk2 := kd_cases (l.getD (k - 1) zeroIL)
      have hO2 : opA l (k - 1) = (l.getD (k - 1) zeroIL).op := rfl
      omega
    | mg o => obtain ⟨q0, q1, q2, q3, q4⟩ := hp; omega
    | en => obtain ⟨q0, q1, q2, q3⟩ := hp; omega
    | zz => obtain ⟨q0, q1, q2, q3⟩ := hp; omega
  · omega
theorem fin_of {l : List InstL} (hkn : ∀ i ∈ l, i.Known) {k : Nat} {S : LS} (hk : k ≤ l.length) (hp : aheadS l k S) : S.fin = true ↔ ¬ (cnt1 l k = 0 ∨ (ptA l (k - 1) = 8 ∧ opA l (k - 1) ≠ 56)) := by
  cases S with
  | top p =>
    obtain ⟨⟨p0, p1⟩, p2, p3, p4⟩ := hp
    unfold LS.fin
    rw [decide_eq_true_iff]
    by_cases hc : cnt1 l k = 0
    · have := p4.1 hc; omega
    · have h0 : ¬ p = 0 := fun e => hc (p4.2 e)
      have hk0 : 0 < k := Nat.pos_of_ne_zero fun e => by subst e; exact hc (by simp [cnt1])
      have := p2 (k - 1) (by omega)
      omega
  | fn => obtain ⟨q0, q1, q2, q3⟩ := hp; unfold LS.fin; simp only [Bool.false_eq_true, false_iff]; omega
  | blk f =>
    obtain ⟨q0, q1, q2, q3, q4, q5⟩ := hp; unfold LS.fin; simp only [Bool.false_eq_true, false_iff]
    cases f
    · rw [if_neg (by decide)] at q3; omega
    · rw [if_pos rfl] at q3; omega
  | pl =>
    obtain ⟨q0, q1, q2, q3⟩ := hp; unfold LS.fin; simp only [Bool.false_eq_true, false_iff]
    have hk2 := kd_cases (l.getD (k - 1) zeroIL)
    have hO2 : opA l (k - 1) = (l.getD (k - 1) zeroIL).op := rfl
    omega
  | mg o => obtain ⟨q0, q1, q2, q3, q4⟩ := hp; unfold LS.fin; simp only [Bool.false_eq_true, false_iff]; omega
  | en => obtain ⟨q0, q1, q2, q3⟩ := hp; unfold LS.fin; simp only [Bool.false_eq_true, false_iff]; omega
  | zz => obtain ⟨q0, q1, q2, q3⟩ := hp; unfold LS.fin; simp only [true_iff]; omega
theorem may_yes {l : List InstL} (hkn : ∀ i ∈ l, i.Known) {k : Nat} {S : LS} (h : k < l.length) (hd : dfaF (l.take k) = some S) (hm : mayB l k = true) : ∃ S', dfaF (l.take (k + 1)) = some S' := by
  rw [may_step hkn h (ahead_of hkn (by omega) hd)] at hm
  obtain ⟨S', hs⟩ := Option.isSome_iff_exists.1 hm
  exact ⟨S', by rw [dfa_next h hd]; exact hs⟩
theorem may_no {l : List InstL} (hkn : ∀ i ∈ l, i.Known) {k : Nat} {S : LS} (h : k < l.length) (hd : dfaF (l.take k) = some S) (hm : mayB l k = false) : orderF l = (50, (k : Int)) := by
  rw [may_step hkn h (ahead_of hkn (by omega) hd)] at hm
  refine order_stop h hd ?_
  cases hs : stepO S (l.getD k zeroIL) with
  | none => rfl
  | some S' => rw [hs] at hm; cases hm
theorem order_end {l : List InstL} (hkn : ∀ i ∈ l, i.Known) {S : LS} (hd : dfaF (l.take l.length) = some S) : (cnt1 l l.length = 0 ∨ (ptA l (l.length - 1) = 8 ∧ opA l (l.length - 1) ≠ 56) → orderF l = (51, (l.length : Int))) ∧ (¬ (cnt1 l l.length = 0 ∨ (ptA l (l.length - 1) = 8 ∧ opA l (l.length - 1) ≠ 56)) → orderF l = (0, 0)) := by
  have hf := fin_of hkn (Nat.le_refl _) (ahead_of hkn (Nat.le_refl _) hd)
  constructor
  · intro h
    refine order_open hd ?_
    rw [← Bool.not_eq_true, hf]
    exact fun e => e h
  · intro h; exact order_good hd (hf.2 h)
theorem first_at {l : List InstL} {k : Nat} (h1 : 1 ≤ k) (h : opA l k = 248) : firstF l k = decide (opA l (k - 1) = 54 ∨ opA l (k - 1) = 55) := by
  obtain ⟨m, rfl⟩ : ∃ m, k = m + 1 := ⟨k - 1, by omega⟩
  rw [firstF, if_pos h]; rfl
theorem first_back {l : List InstL} {k : Nat} (h1 : 1 ≤ k) (h : ¬ opA l k = 248) : firstF l k = firstF l (k - 1) := by
  obtain ⟨m, rfl⟩ : ∃ m, k = m + 1 := ⟨k - 1, by omega⟩
  rw [firstF, if_neg h]; rfl
theorem may_248 {ah : Int} (h1 : ¬ ah = 54) (h2 : ¬ ah = 55) : endsB ah = decide (ah = 54 ∨ ah = 55 ∨ endsB ah = true) := by
  cases he : endsB ah
  · exact (decide_eq_false (fun h => h.elim h1 (fun h => h.elim h2 (fun h => by cases h)))).symm
  · exact (decide_eq_true (.inr (.inr rfl))).symm
theorem may_245 {ah : Int} {f : Bool} (h : ah = 248 ∨ ah = 245) : (!f) = decide ((ah = 248 ∨ ah = 245) ∧ f = false) := by
  cases f
  · exact (decide_eq_true ⟨h, rfl⟩).symm
  · exact (decide_eq_false (fun h => by cases h.2)).symm
theorem may_59 {ah : Int} {f : Bool} (h : ah = 248 ∨ ah = 59) : f = decide ((ah = 248 ∨ ah = 59) ∧ f = true) := by
  cases f
  · exact (decide_eq_false (fun h => by cases h.2)).symm
  · exact (decide_eq_true ⟨h, rfl⟩).symm
end Go.SK
namespace Go.SK
open Go Go.Proofs
open Go.RowKit
theorem R5ref1_Room (s : List UInt8) (w : World) (hl : s.length ≤ 9000000000000000000) : Ret Try.prog 48 #[str s] w (fun v w' => v = .int .i64 ((s.length / 4 + 1 : Nat) : Int) ∧ St w NoM [] [] w') := by
 refine Ret.enter (args := [str s]) Try.func48 rfl rfl rfl ?_
 have hst := St.init w
 refine SR <| AI rfl <| NSR <| MS rfl <| CN (Op1.lenS (rest := []) ty9 rfl ?_)
 first | refine CN (Op1.quoN rfl rfl (by omega) (by omega) rfl (wrap_i64 (by omega) (by omega)) ?_) | refine CN (Op1.quo rfl rfl (by omega) ?_)
 refine CN <| Op1.addN rfl rfl rfl (wrap_i64 (by omega) (by omega)) <| AI rfl <| NL <| run_ret1 Try.func48 rfl (TP (v := .int .i64 _) rfl) ?_
 exact ⟨congrArg (Value.int .i64) (by omega), hst.pure⟩
end Go.SK
namespace Go.SK
open Go Go.Proofs
theorem ent47 : Enters Try.prog 47 := ⟨Try.f47, _, Try.func47, by kernel_rfl, rfl⟩
end Go.SK
namespace Go.SK
open Go Go.Proofs
open Go.RowKit
theorem R5ref_form (op : Int) (name : Byts) (t r : Bool) (fixed rest : Byts) (most part : Int) (w : World) : Ret Try.prog 47 #[.int .u16 op, str name, .bool t, .bool r, str fixed, str rest, .int .i64 most, .int .u8 part] w (fun v w' => v = .agg #[.int .u16 op, str name, .bool t, .bool r, str fixed, str rest, .int .i64 most, .int .u8 part] ∧ St w NoM [] [] w') := by
 refine Ret.enter (args := [.int .u16 op, str name, .bool t, .bool r, str fixed, str rest, .int .i64 most, .int .u8 part]) Try.func47 rfl rfl rfl ?_
 have hst := St.init w
 refine SR <| CN <| Op1.alloc hst ty74 fun w b16 hst => NSR <| MH rfl <| MS rfl <| MB rfl <| MB rfl <| MS rfl <| MS rfl <| MI rfl <| MC rfl <| CN (Op1.buildStruct ty74 stf74 (.c (v := .int .u16 _) rfl (h := (.c (v := str _) rfl (h := (.c (v := .bool _) rfl (h := (.c (v := .bool _) rfl (h := (.c (v := str _) rfl (h := (.c (v := str _) rfl (h := (.c (v := .int .i64 _) rfl (h := (.c (v := .int .u8 _) rfl (h := .nil)))))))))))))))) ?_)
 refine CN (SO (v := .agg #[.int .u16 _, str _, .bool _, .bool _, str _, str _, .int .i64 _, .int .u8 _]) hst ty74 rfl rfl (.here) fun w hst => ?_)
 refine NL <| run_ret1 Try.func47 rfl (RV.cellA (vs := [.int .u16 _, str _, .bool _, .bool _, str _, str _, .int .i64 _, .int .u8 _]) rfl ty74 rfl rfl (cells_of_obj (n := 8) (hst.objL (.head _)) _ rfl)) ?_
 exact ⟨rfl, hst.pure⟩
set_option maxRecDepth 4000 in
set_option maxHeartbeats 4000000 in
theorem R5ref_Of (op : Int) (w : World) : Ret Try.prog 35 #[.int .u16 op] w (fun v w' => v = formV (refS op) ∧ St w NoM [] [] w') := by
 refine Ret.enter (args := [.int .u16 op]) Try.func35 rfl rfl rfl ?_
 have hst := St.init w
 refine SR <| CN <| Op1.alloc hst ty74 fun w b2 hst => AB rfl <| NL <| SQ <| SR <| MH rfl <| NL <| run_block <| SR <| CN <| Op1.eql rfl rfl <| AB rfl ?_
 refine NL <| run_cond_dec rfl (fun g1 => ?_) (fun g1 => ?_)
 · skip
   refine SR <| MH rfl <| CN <| Op1.call8 (v1 := .int .u16 _) (v2 := str _) (v3 := .bool _) (v4 := .bool _) (v5 := str _) (v6 := str _) (v7 := .int .i64 _) (v8 := .int .u8 _) ent47 rfl rfl rfl rfl rfl rfl rfl rfl rfl <| Ret.det (R5ref_form _ _ _ _ _ _ _ _ _) hst fun w hst => CN (SO (v := .agg #[.int .u16 _, str _, .bool _, .bool _, str _, str _, .int .i64 _, .int .u8 _]) hst ty74 rfl rfl (.here) fun w hst => ?_)
   refine AB rfl <| NL <| run_ret2 Try.func35 rfl (RV.cellA (vs := [.int .u16 _, str _, .bool _, .bool _, str _, str _, .int .i64 _, .int .u8 _]) rfl ty74 rfl rfl (cells_of_obj (n := 8) (hst.objL (.head _)) _ rfl)) (TP (v := .bool _) rfl) ?_
   subst g1
   have e : refS 1 = some ⟨1, [79, 112, 85, 110, 100, 101, 102], true, true, [], [], 0, 7⟩ := by decide +kernel
   rw [e]
   exact ⟨rfl, hst.pure⟩
 refine SR <| CN <| Op1.eql rfl rfl <| AB rfl <| NL <| run_cond_dec rfl (fun g2 => ?_) (fun g2 => ?_)
 · skip
   refine SR <| MH rfl <| CN <| Op1.call8 (v1 := .int .u16 _) (v2 := str _) (v3 := .bool _) (v4 := .bool _) (v5 := str _) (v6 := str _) (v7 := .int .i64 _) (v8 := .int .u8 _) ent47 rfl rfl rfl rfl rfl rfl rfl rfl rfl <| Ret.det (R5ref_form _ _ _ _ _ _ _ _ _) hst fun w hst => CN (SO (v := .agg #[.int .u16 _, str _, .bool _, .bool _, str _, str _, .int .i64 _, .int .u8 _]) hst ty74 rfl rfl (.here) fun w hst => ?_)
   refine AB rfl <| NL <| run_ret2 Try.func35 rfl (RV.cellA (vs := [.int .u16 _, str _, .bool _, .bool _, str _, str _, .int .i64 _, .int .u8 _]) rfl ty74 rfl rfl (cells_of_obj (n := 8) (hst.objL (.head _)) _ rfl)) (TP (v := .bool _) rfl) ?_
   subst g2
   have e : refS 3 = some ⟨3, [79, 112, 83, 111, 117, 114, 99, 101], false, false, [108, 110], [], 0, 4⟩ := by decide +kernel
   rw [e]
   exact ⟨rfl, hst.pure⟩
 refine SR <| CN <| Op1.eql rfl rfl <| AB rfl <| NL <| run_cond_dec rfl (fun g3 => ?_) (fun g3 => ?_)
 · skip
   refine SR <| MH rfl <| CN <| Op1.call8 (v1 := .int .u16 _) (v2 := str _) (v3 := .bool _) (v4 := .bool _) (v5 := str _) (v6 := str _) (v7 := .int .i64 _) (v8 := .int .u8 _) ent47 rfl rfl rfl rfl rfl rfl rfl rfl rfl <| Ret.det (R5ref_form _ _ _ _ _ _ _ _ _) hst fun w hst => CN (SO (v := .agg #[.int .u16 _, str _, .bool _, .bool _, str _, str _, .int .i64 _, .int .u8 _]) hst ty74 rfl rfl (.here) fun w hst => ?_)
   refine AB rfl <| NL <| run_ret2 Try.func35 rfl (RV.cellA (vs := [.int .u16 _, str _, .bool _, .bool _, str _, str _, .int .i64 _, .int .u8 _]) rfl ty74 rfl rfl (cells_of_obj (n := 8) (hst.objL (.head _)) _ rfl)) (TP (v := .bool _) rfl) ?_
   subst g3
   have e : refS 5 = some ⟨5, [79, 112, 78, 97, 109, 101], false, false, [105, 115], [], 0, 5⟩ := by decide +kernel
   rw [e]
   exact ⟨rfl, hst.pure⟩
 refine SR <| CN <| Op1.eql rfl rfl <| AB rfl <| NL <| run_cond_dec rfl (fun g4 => ?_) (fun g4 => ?_)
 · skip
   refine SR <| MH rfl <| CN <| Op1.call8 (v1 := .int .u16 _) (v2 := str _) (v3 := .bool _) (v4 := .bool _) (v5 := str _) (v6 := str _) (v7 := .int .i64 _) (v8 := .int .u8 _) ent47 rfl rfl rfl rfl rfl rfl rfl rfl rfl <| Ret.det (R5ref_form _ _ _ _ _ _ _ _ _) hst fun w hst => CN (SO (v := .agg #[.int .u16 _, str _, .bool _, .bool _, str _, str _, .int .i64 _, .int .u8 _]) hst ty74 rfl rfl (.here) fun w hst => ?_)
   refine AB rfl <| NL <| run_ret2 Try.func35 rfl (RV.cellA (vs := [.int .u16 _, str _, .bool _, .bool _, str _, str _, .int .i64 _, .int .u8 _]) rfl ty74 rfl rfl (cells_of_obj (n := 8) (hst.objL (.head _)) _ rfl)) (TP (v := .bool _) rfl) ?_
   subst g4
   have e : refS 6 = some ⟨6, [79, 112, 77, 101, 109, 98, 101, 114, 78, 97, 109, 101], false, false, [105, 110, 115], [], 0, 5⟩ := by decide +kernel
   rw [e]
   exact ⟨rfl, hst.pure⟩
 refine SR <| CN <| Op1.eql rfl rfl <| AB rfl <| NL <| run_cond_dec rfl (fun g5 => ?_) (fun g5 => ?_)
 · skip
   refine SR <| MH rfl <| CN <| Op1.call8 (v1 := .int .u16 _) (v2 := str _) (v3 := .bool _) (v4 := .bool _) (v5 := str _) (v6 := str _) (v7 := .int .i64 _) (v8 := .int .u8 _) ent47 rfl rfl rfl rfl rfl rfl rfl rfl rfl <| Ret.det (R5ref_form _ _ _ _ _ _ _ _ _) hst fun w hst => CN (SO (v := .agg #[.int .u16 _, str _, .bool _, .bool _, str _, str _, .int .i64 _, .int .u8 _]) hst ty74 rfl rfl (.here) fun w hst => ?_)
   refine AB rfl <| NL <| run_ret2 Try.func35 rfl (RV.cellA (vs := [.int .u16 _, str _, .bool _, .bool _, str _, str _, .int .i64 _, .int .u8 _]) rfl ty74 rfl rfl (cells_of_obj (n := 8) (hst.objL (.head _)) _ rfl)) (TP (v := .bool _) rfl) ?_
   subst g5
   have e : refS 7 = some ⟨7, [79, 112, 83, 116, 114, 105, 110, 103], false, true, [115], [], 0, 4⟩ := by decide +kernel
   rw [e]
   exact ⟨rfl, hst.pure⟩
 refine SR <| CN <| Op1.eql rfl rfl <| AB rfl <| NL <| run_cond_dec rfl (fun g6 => ?_) (fun g6 => ?_)
 · skip
   refine SR <| MH rfl <| CN <| Op1.call8 (v1 := .int .u16 _) (v2 := str _) (v3 := .bool _) (v4 := .bool _) (v5 := str _) (v6 := str _) (v7 := .int .i64 _) (v8 := .int .u8 _) ent47 rfl rfl rfl rfl rfl rfl rfl rfl rfl <| Ret.det (R5ref_form _ _ _ _ _ _ _ _ _) hst fun w hst => CN (SO (v := .agg #[.int .u16 _, str _, .bool _, .bool _, str _, str _, .int .i64 _, .int .u8 _]) hst ty74 rfl rfl (.here) fun w hst => ?_)
   refine AB rfl <| NL <| run_ret2 Try.func35 rfl (RV.cellA (vs := [.int .u16 _, str _, .bool _, .bool _, str _, str _, .int .i64 _, .int .u8 _]) rfl ty74 rfl rfl (cells_of_obj (n := 8) (hst.objL (.head _)) _ rfl)) (TP (v := .bool _) rfl) ?_
   subst g6
   have e : refS 14 = some ⟨14, [79, 112, 77, 101, 109, 111, 114, 121, 77, 111, 100, 101, 108], false, false, [97, 109], [], 0, 1⟩ := by decide +kernel
   rw [e]
   exact ⟨rfl, hst.pure⟩
 refine SR <| CN <| Op1.eql rfl rfl <| AB rfl <| NL <| run_cond_dec rfl (fun g7 => ?_) (fun g7 => ?_)
 · skip
   refine SR <| MH rfl <| CN <| Op1.call8 (v1 := .int .u16 _) (v2 := str _) (v3 := .bool _) (v4 := .bool _) (v5 := str _) (v6 := str _) (v7 := .int .i64 _) (v8 := .int .u8 _) ent47 rfl rfl rfl rfl rfl rfl rfl rfl rfl <| Ret.det (R5ref_form _ _ _ _ _ _ _ _ _) hst fun w hst => CN (SO (v := .agg #[.int .u16 _, str _, .bool _, .bool _, str _, str _, .int .i64 _, .int .u8 _]) hst ty74 rfl rfl (.here) fun w hst => ?_)
   refine AB rfl <| NL <| run_ret2 Try.func35 rfl (RV.cellA (vs := [.int .u16 _, str _, .bool _, .bool _, str _, str _, .int .i64 _, .int .u8 _]) rfl ty74 rfl rfl (cells_of_obj (n := 8) (hst.objL (.head _)) _ rfl)) (TP (v := .bool _) rfl) ?_
   subst g7
   have e : refS 15 = some ⟨15, [79, 112, 69, 110, 116, 114, 121, 80, 111, 105, 110, 116], false, false, [101, 105, 115], [105], 0, 2⟩ := by decide +kernel
   rw [e]
   exact ⟨rfl, hst.pure⟩
 refine SR <| CN <| Op1.eql rfl rfl <| AB rfl <| NL <| Run.forget [(0, .int .u16 _), (2, .pointer (some ⟨_, _, none⟩)), (4, .int .u16 _), (33, .bool _)] ⟨rfl, rfl, rfl, rfl, trivial⟩ fun f => run_cond_dec rfl (fun g8 => ?_) (fun g8 => ?_)
 · skip
   refine SR <| MH rfl <| CN <| Op1.call8 (v1 := .int .u16 _) (v2 := str _) (v3 := .bool _) (v4 := .bool _) (v5 := str _) (v6 := str _) (v7 := .int .i64 _) (v8 := .int .u8 _) ent47 rfl rfl rfl rfl rfl rfl rfl rfl rfl <| Ret.det (R5ref_form _ _ _ _ _ _ _ _ _) hst fun w hst => CN (SO (v := .agg #[.int .u16 _, str _, .bool _, .bool _, str _, str _, .int .i64 _, .int .u8 _]) hst ty74 rfl rfl (.here) fun w hst => ?_)
   refine AB rfl <| NL <| run_ret2 Try.func35 rfl (RV.cellA (vs := [.int .u16 _, str _, .bool _, .bool _, str _, str _, .int .i64 _, .int .u8 _]) rfl ty74 rfl rfl (cells_of_obj (n := 8) (hst.objL (.head _)) _ rfl)) (TP (v := .bool _) rfl) ?_
   subst g8
   have e : refS 16 = some ⟨16, [79, 112, 69, 120, 101, 99, 117, 116, 105, 111, 110, 77, 111, 100, 101], false, false, [105, 120], [], 0, 3⟩ := by decide +kernel
   rw [e]
   exact ⟨rfl, hst.pure⟩
 refine SR <| CN <| Op1.eql rfl rfl <| AB rfl <| NL <| run_cond_dec rfl (fun g9 => ?_) (fun g9 => ?_)
 · skip
   refine SR <| MH rfl <| CN <| Op1.call8 (v1 := .int .u16 _) (v2 := str _) (v3 := .bool _) (v4 := .bool _) (v5 := str _) (v6 := str _) (v7 := .int .i64 _) (v8 := .int .u8 _) ent47 rfl rfl rfl rfl rfl rfl rfl rfl rfl <| Ret.det (R5ref_form _ _ _ _ _ _ _ _ _) hst fun w hst => CN (SO (v := .agg #[.int .u16 _, str _, .bool _, .bool _, str _, str _, .int .i64 _, .int .u8 _]) hst ty74 rfl rfl (.here) fun w hst => ?_)
   refine AB rfl <| NL <| run_ret2 Try.func35 rfl (RV.cellA (vs := [.int .u16 _, str _, .bool _, .bool _, str _, str _, .int .i64 _, .int .u8 _]) rfl ty74 rfl rfl (cells_of_obj (n := 8) (hst.objL (.head _)) _ rfl)) (TP (v := .bool _) rfl) ?_
   subst g9
   have e : refS 17 = some ⟨17, [79, 112, 67, 97, 112, 97, 98, 105, 108, 105, 116, 121], false, false, [107], [], 0, 0⟩ := by decide +kernel
   rw [e]
   exact ⟨rfl, hst.pure⟩
 refine SR <| CN <| Op1.eql rfl rfl <| AB rfl <| NL <| run_cond_dec rfl (fun g10 => ?_) (fun g10 => ?_)
 · skip
   refine SR <| MH rfl <| CN <| Op1.call8 (v1 := .int .u16 _) (v2 := str _) (v3 := .bool _) (v4 := .bool _) (v5 := str _) (v6 := str _) (v7 := .int .i64 _) (v8 := .int .u8 _) ent47 rfl rfl rfl rfl rfl rfl rfl rfl rfl <| Ret.det (R5ref_form _ _ _ _ _ _ _ _ _) hst fun w hst => CN (SO (v := .agg #[.int .u16 _, str _, .bool _, .bool _, str _, str _, .int .i64 _, .int .u8 _]) hst ty74 rfl rfl (.here) fun w hst => ?_)
   refine AB rfl <| NL <| run_ret2 Try.func35 rfl (RV.cellA (vs := [.int .u16 _, str _, .bool _, .bool _, str _, str _, .int .i64 _, .int .u8 _]) rfl ty74 rfl rfl (cells_of_obj (n := 8) (hst.objL (.head _)) _ rfl)) (TP (v := .bool _) rfl) ?_
   subst g10
   have e : refS 19 = some ⟨19, [79, 112, 84, 121, 112, 101, 86, 111, 105, 100], false, true, [], [], 0, 7⟩ := by decide +kernel
   rw [e]
   exact ⟨rfl, hst.pure⟩
 refine SR <| CN <| Op1.eql rfl rfl <| AB rfl <| NL <| run_cond_dec rfl (fun g11 => ?_) (fun g11 => ?_)
 · skip
   refine SR <| MH rfl <| CN <| Op1.call8 (v1 := .int .u16 _) (v2 := str _) (v3 := .bool _) (v4 := .bool _) (v5 := str _) (v6 := str _) (v7 := .int .i64 _) (v8 := .int .u8 _) ent47 rfl rfl rfl rfl rfl rfl rfl rfl rfl <| Ret.det (R5ref_form _ _ _ _ _ _ _ _ _) hst fun w hst => CN (SO (v := .agg #[.int .u16 _, str _, .bool _, .bool _, str _, str _, .int .i64 _, .int .u8 _]) hst ty74 rfl rfl (.here) fun w hst => ?_)
   refine AB rfl <| NL <| run_ret2 Try.func35 rfl (RV.cellA (vs := [.int .u16 _, str _, .bool _, .bool _, str _, str _, .int .i64 _, .int .u8 _]) rfl ty74 rfl rfl (cells_of_obj (n := 8) (hst.objL (.head _)) _ rfl)) (TP (v := .bool _) rfl) ?_
   subst g11
   have e : refS 20 = some ⟨20, [79, 112, 84, 121, 112, 101, 66, 111, 111, 108], false, true, [], [], 0, 7⟩ := by decide +kernel
   rw [e]
   exact ⟨rfl, hst.pure⟩
 refine SR <| CN <| Op1.eql rfl rfl <| AB rfl <| NL <| run_cond_dec rfl (fun g12 => ?_) (fun g12 => ?_)
 · skip
   refine SR <| MH rfl <| CN <| Op1.call8 (v1 := .int .u16 _) (v2 := str _) (v3 := .bool _) (v4 := .bool _) (v5 := str _) (v6 := str _) (v7 := .int .i64 _) (v8 := .int .u8 _) ent47 rfl rfl rfl rfl rfl rfl rfl rfl rfl <| Ret.det (R5ref_form _ _ _ _ _ _ _ _ _) hst fun w hst => CN (SO (v := .agg #[.int .u16 _, str _, .bool _, .bool _, str _, str _, .int .i64 _, .int .u8 _]) hst ty74 rfl rfl (.here) fun w hst => ?_)
   refine AB rfl <| NL <| run_ret2 Try.func35 rfl (RV.cellA (vs := [.int .u16 _, str _, .bool _, .bool _, str _, str _, .int .i64 _, .int .u8 _]) rfl ty74 rfl rfl (cells_of_obj (n := 8) (hst.objL (.head _)) _ rfl)) (TP (v := .bool _) rfl) ?_
   subst g12
   have e : refS 21 = some ⟨21, [79, 112, 84, 121, 112, 101, 73, 110, 116], false, true, [110, 110], [], 0, 7⟩ := by decide +kernel
   rw [e]
   exact ⟨rfl, hst.pure⟩
 refine SR <| CN <| Op1.eql rfl rfl <| AB rfl <| NL <| run_cond_dec rfl (fun g13 => ?_) (fun g13 => ?_)
 · skip
   refine SR <| MH rfl <| CN <| Op1.call8 (v1 := .int .u16 _) (v2 := str _) (v3 := .bool _) (v4 := .bool _) (v5 := str _) (v6 := str _) (v7 := .int .i64 _) (v8 := .int .u8 _) ent47 rfl rfl rfl rfl rfl rfl rfl rfl rfl <| Ret.det (R5ref_form _ _ _ _ _ _ _ _ _) hst fun w hst => CN (SO (v := .agg #[.int .u16 _, str _, .bool _, .bool _, str _, str _, .int .i64 _, .int .u8 _]) hst ty74 rfl rfl (.here) fun w hst => ?_)
   refine AB rfl <| NL <| run_ret2 Try.func35 rfl (RV.cellA (vs := [.int .u16 _, str _, .bool _, .bool _, str _, str _, .int .i64 _, .int .u8 _]) rfl ty74 rfl rfl (cells_of_obj (n := 8) (hst.objL (.head _)) _ rfl)) (TP (v := .bool _) rfl) ?_
   subst g13
   have e : refS 23 = some ⟨23, [79, 112, 84, 121, 112, 101, 86, 101, 99, 116, 111, 114], false, true, [105, 110], [], 0, 7⟩ := by decide +kernel
   rw [e]
   exact ⟨rfl, hst.pure⟩
 refine SR <| CN <| Op1.eql rfl rfl <| AB rfl <| NL <| run_cond_dec rfl (fun g14 => ?_) (fun g14 => ?_)
 · skip
   refine SR <| MH rfl <| CN <| Op1.call8 (v1 := .int .u16 _) (v2 := str _) (v3 := .bool _) (v4 := .bool _) (v5 := str _) (v6 := str _) (v7 := .int .i64 _) (v8 := .int .u8 _) ent47 rfl rfl rfl rfl rfl rfl rfl rfl rfl <| Ret.det (R5ref_form _ _ _ _ _ _ _ _ _) hst fun w hst => CN (SO (v := .agg #[.int .u16 _, str _, .bool _, .bool _, str _, str _, .int .i64 _, .int .u8 _]) hst ty74 rfl rfl (.here) fun w hst => ?_)
   refine AB rfl <| NL <| run_ret2 Try.func35 rfl (RV.cellA (vs := [.int .u16 _, str _, .bool _, .bool _, str _, str _, .int .i64 _, .int .u8 _]) rfl ty74 rfl rfl (cells_of_obj (n := 8) (hst.objL (.head _)) _ rfl)) (TP (v := .bool _) rfl) ?_
   subst g14
   have e : refS 28 = some ⟨28, [79, 112, 84, 121, 112, 101, 65, 114, 114, 97, 121], false, true, [105, 105], [], 0, 7⟩ := by decide +kernel
   rw [e]
   exact ⟨rfl, hst.pure⟩
 refine SR <| CN <| Op1.eql rfl rfl <| AB rfl <| NL <| run_cond_dec rfl (fun g15 => ?_) (fun g15 => ?_)
 · skip
   refine SR <| MH rfl <| CN <| Op1.call8 (v1 := .int .u16 _) (v2 := str _) (v3 := .bool _) (v4 := .bool _) (v5 := str _) (v6 := str _) (v7 := .int .i64 _) (v8 := .int .u8 _) ent47 rfl rfl rfl rfl rfl rfl rfl rfl rfl <| Ret.det (R5ref_form _ _ _ _ _ _ _ _ _) hst fun w hst => CN (SO (v := .agg #[.int .u16 _, str _, .bool _, .bool _, str _, str _, .int .i64 _, .int .u8 _]) hst ty74 rfl rfl (.here) fun w hst => ?_)
   refine AB rfl <| NL <| run_ret2 Try.func35 rfl (RV.cellA (vs := [.int .u16 _, str _, .bool _, .bool _, str _, str _, .int .i64 _, .int .u8 _]) rfl ty74 rfl rfl (cells_of_obj (n := 8) (hst.objL (.head _)) _ rfl)) (TP (v := .bool _) rfl) ?_
   subst g15
   have e : refS 30 = some ⟨30, [79, 112, 84, 121, 112, 101, 83, 116, 114, 117, 99, 116], false, true, [], [105], 0, 7⟩ := by decide +kernel
   rw [e]
   exact ⟨rfl, hst.pure⟩
 refine SR <| CN <| Op1.eql rfl rfl <| AB rfl <| NL <| run_cond_dec rfl (fun g16 => ?_) (fun g16 => ?_)
 · skip
   refine SR <| MH rfl <| CN <| Op1.call8 (v1 := .int .u16 _) (v2 := str _) (v3 := .bool _) (v4 := .bool _) (v5 := str _) (v6 := str _) (v7 := .int .i64 _) (v8 := .int .u8 _) ent47 rfl rfl rfl rfl rfl rfl rfl rfl rfl <| Ret.det (R5ref_form _ _ _ _ _ _ _ _ _) hst fun w hst => CN (SO (v := .agg #[.int .u16 _, str _, .bool _, .bool _, str _, str _, .int .i64 _, .int .u8 _]) hst ty74 rfl rfl (.here) fun w hst => ?_)
   refine AB rfl <| NL <| run_ret2 Try.func35 rfl (RV.cellA (vs := [.int .u16 _, str _, .bool _, .bool _, str _, str _, .int .i64 _, .int .u8 _]) rfl ty74 rfl rfl (cells_of_obj (n := 8) (hst.objL (.head _)) _ rfl)) (TP (v := .bool _) rfl) ?_
   subst g16
   have e : refS 32 = some ⟨32, [79, 112, 84, 121, 112, 101, 80, 111, 105, 110, 116, 101, 114], false, true, [99, 105], [], 0, 7⟩ := by decide +kernel
   rw [e]
   exact ⟨rfl, hst.pure⟩
 refine SR <| CN <| Op1.eql rfl rfl <| AB rfl <| NL <| run_cond_dec rfl (fun g17 => ?_) (fun g17 => ?_)
 · skip
   refine SR <| MH rfl <| CN <| Op1.call8 (v1 := .int .u16 _) (v2 := str _) (v3 := .bool _) (v4 := .bool _) (v5 := str _) (v6 := str _) (v7 := .int .i64 _) (v8 := .int .u8 _) ent47 rfl rfl rfl rfl rfl rfl rfl rfl rfl <| Ret.det (R5ref_form _ _ _ _ _ _ _ _ _) hst fun w hst => CN (SO (v := .agg #[.int .u16 _, str _, .bool _, .bool _, str _, str _, .int .i64 _, .int .u8 _]) hst ty74 rfl rfl (.here) fun w hst => ?_)
   refine AB rfl <| NL <| run_ret2 Try.func35 rfl (RV.cellA (vs := [.int .u16 _, str _, .bool _, .bool _, str _, str _, .int .i64 _, .int .u8 _]) rfl ty74 rfl rfl (cells_of_obj (n := 8) (hst.objL (.head _)) _ rfl)) (TP (v := .bool _) rfl) ?_
   subst g17
   have e : refS 33 = some ⟨33, [79, 112, 84, 121, 112, 101, 70, 117, 110, 99, 116, 105, 111, 110], false, true, [105], [105], 0, 7⟩ := by decide +kernel
   rw [e]
   exact ⟨rfl, hst.pure⟩
 refine SR <| CN <| Op1.eql rfl rfl <| AB rfl <| NL <| Run.forget [(0, .int .u16 _), (2, .pointer (some ⟨_, _, none⟩)), (4, .int .u16 _), (73, .bool _)] ⟨rfl, rfl, rfl, rfl, trivial⟩ fun f => run_cond_dec rfl (fun g18 => ?_) (fun g18 => ?_)
 · skip
   refine SR <| MH rfl <| CN <| Op1.call8 (v1 := .int .u16 _) (v2 := str _) (v3 := .bool _) (v4 := .bool _) (v5 := str _) (v6 := str _) (v7 := .int .i64 _) (v8 := .int .u8 _) ent47 rfl rfl rfl rfl rfl rfl rfl rfl rfl <| Ret.det (R5ref_form _ _ _ _ _ _ _ _ _) hst fun w hst => CN (SO (v := .agg #[.int .u16 _, str _, .bool _, .bool _, str _, str _, .int .i64 _, .int .u8 _]) hst ty74 rfl rfl (.here) fun w hst => ?_)
   refine AB rfl <| NL <| run_ret2 Try.func35 rfl (RV.cellA (vs := [.int .u16 _, str _, .bool _, .bool _, str _, str _, .int .i64 _, .int .u8 _]) rfl ty74 rfl rfl (cells_of_obj (n := 8) (hst.objL (.head _)) _ rfl)) (TP (v := .bool _) rfl) ?_
   subst g18
   have e : refS 41 = some ⟨41, [79, 112, 67, 111, 110, 115, 116, 97, 110, 116, 84, 114, 117, 101], true, true, [], [], 0, 7⟩ := by decide +kernel
   rw [e]
   exact ⟨rfl, hst.pure⟩
 refine SR <| CN <| Op1.eql rfl rfl <| AB rfl <| NL <| run_cond_dec rfl (fun g19 => ?_) (fun g19 => ?_)
 · skip
   refine SR <| MH rfl <| CN <| Op1.call8 (v1 := .int .u16 _) (v2 := str _) (v3 := .bool _) (v4 := .bool _) (v5 := str _) (v6 := str _) (v7 := .int .i64 _) (v8 := .int .u8 _) ent47 rfl rfl rfl rfl rfl rfl rfl rfl rfl <| Ret.det (R5ref_form _ _ _ _ _ _ _ _ _) hst fun w hst => CN (SO (v := .agg #[.int .u16 _, str _, .bool _, .bool _, str _, str _, .int .i64 _, .int .u8 _]) hst ty74 rfl rfl (.here) fun w hst => ?_)
   refine AB rfl <| NL <| run_ret2 Try.func35 rfl (RV.cellA (vs := [.int .u16 _, str _, .bool _, .bool _, str _, str _, .int .i64 _, .int .u8 _]) rfl ty74 rfl rfl (cells_of_obj (n := 8) (hst.objL (.head _)) _ rfl)) (TP (v := .bool _) rfl) ?_
   subst g19
   have e : refS 42 = some ⟨42, [79, 112, 67, 111, 110, 115, 116, 97, 110, 116, 70, 97, 108, 115, 101], true, true, [], [], 0, 7⟩ := by decide +kernel
   rw [e]
   exact ⟨rfl, hst.pure⟩
 refine SR <| CN <| Op1.eql rfl rfl <| AB rfl <| NL <| run_cond_dec rfl (fun g20 => ?_) (fun g20 => ?_)
 · skip
   refine SR <| MH rfl <| CN <| Op1.call8 (v1 := .int .u16 _) (v2 := str _) (v3 := .bool _) (v4 := .bool _) (v5 := str _) (v6 := str _) (v7 := .int .i64 _) (v8 := .int .u8 _) ent47 rfl rfl rfl rfl rfl rfl rfl rfl rfl <| Ret.det (R5ref_form _ _ _ _ _ _ _ _ _) hst fun w hst => CN (SO (v := .agg #[.int .u16 _, str _, .bool _, .bool _, str _, str _, .int .i64 _, .int .u8 _]) hst ty74 rfl rfl (.here) fun w hst => ?_)
   refine AB rfl <| NL <| run_ret2 Try.func35 rfl (RV.cellA (vs := [.int .u16 _, str _, .bool _, .bool _, str _, str _, .int .i64 _, .int .u8 _]) rfl ty74 rfl rfl (cells_of_obj (n := 8) (hst.objL (.head _)) _ rfl)) (TP (v := .bool _) rfl) ?_
   subst g20
   have e : refS 43 = some ⟨43, [79, 112, 67, 111, 110, 115, 116, 97, 110, 116], true, true, [110], [], 0, 7⟩ := by decide +kernel
   rw [e]
   exact ⟨rfl, hst.pure⟩
 refine SR <| CN <| Op1.eql rfl rfl <| AB rfl <| NL <| run_cond_dec rfl (fun g21 => ?_) (fun g21 => ?_)
 · skip
   refine SR <| MH rfl <| CN <| Op1.call8 (v1 := .int .u16 _) (v2 := str _) (v3 := .bool _) (v4 := .bool _) (v5 := str _) (v6 := str _) (v7 := .int .i64 _) (v8 := .int .u8 _) ent47 rfl rfl rfl rfl rfl rfl rfl rfl rfl <| Ret.det (R5ref_form _ _ _ _ _ _ _ _ _) hst fun w hst => CN (SO (v := .agg #[.int .u16 _, str _, .bool _, .bool _, str _, str _, .int .i64 _, .int .u8 _]) hst ty74 rfl rfl (.here) fun w hst => ?_)
   refine AB rfl <| NL <| run_ret2 Try.func35 rfl (RV.cellA (vs := [.int .u16 _, str _, .bool _, .bool _, str _, str _, .int .i64 _, .int .u8 _]) rfl ty74 rfl rfl (cells_of_obj (n := 8) (hst.objL (.head _)) _ rfl)) (TP (v := .bool _) rfl) ?_
   subst g21
   have e : refS 44 = some ⟨44, [79, 112, 67, 111, 110, 115, 116, 97, 110, 116, 67, 111, 109, 112, 111, 115, 105, 116, 101], true, true, [], [105], 0, 7⟩ := by decide +kernel
   rw [e]
   exact ⟨rfl, hst.pure⟩
 refine SR <| CN <| Op1.eql rfl rfl <| AB rfl <| NL <| run_cond_dec rfl (fun g22 => ?_) (fun g22 => ?_)
 · skip
   refine SR <| MH rfl <| CN <| Op1.call8 (v1 := .int .u16 _) (v2 := str _) (v3 := .bool _) (v4 := .bool _) (v5 := str _) (v6 := str _) (v7 := .int .i64 _) (v8 := .int .u8 _) ent47 rfl rfl rfl rfl rfl rfl rfl rfl rfl <| Ret.det (R5ref_form _ _ _ _ _ _ _ _ _) hst fun w hst => CN (SO (v := .agg #[.int .u16 _, str _, .bool _, .bool _, str _, str _, .int .i64 _, .int .u8 _]) hst ty74 rfl rfl (.here) fun w hst => ?_)
   refine AB rfl <| NL <| run_ret2 Try.func35 rfl (RV.cellA (vs := [.int .u16 _, str _, .bool _, .bool _, str _, str _, .int .i64 _, .int .u8 _]) rfl ty74 rfl rfl (cells_of_obj (n := 8) (hst.objL (.head _)) _ rfl)) (TP (v := .bool _) rfl) ?_
   subst g22
   have e : refS 46 = some ⟨46, [79, 112, 67, 111, 110, 115, 116, 97, 110, 116, 78, 117, 108, 108], true, true, [], [], 0, 7⟩ := by decide +kernel
   rw [e]
   exact ⟨rfl, hst.pure⟩
 refine SR <| CN <| Op1.eql rfl rfl <| AB rfl <| NL <| run_cond_dec rfl (fun g23 => ?_) (fun g23 => ?_)
 · skip
   refine SR <| MH rfl <| CN <| Op1.call8 (v1 := .int .u16 _) (v2 := str _) (v3 := .bool _) (v4 := .bool _) (v5 := str _) (v6 := str _) (v7 := .int .i64 _) (v8 := .int .u8 _) ent47 rfl rfl rfl rfl rfl rfl rfl rfl rfl <| Ret.det (R5ref_form _ _ _ _ _ _ _ _ _) hst fun w hst => CN (SO (v := .agg #[.int .u16 _, str _, .bool _, .bool _, str _, str _, .int .i64 _, .int .u8 _]) hst ty74 rfl rfl (.here) fun w hst => ?_)
   refine AB rfl <| NL <| run_ret2 Try.func35 rfl (RV.cellA (vs := [.int .u16 _, str _, .bool _, .bool _, str _, str _, .int .i64 _, .int .u8 _]) rfl ty74 rfl rfl (cells_of_obj (n := 8) (hst.objL (.head _)) _ rfl)) (TP (v := .bool _) rfl) ?_
   subst g23
   have e : refS 54 = some ⟨54, [79, 112, 70, 117, 110, 99, 116, 105, 111, 110], true, true, [102, 105], [], 0, 8⟩ := by decide +kernel
   rw [e]
   exact ⟨rfl, hst.pure⟩
 refine SR <| CN <| Op1.eql rfl rfl <| AB rfl <| NL <| run_cond_dec rfl (fun g24 => ?_) (fun g24 => ?_)
 · skip
   refine SR <| MH rfl <| CN <| Op1.call8 (v1 := .int .u16 _) (v2 := str _) (v3 := .bool _) (v4 := .bool _) (v5 := str _) (v6 := str _) (v7 := .int .i64 _) (v8 := .int .u8 _) ent47 rfl rfl rfl rfl rfl rfl rfl rfl rfl <| Ret.det (R5ref_form _ _ _ _ _ _ _ _ _) hst fun w hst => CN (SO (v := .agg #[.int .u16 _, str _, .bool _, .bool _, str _, str _, .int .i64 _, .int .u8 _]) hst ty74 rfl rfl (.here) fun w hst => ?_)
   refine AB rfl <| NL <| run_ret2 Try.func35 rfl (RV.cellA (vs := [.int .u16 _, str _, .bool _, .bool _, str _, str _, .int .i64 _, .int .u8 _]) rfl ty74 rfl rfl (cells_of_obj (n := 8) (hst.objL (.head _)) _ rfl)) (TP (v := .bool _) rfl) ?_
   subst g24
   have e : refS 55 = some ⟨55, [79, 112, 70, 117, 110, 99, 116, 105, 111, 110, 80, 97, 114, 97, 109, 101, 116, 101, 114], true, true, [], [], 0, 8⟩ := by decide +kernel
   rw [e]
   exact ⟨rfl, hst.pure⟩
 refine SR <| CN <| Op1.eql rfl rfl <| AB rfl <| NL <| run_cond_dec rfl (fun g25 => ?_) (fun g25 => ?_)
 · skip
   refine SR <| MH rfl <| CN <| Op1.call8 (v1 := .int .u16 _) (v2 := str _) (v3 := .bool _) (v4 := .bool _) (v5 := str _) (v6 := str _) (v7 := .int .i64 _) (v8 := .int .u8 _) ent47 rfl rfl rfl rfl rfl rfl rfl rfl rfl <| Ret.det (R5ref_form _ _ _ _ _ _ _ _ _) hst fun w hst => CN (SO (v := .agg #[.int .u16 _, str _, .bool _, .bool _, str _, str _, .int .i64 _, .int .u8 _]) hst ty74 rfl rfl (.here) fun w hst => ?_)
   refine AB rfl <| NL <| run_ret2 Try.func35 rfl (RV.cellA (vs := [.int .u16 _, str _, .bool _, .bool _, str _, str _, .int .i64 _, .int .u8 _]) rfl ty74 rfl rfl (cells_of_obj (n := 8) (hst.objL (.head _)) _ rfl)) (TP (v := .bool _) rfl) ?_
   subst g25
   have e : refS 56 = some ⟨56, [79, 112, 70, 117, 110, 99, 116, 105, 111, 110, 69, 110, 100], false, false, [], [], 0, 8⟩ := by decide +kernel
   rw [e]
   exact ⟨rfl, hst.pure⟩
 refine SR <| CN <| Op1.eql rfl rfl <| AB rfl <| NL <| run_cond_dec rfl (fun g26 => ?_) (fun g26 => ?_)
 · skip
   refine SR <| MH rfl <| CN <| Op1.call8 (v1 := .int .u16 _) (v2 := str _) (v3 := .bool _) (v4 := .bool _) (v5 := str _) (v6 := str _) (v7 := .int .i64 _) (v8 := .int .u8 _) ent47 rfl rfl rfl rfl rfl rfl rfl rfl rfl <| Ret.det (R5ref_form _ _ _ _ _ _ _ _ _) hst fun w hst => CN (SO (v := .agg #[.int .u16 _, str _, .bool _, .bool _, str _, str _, .int .i64 _, .int .u8 _]) hst ty74 rfl rfl (.here) fun w hst => ?_)
   refine AB rfl <| NL <| run_ret2 Try.func35 rfl (RV.cellA (vs := [.int .u16 _, str _, .bool _, .bool _, str _, str _, .int .i64 _, .int .u8 _]) rfl ty74 rfl rfl (cells_of_obj (n := 8) (hst.objL (.head _)) _ rfl)) (TP (v := .bool _) rfl) ?_
   subst g26
   have e : refS 57 = some ⟨57, [79, 112, 70, 117, 110, 99, 116, 105, 111, 110, 67, 97, 108, 108], true, true, [105], [105], 0, 8⟩ := by decide +kernel
   rw [e]
   exact ⟨rfl, hst.pure⟩
 refine SR <| CN <| Op1.eql rfl rfl <| AB rfl <| NL <| run_cond_dec rfl (fun g27 => ?_) (fun g27 => ?_)
 · skip
   refine SR <| MH rfl <| CN <| Op1.call8 (v1 := .int .u16 _) (v2 := str _) (v3 := .bool _) (v4 := .bool _) (v5 := str _) (v6 := str _) (v7 := .int .i64 _) (v8 := .int .u8 _) ent47 rfl rfl rfl rfl rfl rfl rfl rfl rfl <| Ret.det (R5ref_form _ _ _ _ _ _ _ _ _) hst fun w hst => CN (SO (v := .agg #[.int .u16 _, str _, .bool _, .bool _, str _, str _, .int .i64 _, .int .u8 _]) hst ty74 rfl rfl (.here) fun w hst => ?_)
   refine AB rfl <| NL <| run_ret2 Try.func35 rfl (RV.cellA (vs := [.int .u16 _, str _, .bool _, .bool _, str _, str _, .int .i64 _, .int .u8 _]) rfl ty74 rfl rfl (cells_of_obj (n := 8) (hst.objL (.head _)) _ rfl)) (TP (v := .bool _) rfl) ?_
   subst g27
   have e : refS 59 = some ⟨59, [79, 112, 86, 97, 114, 105, 97, 98, 108, 101], true, true, [99], [105], 1, 7⟩ := by decide +kernel
   rw [e]
   exact ⟨rfl, hst.pure⟩
 refine SR <| CN <| Op1.eql rfl rfl <| AB rfl <| NL <| Run.forget [(0, .int .u16 _), (2, .pointer (some ⟨_, _, none⟩)), (4, .int .u16 _), (113, .bool _)] ⟨rfl, rfl, rfl, rfl, trivial⟩ fun f => run_cond_dec rfl (fun g28 => ?_) (fun g28 => ?_)
 · skip
   refine SR <| MH rfl <| CN <| Op1.call8 (v1 := .int .u16 _) (v2 := str _) (v3 := .bool _) (v4 := .bool _) (v5 := str _) (v6 := str _) (v7 := .int .i64 _) (v8 := .int .u8 _) ent47 rfl rfl rfl rfl rfl rfl rfl rfl rfl <| Ret.det (R5ref_form _ _ _ _ _ _ _ _ _) hst fun w hst => CN (SO (v := .agg #[.int .u16 _, str _, .bool _, .bool _, str _, str _, .int .i64 _, .int .u8 _]) hst ty74 rfl rfl (.here) fun w hst => ?_)
   refine AB rfl <| NL <| run_ret2 Try.func35 rfl (RV.cellA (vs := [.int .u16 _, str _, .bool _, .bool _, str _, str _, .int .i64 _, .int .u8 _]) rfl ty74 rfl rfl (cells_of_obj (n := 8) (hst.objL (.head _)) _ rfl)) (TP (v := .bool _) rfl) ?_
   subst g28
   have e : refS 61 = some ⟨61, [79, 112, 76, 111, 97, 100], true, true, [105], [], 0, 8⟩ := by decide +kernel
   rw [e]
   exact ⟨rfl, hst.pure⟩
 refine SR <| CN <| Op1.eql rfl rfl <| AB rfl <| NL <| run_cond_dec rfl (fun g29 => ?_) (fun g29 => ?_)
 · skip
   refine SR <| MH rfl <| CN <| Op1.call8 (v1 := .int .u16 _) (v2 := str _) (v3 := .bool _) (v4 := .bool _) (v5 := str _) (v6 := str _) (v7 := .int .i64 _) (v8 := .int .u8 _) ent47 rfl rfl rfl rfl rfl rfl rfl rfl rfl <| Ret.det (R5ref_form _ _ _ _ _ _ _ _ _) hst fun w hst => CN (SO (v := .agg #[.int .u16 _, str _, .bool _, .bool _, str _, str _, .int .i64 _, .int .u8 _]) hst ty74 rfl rfl (.here) fun w hst => ?_)
   refine AB rfl <| NL <| run_ret2 Try.func35 rfl (RV.cellA (vs := [.int .u16 _, str _, .bool _, .bool _, str _, str _, .int .i64 _, .int .u8 _]) rfl ty74 rfl rfl (cells_of_obj (n := 8) (hst.objL (.head _)) _ rfl)) (TP (v := .bool _) rfl) ?_
   subst g29
   have e : refS 62 = some ⟨62, [79, 112, 83, 116, 111, 114, 101], false, false, [105, 105], [], 0, 8⟩ := by decide +kernel
   rw [e]
   exact ⟨rfl, hst.pure⟩
 refine SR <| CN <| Op1.eql rfl rfl <| AB rfl <| NL <| run_cond_dec rfl (fun g30 => ?_) (fun g30 => ?_)
 · skip
   refine SR <| MH rfl <| CN <| Op1.call8 (v1 := .int .u16 _) (v2 := str _) (v3 := .bool _) (v4 := .bool _) (v5 := str _) (v6 := str _) (v7 := .int .i64 _) (v8 := .int .u8 _) ent47 rfl rfl rfl rfl rfl rfl rfl rfl rfl <| Ret.det (R5ref_form _ _ _ _ _ _ _ _ _) hst fun w hst => CN (SO (v := .agg #[.int .u16 _, str _, .bool _, .bool _, str _, str _, .int .i64 _, .int .u8 _]) hst ty74 rfl rfl (.here) fun w hst => ?_)
   refine AB rfl <| NL <| run_ret2 Try.func35 rfl (RV.cellA (vs := [.int .u16 _, str _, .bool _, .bool _, str _, str _, .int .i64 _, .int .u8 _]) rfl ty74 rfl rfl (cells_of_obj (n := 8) (hst.objL (.head _)) _ rfl)) (TP (v := .bool _) rfl) ?_
   subst g30
   have e : refS 65 = some ⟨65, [79, 112, 65, 99, 99, 101, 115, 115, 67, 104, 97, 105, 110], true, true, [105], [105], 0, 8⟩ := by decide +kernel
   rw [e]
   exact ⟨rfl, hst.pure⟩
 refine SR <| CN <| Op1.eql rfl rfl <| AB rfl <| NL <| run_cond_dec rfl (fun g31 => ?_) (fun g31 => ?_)
 · skip
   refine SR <| MH rfl <| CN <| Op1.call8 (v1 := .int .u16 _) (v2 := str _) (v3 := .bool _) (v4 := .bool _) (v5 := str _) (v6 := str _) (v7 := .int .i64 _) (v8 := .int .u8 _) ent47 rfl rfl rfl rfl rfl rfl rfl rfl rfl <| Ret.det (R5ref_form _ _ _ _ _ _ _ _ _) hst fun w hst => CN (SO (v := .agg #[.int .u16 _, str _, .bool _, .bool _, str _, str _, .int .i64 _, .int .u8 _]) hst ty74 rfl rfl (.here) fun w hst => ?_)
   refine AB rfl <| NL <| run_ret2 Try.func35 rfl (RV.cellA (vs := [.int .u16 _, str _, .bool _, .bool _, str _, str _, .int .i64 _, .int .u8 _]) rfl ty74 rfl rfl (cells_of_obj (n := 8) (hst.objL (.head _)) _ rfl)) (TP (v := .bool _) rfl) ?_
   subst g31
   have e : refS 71 = some ⟨71, [79, 112, 68, 101, 99, 111, 114, 97, 116, 101], false, false, [105, 100], [110], 0, 6⟩ := by decide +kernel
   rw [e]
   exact ⟨rfl, hst.pure⟩
 refine SR <| CN <| Op1.eql rfl rfl <| AB rfl <| NL <| run_cond_dec rfl (fun g32 => ?_) (fun g32 => ?_)
 · skip
   refine SR <| MH rfl <| CN <| Op1.call8 (v1 := .int .u16 _) (v2 := str _) (v3 := .bool _) (v4 := .bool _) (v5 := str _) (v6 := str _) (v7 := .int .i64 _) (v8 := .int .u8 _) ent47 rfl rfl rfl rfl rfl rfl rfl rfl rfl <| Ret.det (R5ref_form _ _ _ _ _ _ _ _ _) hst fun w hst => CN (SO (v := .agg #[.int .u16 _, str _, .bool _, .bool _, str _, str _, .int .i64 _, .int .u8 _]) hst ty74 rfl rfl (.here) fun w hst => ?_)
   refine AB rfl <| NL <| run_ret2 Try.func35 rfl (RV.cellA (vs := [.int .u16 _, str _, .bool _, .bool _, str _, str _, .int .i64 _, .int .u8 _]) rfl ty74 rfl rfl (cells_of_obj (n := 8) (hst.objL (.head _)) _ rfl)) (TP (v := .bool _) rfl) ?_
   subst g32
   have e : refS 77 = some ⟨77, [79, 112, 86, 101, 99, 116, 111, 114, 69, 120, 116, 114, 97, 99, 116, 68, 121, 110, 97, 109, 105, 99], true, true, [105, 105], [], 0, 8⟩ := by decide +kernel
   rw [e]
   exact ⟨rfl, hst.pure⟩
 refine SR <| CN <| Op1.eql rfl rfl <| AB rfl <| NL <| run_cond_dec rfl (fun g33 => ?_) (fun g33 => ?_)
 · skip
   refine SR <| MH rfl <| CN <| Op1.call8 (v1 := .int .u16 _) (v2 := str _) (v3 := .bool _) (v4 := .bool _) (v5 := str _) (v6 := str _) (v7 := .int .i64 _) (v8 := .int .u8 _) ent47 rfl rfl rfl rfl rfl rfl rfl rfl rfl <| Ret.det (R5ref_form _ _ _ _ _ _ _ _ _) hst fun w hst => CN (SO (v := .agg #[.int .u16 _, str _, .bool _, .bool _, str _, str _, .int .i64 _, .int .u8 _]) hst ty74 rfl rfl (.here) fun w hst => ?_)
   refine AB rfl <| NL <| run_ret2 Try.func35 rfl (RV.cellA (vs := [.int .u16 _, str _, .bool _, .bool _, str _, str _, .int .i64 _, .int .u8 _]) rfl ty74 rfl rfl (cells_of_obj (n := 8) (hst.objL (.head _)) _ rfl)) (TP (v := .bool _) rfl) ?_
   subst g33
   have e : refS 78 = some ⟨78, [79, 112, 86, 101, 99, 116, 111, 114, 73, 110, 115, 101, 114, 116, 68, 121, 110, 97, 109, 105, 99], true, true, [105, 105, 105], [], 0, 8⟩ := by decide +kernel
   rw [e]
   exact ⟨rfl, hst.pure⟩
 refine SR <| CN <| Op1.eql rfl rfl <| AB rfl <| NL <| run_cond_dec rfl (fun g34 => ?_) (fun g34 => ?_)
 · skip
   refine SR <| MH rfl <| CN <| Op1.call8 (v1 := .int .u16 _) (v2 := str _) (v3 := .bool _) (v4 := .bool _) (v5 := str _) (v6 := str _) (v7 := .int .i64 _) (v8 := .int .u8 _) ent47 rfl rfl rfl rfl rfl rfl rfl rfl rfl <| Ret.det (R5ref_form _ _ _ _ _ _ _ _ _) hst fun w hst => CN (SO (v := .agg #[.int .u16 _, str _, .bool _, .bool _, str _, str _, .int .i64 _, .int .u8 _]) hst ty74 rfl rfl (.here) fun w hst => ?_)
   refine AB rfl <| NL <| run_ret2 Try.func35 rfl (RV.cellA (vs := [.int .u16 _, str _, .bool _, .bool _, str _, str _, .int .i64 _, .int .u8 _]) rfl ty74 rfl rfl (cells_of_obj (n := 8) (hst.objL (.head _)) _ rfl)) (TP (v := .bool _) rfl) ?_
   subst g34
   have e : refS 79 = some ⟨79, [79, 112, 86, 101, 99, 116, 111, 114, 83, 104, 117, 102, 102, 108, 101], true, true, [105, 105], [110], 0, 8⟩ := by decide +kernel
   rw [e]
   exact ⟨rfl, hst.pure⟩
 refine SR <| CN <| Op1.eql rfl rfl <| AB rfl <| NL <| run_cond_dec rfl (fun g35 => ?_) (fun g35 => ?_)
 · skip
   refine SR <| MH rfl <| CN <| Op1.call8 (v1 := .int .u16 _) (v2 := str _) (v3 := .bool _) (v4 := .bool _) (v5 := str _) (v6 := str _) (v7 := .int .i64 _) (v8 := .int .u8 _) ent47 rfl rfl rfl rfl rfl rfl rfl rfl rfl <| Ret.det (R5ref_form _ _ _ _ _ _ _ _ _) hst fun w hst => CN (SO (v := .agg #[.int .u16 _, str _, .bool _, .bool _, str _, str _, .int .i64 _, .int .u8 _]) hst ty74 rfl rfl (.here) fun w hst => ?_)
   refine AB rfl <| NL <| run_ret2 Try.func35 rfl (RV.cellA (vs := [.int .u16 _, str _, .bool _, .bool _, str _, str _, .int .i64 _, .int .u8 _]) rfl ty74 rfl rfl (cells_of_obj (n := 8) (hst.objL (.head _)) _ rfl)) (TP (v := .bool _) rfl) ?_
   subst g35
   have e : refS 80 = some ⟨80, [79, 112, 67, 111, 109, 112, 111, 115, 105, 116, 101, 67, 111, 110, 115, 116, 114, 117, 99, 116], true, true, [], [105], 0, 8⟩ := by decide +kernel
   rw [e]
   exact ⟨rfl, hst.pure⟩
 refine SR <| CN <| Op1.eql rfl rfl <| AB rfl <| NL <| run_cond_dec rfl (fun g36 => ?_) (fun g36 => ?_)
 · skip
   refine SR <| MH rfl <| CN <| Op1.call8 (v1 := .int .u16 _) (v2 := str _) (v3 := .bool _) (v4 := .bool _) (v5 := str _) (v6 := str _) (v7 := .int .i64 _) (v8 := .int .u8 _) ent47 rfl rfl rfl rfl rfl rfl rfl rfl rfl <| Ret.det (R5ref_form _ _ _ _ _ _ _ _ _) hst fun w hst => CN (SO (v := .agg #[.int .u16 _, str _, .bool _, .bool _, str _, str _, .int .i64 _, .int .u8 _]) hst ty74 rfl rfl (.here) fun w hst => ?_)
   refine AB rfl <| NL <| run_ret2 Try.func35 rfl (RV.cellA (vs := [.int .u16 _, str _, .bool _, .bool _, str _, str _, .int .i64 _, .int .u8 _]) rfl ty74 rfl rfl (cells_of_obj (n := 8) (hst.objL (.head _)) _ rfl)) (TP (v := .bool _) rfl) ?_
   subst g36
   have e : refS 81 = some ⟨81, [79, 112, 67, 111, 109, 112, 111, 115, 105, 116, 101, 69, 120, 116, 114, 97, 99, 116], true, true, [105], [110], 0, 8⟩ := by decide +kernel
   rw [e]
   exact ⟨rfl, hst.pure⟩
 refine SR <| CN <| Op1.eql rfl rfl <| AB rfl <| NL <| run_cond_dec rfl (fun g37 => ?_) (fun g37 => ?_)
 · skip
   refine SR <| MH rfl <| CN <| Op1.call8 (v1 := .int .u16 _) (v2 := str _) (v3 := .bool _) (v4 := .bool _) (v5 := str _) (v6 := str _) (v7 := .int .i64 _) (v8 := .int .u8 _) ent47 rfl rfl rfl rfl rfl rfl rfl rfl rfl <| Ret.det (R5ref_form _ _ _ _ _ _ _ _ _) hst fun w hst => CN (SO (v := .agg #[.int .u16 _, str _, .bool _, .bool _, str _, str _, .int .i64 _, .int .u8 _]) hst ty74 rfl rfl (.here) fun w hst => ?_)
   refine AB rfl <| NL <| run_ret2 Try.func35 rfl (RV.cellA (vs := [.int .u16 _, str _, .bool _, .bool _, str _, str _, .int .i64 _, .int .u8 _]) rfl ty74 rfl rfl (cells_of_obj (n := 8) (hst.objL (.head _)) _ rfl)) (TP (v := .bool _) rfl) ?_
   subst g37
   have e : refS 82 = some ⟨82, [79, 112, 67, 111, 109, 112, 111, 115, 105, 116, 101, 73, 110, 115, 101, 114, 116], true, true, [105, 105], [110], 0, 8⟩ := by decide +kernel
   rw [e]
   exact ⟨rfl, hst.pure⟩
 refine SR <| CN <| Op1.eql rfl rfl <| AB rfl <| NL <| Run.forget [(0, .int .u16 _), (2, .pointer (some ⟨_, _, none⟩)), (4, .int .u16 _), (153, .bool _)] ⟨rfl, rfl, rfl, rfl, trivial⟩ fun f => run_cond_dec rfl (fun g38 => ?_) (fun g38 => ?_)
 · skip
   refine SR <| MH rfl <| CN <| Op1.call8 (v1 := .int .u16 _) (v2 := str _) (v3 := .bool _) (v4 := .bool _) (v5 := str _) (v6 := str _) (v7 := .int .i64 _) (v8 := .int .u8 _) ent47 rfl rfl rfl rfl rfl rfl rfl rfl rfl <| Ret.det (R5ref_form _ _ _ _ _ _ _ _ _) hst fun w hst => CN (SO (v := .agg #[.int .u16 _, str _, .bool _, .bool _, str _, str _, .int .i64 _, .int .u8 _]) hst ty74 rfl rfl (.here) fun w hst => ?_)
   refine AB rfl <| NL <| run_ret2 Try.func35 rfl (RV.cellA (vs := [.int .u16 _, str _, .bool _, .bool _, str _, str _, .int .i64 _, .int .u8 _]) rfl ty74 rfl rfl (cells_of_obj (n := 8) (hst.objL (.head _)) _ rfl)) (TP (v := .bool _) rfl) ?_
   subst g38
   have e : refS 83 = some ⟨83, [79, 112, 67, 111, 112, 121, 79, 98, 106, 101, 99, 116], true, true, [105], [], 0, 8⟩ := by decide +kernel
   rw [e]
   exact ⟨rfl, hst.pure⟩
 refine SR <| CN <| Op1.eql rfl rfl <| AB rfl <| NL <| run_cond_dec rfl (fun g39 => ?_) (fun g39 => ?_)
 · skip
   refine SR <| MH rfl <| CN <| Op1.call8 (v1 := .int .u16 _) (v2 := str _) (v3 := .bool _) (v4 := .bool _) (v5 := str _) (v6 := str _) (v7 := .int .i64 _) (v8 := .int .u8 _) ent47 rfl rfl rfl rfl rfl rfl rfl rfl rfl <| Ret.det (R5ref_form _ _ _ _ _ _ _ _ _) hst fun w hst => CN (SO (v := .agg #[.int .u16 _, str _, .bool _, .bool _, str _, str _, .int .i64 _, .int .u8 _]) hst ty74 rfl rfl (.here) fun w hst => ?_)
   refine AB rfl <| NL <| run_ret2 Try.func35 rfl (RV.cellA (vs := [.int .u16 _, str _, .bool _, .bool _, str _, str _, .int .i64 _, .int .u8 _]) rfl ty74 rfl rfl (cells_of_obj (n := 8) (hst.objL (.head _)) _ rfl)) (TP (v := .bool _) rfl) ?_
   subst g39
   have e : refS 124 = some ⟨124, [79, 112, 66, 105, 116, 99, 97, 115, 116], true, true, [105], [], 0, 8⟩ := by decide +kernel
   rw [e]
   exact ⟨rfl, hst.pure⟩
 refine SR <| CN <| Op1.eql rfl rfl <| AB rfl <| NL <| run_cond_dec rfl (fun g40 => ?_) (fun g40 => ?_)
 · skip
   refine SR <| MH rfl <| CN <| Op1.call8 (v1 := .int .u16 _) (v2 := str _) (v3 := .bool _) (v4 := .bool _) (v5 := str _) (v6 := str _) (v7 := .int .i64 _) (v8 := .int .u8 _) ent47 rfl rfl rfl rfl rfl rfl rfl rfl rfl <| Ret.det (R5ref_form _ _ _ _ _ _ _ _ _) hst fun w hst => CN (SO (v := .agg #[.int .u16 _, str _, .bool _, .bool _, str _, str _, .int .i64 _, .int .u8 _]) hst ty74 rfl rfl (.here) fun w hst => ?_)
   refine AB rfl <| NL <| run_ret2 Try.func35 rfl (RV.cellA (vs := [.int .u16 _, str _, .bool _, .bool _, str _, str _, .int .i64 _, .int .u8 _]) rfl ty74 rfl rfl (cells_of_obj (n := 8) (hst.objL (.head _)) _ rfl)) (TP (v := .bool _) rfl) ?_
   subst g40
   have e : refS 126 = some ⟨126, [79, 112, 83, 78, 101, 103, 97, 116, 101], true, true, [105], [], 0, 8⟩ := by decide +kernel
   rw [e]
   exact ⟨rfl, hst.pure⟩
 refine SR <| CN <| Op1.eql rfl rfl <| AB rfl <| NL <| run_cond_dec rfl (fun g41 => ?_) (fun g41 => ?_)
 · skip
   refine SR <| MH rfl <| CN <| Op1.call8 (v1 := .int .u16 _) (v2 := str _) (v3 := .bool _) (v4 := .bool _) (v5 := str _) (v6 := str _) (v7 := .int .i64 _) (v8 := .int .u8 _) ent47 rfl rfl rfl rfl rfl rfl rfl rfl rfl <| Ret.det (R5ref_form _ _ _ _ _ _ _ _ _) hst fun w hst => CN (SO (v := .agg #[.int .u16 _, str _, .bool _, .bool _, str _, str _, .int .i64 _, .int .u8 _]) hst ty74 rfl rfl (.here) fun w hst => ?_)
   refine AB rfl <| NL <| run_ret2 Try.func35 rfl (RV.cellA (vs := [.int .u16 _, str _, .bool _, .bool _, str _, str _, .int .i64 _, .int .u8 _]) rfl ty74 rfl rfl (cells_of_obj (n := 8) (hst.objL (.head _)) _ rfl)) (TP (v := .bool _) rfl) ?_
   subst g41
   have e : refS 128 = some ⟨128, [79, 112, 73, 65, 100, 100], true, true, [105, 105], [], 0, 8⟩ := by decide +kernel
   rw [e]
   exact ⟨rfl, hst.pure⟩
 refine SR <| CN <| Op1.eql rfl rfl <| AB rfl <| NL <| run_cond_dec rfl (fun g42 => ?_) (fun g42 => ?_)
 · skip
   refine SR <| MH rfl <| CN <| Op1.call8 (v1 := .int .u16 _) (v2 := str _) (v3 := .bool _) (v4 := .bool _) (v5 := str _) (v6 := str _) (v7 := .int .i64 _) (v8 := .int .u8 _) ent47 rfl rfl rfl rfl rfl rfl rfl rfl rfl <| Ret.det (R5ref_form _ _ _ _ _ _ _ _ _) hst fun w hst => CN (SO (v := .agg #[.int .u16 _, str _, .bool _, .bool _, str _, str _, .int .i64 _, .int .u8 _]) hst ty74 rfl rfl (.here) fun w hst => ?_)
   refine AB rfl <| NL <| run_ret2 Try.func35 rfl (RV.cellA (vs := [.int .u16 _, str _, .bool _, .bool _, str _, str _, .int .i64 _, .int .u8 _]) rfl ty74 rfl rfl (cells_of_obj (n := 8) (hst.objL (.head _)) _ rfl)) (TP (v := .bool _) rfl) ?_
   subst g42
   have e : refS 130 = some ⟨130, [79, 112, 73, 83, 117, 98], true, true, [105, 105], [], 0, 8⟩ := by decide +kernel
   rw [e]
   exact ⟨rfl, hst.pure⟩
 refine SR <| CN <| Op1.eql rfl rfl <| AB rfl <| NL <| run_cond_dec rfl (fun g43 => ?_) (fun g43 => ?_)
 · skip
   refine SR <| MH rfl <| CN <| Op1.call8 (v1 := .int .u16 _) (v2 := str _) (v3 := .bool _) (v4 := .bool _) (v5 := str _) (v6 := str _) (v7 := .int .i64 _) (v8 := .int .u8 _) ent47 rfl rfl rfl rfl rfl rfl rfl rfl rfl <| Ret.det (R5ref_form _ _ _ _ _ _ _ _ _) hst fun w hst => CN (SO (v := .agg #[.int .u16 _, str _, .bool _, .bool _, str _, str _, .int .i64 _, .int .u8 _]) hst ty74 rfl rfl (.here) fun w hst => ?_)
   refine AB rfl <| NL <| run_ret2 Try.func35 rfl (RV.cellA (vs := [.int .u16 _, str _, .bool _, .bool _, str _, str _, .int .i64 _, .int .u8 _]) rfl ty74 rfl rfl (cells_of_obj (n := 8) (hst.objL (.head _)) _ rfl)) (TP (v := .bool _) rfl) ?_
   subst g43
   have e : refS 132 = some ⟨132, [79, 112, 73, 77, 117, 108], true, true, [105, 105], [], 0, 8⟩ := by decide +kernel
   rw [e]
   exact ⟨rfl, hst.pure⟩
 refine SR <| CN <| Op1.eql rfl rfl <| AB rfl <| NL <| run_cond_dec rfl (fun g44 => ?_) (fun g44 => ?_)
 · skip
   refine SR <| MH rfl <| CN <| Op1.call8 (v1 := .int .u16 _) (v2 := str _) (v3 := .bool _) (v4 := .bool _) (v5 := str _) (v6 := str _) (v7 := .int .i64 _) (v8 := .int .u8 _) ent47 rfl rfl rfl rfl rfl rfl rfl rfl rfl <| Ret.det (R5ref_form _ _ _ _ _ _ _ _ _) hst fun w hst => CN (SO (v := .agg #[.int .u16 _, str _, .bool _, .bool _, str _, str _, .int .i64 _, .int .u8 _]) hst ty74 rfl rfl (.here) fun w hst => ?_)
   refine AB rfl <| NL <| run_ret2 Try.func35 rfl (RV.cellA (vs := [.int .u16 _, str _, .bool _, .bool _, str _, str _, .int .i64 _, .int .u8 _]) rfl ty74 rfl rfl (cells_of_obj (n := 8) (hst.objL (.head _)) _ rfl)) (TP (v := .bool _) rfl) ?_
   subst g44
   have e : refS 134 = some ⟨134, [79, 112, 85, 68, 105, 118], true, true, [105, 105], [], 0, 8⟩ := by decide +kernel
   rw [e]
   exact ⟨rfl, hst.pure⟩
 refine SR <| CN <| Op1.eql rfl rfl <| AB rfl <| NL <| run_cond_dec rfl (fun g45 => ?_) (fun g45 => ?_)
 · skip
   refine SR <| MH rfl <| CN <| Op1.call8 (v1 := .int .u16 _) (v2 := str _) (v3 := .bool _) (v4 := .bool _) (v5 := str _) (v6 := str _) (v7 := .int .i64 _) (v8 := .int .u8 _) ent47 rfl rfl rfl rfl rfl rfl rfl rfl rfl <| Ret.det (R5ref_form _ _ _ _ _ _ _ _ _) hst fun w hst => CN (SO (v := .agg #[.int .u16 _, str _, .bool _, .bool _, str _, str _, .int .i64 _, .int .u8 _]) hst ty74 rfl rfl (.here) fun w hst => ?_)
   refine AB rfl <| NL <| run_ret2 Try.func35 rfl (RV.cellA (vs := [.int .u16 _, str _, .bool _, .bool _, str _, str _, .int .i64 _, .int .u8 _]) rfl ty74 rfl rfl (cells_of_obj (n := 8) (hst.objL (.head _)) _ rfl)) (TP (v := .bool _) rfl) ?_
   subst g45
   have e : refS 135 = some ⟨135, [79, 112, 83, 68, 105, 118], true, true, [105, 105], [], 0, 8⟩ := by decide +kernel
   rw [e]
   exact ⟨rfl, hst.pure⟩
 refine SR <| CN <| Op1.eql rfl rfl <| AB rfl <| NL <| run_cond_dec rfl (fun g46 => ?_) (fun g46 => ?_)
 · skip
   refine SR <| MH rfl <| CN <| Op1.call8 (v1 := .int .u16 _) (v2 := str _) (v3 := .bool _) (v4 := .bool _) (v5 := str _) (v6 := str _) (v7 := .int .i64 _) (v8 := .int .u8 _) ent47 rfl rfl rfl rfl rfl rfl rfl rfl rfl <| Ret.det (R5ref_form _ _ _ _ _ _ _ _ _) hst fun w hst => CN (SO (v := .agg #[.int .u16 _, str _, .bool _, .bool _, str _, str _, .int .i64 _, .int .u8 _]) hst ty74 rfl rfl (.here) fun w hst => ?_)
   refine AB rfl <| NL <| run_ret2 Try.func35 rfl (RV.cellA (vs := [.int .u16 _, str _, .bool _, .bool _, str _, str _, .int .i64 _, .int .u8 _]) rfl ty74 rfl rfl (cells_of_obj (n := 8) (hst.objL (.head _)) _ rfl)) (TP (v := .bool _) rfl) ?_
   subst g46
   have e : refS 137 = some ⟨137, [79, 112, 85, 77, 111, 100], true, true, [105, 105], [], 0, 8⟩ := by decide +kernel
   rw [e]
   exact ⟨rfl, hst.pure⟩
 refine SR <| CN <| Op1.eql rfl rfl <| AB rfl <| NL <| run_cond_dec rfl (fun g47 => ?_) (fun g47 => ?_)
 · skip
   refine SR <| MH rfl <| CN <| Op1.call8 (v1 := .int .u16 _) (v2 := str _) (v3 := .bool _) (v4 := .bool _) (v5 := str _) (v6 := str _) (v7 := .int .i64 _) (v8 := .int .u8 _) ent47 rfl rfl rfl rfl rfl rfl rfl rfl rfl <| Ret.det (R5ref_form _ _ _ _ _ _ _ _ _) hst fun w hst => CN (SO (v := .agg #[.int .u16 _, str _, .bool _, .bool _, str _, str _, .int .i64 _, .int .u8 _]) hst ty74 rfl rfl (.here) fun w hst => ?_)
   refine AB rfl <| NL <| run_ret2 Try.func35 rfl (RV.cellA (vs := [.int .u16 _, str _, .bool _, .bool _, str _, str _, .int .i64 _, .int .u8 _]) rfl ty74 rfl rfl (cells_of_obj (n := 8) (hst.objL (.head _)) _ rfl)) (TP (v := .bool _) rfl) ?_
   subst g47
   have e : refS 138 = some ⟨138, [79, 112, 83, 82, 101, 109], true, true, [105, 105], [], 0, 8⟩ := by decide +kernel
   rw [e]
   exact ⟨rfl, hst.pure⟩
 refine SR <| CN <| Op1.eql rfl rfl <| AB rfl <| NL <| Run.forget [(0, .int .u16 _), (2, .pointer (some ⟨_, _, none⟩)), (4, .int .u16 _), (193, .bool _)] ⟨rfl, rfl, rfl, rfl, trivial⟩ fun f => run_cond_dec rfl (fun g48 => ?_) (fun g48 => ?_)
 · skip
   refine SR <| MH rfl <| CN <| Op1.call8 (v1 := .int .u16 _) (v2 := str _) (v3 := .bool _) (v4 := .bool _) (v5 := str _) (v6 := str _) (v7 := .int .i64 _) (v8 := .int .u8 _) ent47 rfl rfl rfl rfl rfl rfl rfl rfl rfl <| Ret.det (R5ref_form _ _ _ _ _ _ _ _ _) hst fun w hst => CN (SO (v := .agg #[.int .u16 _, str _, .bool _, .bool _, str _, str _, .int .i64 _, .int .u8 _]) hst ty74 rfl rfl (.here) fun w hst => ?_)
   refine AB rfl <| NL <| run_ret2 Try.func35 rfl (RV.cellA (vs := [.int .u16 _, str _, .bool _, .bool _, str _, str _, .int .i64 _, .int .u8 _]) rfl ty74 rfl rfl (cells_of_obj (n := 8) (hst.objL (.head _)) _ rfl)) (TP (v := .bool _) rfl) ?_
   subst g48
   have e : refS 139 = some ⟨139, [79, 112, 83, 77, 111, 100], true, true, [105, 105], [], 0, 8⟩ := by decide +kernel
   rw [e]
   exact ⟨rfl, hst.pure⟩
 refine SR <| CN <| Op1.eql rfl rfl <| AB rfl <| NL <| run_cond_dec rfl (fun g49 => ?_) (fun g49 => ?_)
 · skip
   refine SR <| MH rfl <| CN <| Op1.call8 (v1 := .int .u16 _) (v2 := str _) (v3 := .bool _) (v4 := .bool _) (v5 := str _) (v6 := str _) (v7 := .int .i64 _) (v8 := .int .u8 _) ent47 rfl rfl rfl rfl rfl rfl rfl rfl rfl <| Ret.det (R5ref_form _ _ _ _ _ _ _ _ _) hst fun w hst => CN (SO (v := .agg #[.int .u16 _, str _, .bool _, .bool _, str _, str _, .int .i64 _, .int .u8 _]) hst ty74 rfl rfl (.here) fun w hst => ?_)
   refine AB rfl <| NL <| run_ret2 Try.func35 rfl (RV.cellA (vs := [.int .u16 _, str _, .bool _, .bool _, str _, str _, .int .i64 _, .int .u8 _]) rfl ty74 rfl rfl (cells_of_obj (n := 8) (hst.objL (.head _)) _ rfl)) (TP (v := .bool _) rfl) ?_
   subst g49
   have e : refS 149 = some ⟨149, [79, 112, 73, 65, 100, 100, 67, 97, 114, 114, 121], true, true, [105, 105], [], 0, 8⟩ := by decide +kernel
   rw [e]
   exact ⟨rfl, hst.pure⟩
 refine SR <| CN <| Op1.eql rfl rfl <| AB rfl <| NL <| run_cond_dec rfl (fun g50 => ?_) (fun g50 => ?_)
 · skip
   refine SR <| MH rfl <| CN <| Op1.call8 (v1 := .int .u16 _) (v2 := str _) (v3 := .bool _) (v4 := .bool _) (v5 := str _) (v6 := str _) (v7 := .int .i64 _) (v8 := .int .u8 _) ent47 rfl rfl rfl rfl rfl rfl rfl rfl rfl <| Ret.det (R5ref_form _ _ _ _ _ _ _ _ _) hst fun w hst => CN (SO (v := .agg #[.int .u16 _, str _, .bool _, .bool _, str _, str _, .int .i64 _, .int .u8 _]) hst ty74 rfl rfl (.here) fun w hst => ?_)
   refine AB rfl <| NL <| run_ret2 Try.func35 rfl (RV.cellA (vs := [.int .u16 _, str _, .bool _, .bool _, str _, str _, .int .i64 _, .int .u8 _]) rfl ty74 rfl rfl (cells_of_obj (n := 8) (hst.objL (.head _)) _ rfl)) (TP (v := .bool _) rfl) ?_
   subst g50
   have e : refS 150 = some ⟨150, [79, 112, 73, 83, 117, 98, 66, 111, 114, 114, 111, 119], true, true, [105, 105], [], 0, 8⟩ := by decide +kernel
   rw [e]
   exact ⟨rfl, hst.pure⟩
 refine SR <| CN <| Op1.eql rfl rfl <| AB rfl <| NL <| run_cond_dec rfl (fun g51 => ?_) (fun g51 => ?_)
 · skip
   refine SR <| MH rfl <| CN <| Op1.call8 (v1 := .int .u16 _) (v2 := str _) (v3 := .bool _) (v4 := .bool _) (v5 := str _) (v6 := str _) (v7 := .int .i64 _) (v8 := .int .u8 _) ent47 rfl rfl rfl rfl rfl rfl rfl rfl rfl <| Ret.det (R5ref_form _ _ _ _ _ _ _ _ _) hst fun w hst => CN (SO (v := .agg #[.int .u16 _, str _, .bool _, .bool _, str _, str _, .int .i64 _, .int .u8 _]) hst ty74 rfl rfl (.here) fun w hst => ?_)
   refine AB rfl <| NL <| run_ret2 Try.func35 rfl (RV.cellA (vs := [.int .u16 _, str _, .bool _, .bool _, str _, str _, .int .i64 _, .int .u8 _]) rfl ty74 rfl rfl (cells_of_obj (n := 8) (hst.objL (.head _)) _ rfl)) (TP (v := .bool _) rfl) ?_
   subst g51
   have e : refS 151 = some ⟨151, [79, 112, 85, 77, 117, 108, 69, 120, 116, 101, 110, 100, 101, 100], true, true, [105, 105], [], 0, 8⟩ := by decide +kernel
   rw [e]
   exact ⟨rfl, hst.pure⟩
 refine SR <| CN <| Op1.eql rfl rfl <| AB rfl <| NL <| run_cond_dec rfl (fun g52 => ?_) (fun g52 => ?_)
 · skip
   refine SR <| MH rfl <| CN <| Op1.call8 (v1 := .int .u16 _) (v2 := str _) (v3 := .bool _) (v4 := .bool _) (v5 := str _) (v6 := str _) (v7 := .int .i64 _) (v8 := .int .u8 _) ent47 rfl rfl rfl rfl rfl rfl rfl rfl rfl <| Ret.det (R5ref_form _ _ _ _ _ _ _ _ _) hst fun w hst => CN (SO (v := .agg #[.int .u16 _, str _, .bool _, .bool _, str _, str _, .int .i64 _, .int .u8 _]) hst ty74 rfl rfl (.here) fun w hst => ?_)
   refine AB rfl <| NL <| run_ret2 Try.func35 rfl (RV.cellA (vs := [.int .u16 _, str _, .bool _, .bool _, str _, str _, .int .i64 _, .int .u8 _]) rfl ty74 rfl rfl (cells_of_obj (n := 8) (hst.objL (.head _)) _ rfl)) (TP (v := .bool _) rfl) ?_
   subst g52
   have e : refS 152 = some ⟨152, [79, 112, 83, 77, 117, 108, 69, 120, 116, 101, 110, 100, 101, 100], true, true, [105, 105], [], 0, 8⟩ := by decide +kernel
   rw [e]
   exact ⟨rfl, hst.pure⟩
 refine SR <| CN <| Op1.eql rfl rfl <| AB rfl <| NL <| run_cond_dec rfl (fun g53 => ?_) (fun g53 => ?_)
 · skip
   refine SR <| MH rfl <| CN <| Op1.call8 (v1 := .int .u16 _) (v2 := str _) (v3 := .bool _) (v4 := .bool _) (v5 := str _) (v6 := str _) (v7 := .int .i64 _) (v8 := .int .u8 _) ent47 rfl rfl rfl rfl rfl rfl rfl rfl rfl <| Ret.det (R5ref_form _ _ _ _ _ _ _ _ _) hst fun w hst => CN (SO (v := .agg #[.int .u16 _, str _, .bool _, .bool _, str _, str _, .int .i64 _, .int .u8 _]) hst ty74 rfl rfl (.here) fun w hst => ?_)
   refine AB rfl <| NL <| run_ret2 Try.func35 rfl (RV.cellA (vs := [.int .u16 _, str _, .bool _, .bool _, str _, str _, .int .i64 _, .int .u8 _]) rfl ty74 rfl rfl (cells_of_obj (n := 8) (hst.objL (.head _)) _ rfl)) (TP (v := .bool _) rfl) ?_
   subst g53
   have e : refS 154 = some ⟨154, [79, 112, 65, 110, 121], true, true, [105], [], 0, 8⟩ := by decide +kernel
   rw [e]
   exact ⟨rfl, hst.pure⟩
 refine SR <| CN <| Op1.eql rfl rfl <| AB rfl <| NL <| run_cond_dec rfl (fun g54 => ?_) (fun g54 => ?_)
 · skip
   refine SR <| MH rfl <| CN <| Op1.call8 (v1 := .int .u16 _) (v2 := str _) (v3 := .bool _) (v4 := .bool _) (v5 := str _) (v6 := str _) (v7 := .int .i64 _) (v8 := .int .u8 _) ent47 rfl rfl rfl rfl rfl rfl rfl rfl rfl <| Ret.det (R5ref_form _ _ _ _ _ _ _ _ _) hst fun w hst => CN (SO (v := .agg #[.int .u16 _, str _, .bool _, .bool _, str _, str _, .int .i64 _, .int .u8 _]) hst ty74 rfl rfl (.here) fun w hst => ?_)
   refine AB rfl <| NL <| run_ret2 Try.func35 rfl (RV.cellA (vs := [.int .u16 _, str _, .bool _, .bool _, str _, str _, .int .i64 _, .int .u8 _]) rfl ty74 rfl rfl (cells_of_obj (n := 8) (hst.objL (.head _)) _ rfl)) (TP (v := .bool _) rfl) ?_
   subst g54
   have e : refS 155 = some ⟨155, [79, 112, 65, 108, 108], true, true, [105], [], 0, 8⟩ := by decide +kernel
   rw [e]
   exact ⟨rfl, hst.pure⟩
 refine SR <| CN <| Op1.eql rfl rfl <| AB rfl <| NL <| run_cond_dec rfl (fun g55 => ?_) (fun g55 => ?_)
 · skip
   refine SR <| MH rfl <| CN <| Op1.call8 (v1 := .int .u16 _) (v2 := str _) (v3 := .bool _) (v4 := .bool _) (v5 := str _) (v6 := str _) (v7 := .int .i64 _) (v8 := .int .u8 _) ent47 rfl rfl rfl rfl rfl rfl rfl rfl rfl <| Ret.det (R5ref_form _ _ _ _ _ _ _ _ _) hst fun w hst => CN (SO (v := .agg #[.int .u16 _, str _, .bool _, .bool _, str _, str _, .int .i64 _, .int .u8 _]) hst ty74 rfl rfl (.here) fun w hst => ?_)
   refine AB rfl <| NL <| run_ret2 Try.func35 rfl (RV.cellA (vs := [.int .u16 _, str _, .bool _, .bool _, str _, str _, .int .i64 _, .int .u8 _]) rfl ty74 rfl rfl (cells_of_obj (n := 8) (hst.objL (.head _)) _ rfl)) (TP (v := .bool _) rfl) ?_
   subst g55
   have e : refS 164 = some ⟨164, [79, 112, 76, 111, 103, 105, 99, 97, 108, 69, 113, 117, 97, 108], true, true, [105, 105], [], 0, 8⟩ := by decide +kernel
   rw [e]
   exact ⟨rfl, hst.pure⟩
 refine SR <| CN <| Op1.eql rfl rfl <| AB rfl <| NL <| run_cond_dec rfl (fun g56 => ?_) (fun g56 => ?_)
 · skip
   refine SR <| MH rfl <| CN <| Op1.call8 (v1 := .int .u16 _) (v2 := str _) (v3 := .bool _) (v4 := .bool _) (v5 := str _) (v6 := str _) (v7 := .int .i64 _) (v8 := .int .u8 _) ent47 rfl rfl rfl rfl rfl rfl rfl rfl rfl <| Ret.det (R5ref_form _ _ _ _ _ _ _ _ _) hst fun w hst => CN (SO (v := .agg #[.int .u16 _, str _, .bool _, .bool _, str _, str _, .int .i64 _, .int .u8 _]) hst ty74 rfl rfl (.here) fun w hst => ?_)
   refine AB rfl <| NL <| run_ret2 Try.func35 rfl (RV.cellA (vs := [.int .u16 _, str _, .bool _, .bool _, str _, str _, .int .i64 _, .int .u8 _]) rfl ty74 rfl rfl (cells_of_obj (n := 8) (hst.objL (.head _)) _ rfl)) (TP (v := .bool _) rfl) ?_
   subst g56
   have e : refS 165 = some ⟨165, [79, 112, 76, 111, 103, 105, 99, 97, 108, 78, 111, 116, 69, 113, 117, 97, 108], true, true, [105, 105], [], 0, 8⟩ := by decide +kernel
   rw [e]
   exact ⟨rfl, hst.pure⟩
 refine SR <| CN <| Op1.eql rfl rfl <| AB rfl <| NL <| run_cond_dec rfl (fun g57 => ?_) (fun g57 => ?_)
 · skip
   refine SR <| MH rfl <| CN <| Op1.call8 (v1 := .int .u16 _) (v2 := str _) (v3 := .bool _) (v4 := .bool _) (v5 := str _) (v6 := str _) (v7 := .int .i64 _) (v8 := .int .u8 _) ent47 rfl rfl rfl rfl rfl rfl rfl rfl rfl <| Ret.det (R5ref_form _ _ _ _ _ _ _ _ _) hst fun w hst => CN (SO (v := .agg #[.int .u16 _, str _, .bool _, .bool _, str _, str _, .int .i64 _, .int .u8 _]) hst ty74 rfl rfl (.here) fun w hst => ?_)
   refine AB rfl <| NL <| run_ret2 Try.func35 rfl (RV.cellA (vs := [.int .u16 _, str _, .bool _, .bool _, str _, str _, .int .i64 _, .int .u8 _]) rfl ty74 rfl rfl (cells_of_obj (n := 8) (hst.objL (.head _)) _ rfl)) (TP (v := .bool _) rfl) ?_
   subst g57
   have e : refS 166 = some ⟨166, [79, 112, 76, 111, 103, 105, 99, 97, 108, 79, 114], true, true, [105, 105], [], 0, 8⟩ := by decide +kernel
   rw [e]
   exact ⟨rfl, hst.pure⟩
 refine SR <| CN <| Op1.eql rfl rfl <| AB rfl <| NL <| Run.forget [(0, .int .u16 _), (2, .pointer (some ⟨_, _, none⟩)), (4, .int .u16 _), (233, .bool _)] ⟨rfl, rfl, rfl, rfl, trivial⟩ fun f => run_cond_dec rfl (fun g58 => ?_) (fun g58 => ?_)
 · skip
   refine SR <| MH rfl <| CN <| Op1.call8 (v1 := .int .u16 _) (v2 := str _) (v3 := .bool _) (v4 := .bool _) (v5 := str _) (v6 := str _) (v7 := .int .i64 _) (v8 := .int .u8 _) ent47 rfl rfl rfl rfl rfl rfl rfl rfl rfl <| Ret.det (R5ref_form _ _ _ _ _ _ _ _ _) hst fun w hst => CN (SO (v := .agg #[.int .u16 _, str _, .bool _, .bool _, str _, str _, .int .i64 _, .int .u8 _]) hst ty74 rfl rfl (.here) fun w hst => ?_)
   refine AB rfl <| NL <| run_ret2 Try.func35 rfl (RV.cellA (vs := [.int .u16 _, str _, .bool _, .bool _, str _, str _, .int .i64 _, .int .u8 _]) rfl ty74 rfl rfl (cells_of_obj (n := 8) (hst.objL (.head _)) _ rfl)) (TP (v := .bool _) rfl) ?_
   subst g58
   have e : refS 167 = some ⟨167, [79, 112, 76, 111, 103, 105, 99, 97, 108, 65, 110, 100], true, true, [105, 105], [], 0, 8⟩ := by decide +kernel
   rw [e]
   exact ⟨rfl, hst.pure⟩
 refine SR <| CN <| Op1.eql rfl rfl <| AB rfl <| NL <| run_cond_dec rfl (fun g59 => ?_) (fun g59 => ?_)
 · skip
   refine SR <| MH rfl <| CN <| Op1.call8 (v1 := .int .u16 _) (v2 := str _) (v3 := .bool _) (v4 := .bool _) (v5 := str _) (v6 := str _) (v7 := .int .i64 _) (v8 := .int .u8 _) ent47 rfl rfl rfl rfl rfl rfl rfl rfl rfl <| Ret.det (R5ref_form _ _ _ _ _ _ _ _ _) hst fun w hst => CN (SO (v := .agg #[.int .u16 _, str _, .bool _, .bool _, str _, str _, .int .i64 _, .int .u8 _]) hst ty74 rfl rfl (.here) fun w hst => ?_)
   refine AB rfl <| NL <| run_ret2 Try.func35 rfl (RV.cellA (vs := [.int .u16 _, str _, .bool _, .bool _, str _, str _, .int .i64 _, .int .u8 _]) rfl ty74 rfl rfl (cells_of_obj (n := 8) (hst.objL (.head _)) _ rfl)) (TP (v := .bool _) rfl) ?_
   subst g59
   have e : refS 168 = some ⟨168, [79, 112, 76, 111, 103, 105, 99, 97, 108, 78, 111, 116], true, true, [105], [], 0, 8⟩ := by decide +kernel
   rw [e]
   exact ⟨rfl, hst.pure⟩
 refine SR <| CN <| Op1.eql rfl rfl <| AB rfl <| NL <| run_cond_dec rfl (fun g60 => ?_) (fun g60 => ?_)
 · skip
   refine SR <| MH rfl <| CN <| Op1.call8 (v1 := .int .u16 _) (v2 := str _) (v3 := .bool _) (v4 := .bool _) (v5 := str _) (v6 := str _) (v7 := .int .i64 _) (v8 := .int .u8 _) ent47 rfl rfl rfl rfl rfl rfl rfl rfl rfl <| Ret.det (R5ref_form _ _ _ _ _ _ _ _ _) hst fun w hst => CN (SO (v := .agg #[.int .u16 _, str _, .bool _, .bool _, str _, str _, .int .i64 _, .int .u8 _]) hst ty74 rfl rfl (.here) fun w hst => ?_)
   refine AB rfl <| NL <| run_ret2 Try.func35 rfl (RV.cellA (vs := [.int .u16 _, str _, .bool _, .bool _, str _, str _, .int .i64 _, .int .u8 _]) rfl ty74 rfl rfl (cells_of_obj (n := 8) (hst.objL (.head _)) _ rfl)) (TP (v := .bool _) rfl) ?_
   subst g60
   have e : refS 169 = some ⟨169, [79, 112, 83, 101, 108, 101, 99, 116], true, true, [105, 105, 105], [], 0, 8⟩ := by decide +kernel
   rw [e]
   exact ⟨rfl, hst.pure⟩
 refine SR <| CN <| Op1.eql rfl rfl <| AB rfl <| NL <| run_cond_dec rfl (fun g61 => ?_) (fun g61 => ?_)
 · skip
   refine SR <| MH rfl <| CN <| Op1.call8 (v1 := .int .u16 _) (v2 := str _) (v3 := .bool _) (v4 := .bool _) (v5 := str _) (v6 := str _) (v7 := .int .i64 _) (v8 := .int .u8 _) ent47 rfl rfl rfl rfl rfl rfl rfl rfl rfl <| Ret.det (R5ref_form _ _ _ _ _ _ _ _ _) hst fun w hst => CN (SO (v := .agg #[.int .u16 _, str _, .bool _, .bool _, str _, str _, .int .i64 _, .int .u8 _]) hst ty74 rfl rfl (.here) fun w hst => ?_)
   refine AB rfl <| NL <| run_ret2 Try.func35 rfl (RV.cellA (vs := [.int .u16 _, str _, .bool _, .bool _, str _, str _, .int .i64 _, .int .u8 _]) rfl ty74 rfl rfl (cells_of_obj (n := 8) (hst.objL (.head _)) _ rfl)) (TP (v := .bool _) rfl) ?_
   subst g61
   have e : refS 170 = some ⟨170, [79, 112, 73, 69, 113, 117, 97, 108], true, true, [105, 105], [], 0, 8⟩ := by decide +kernel
   rw [e]
   exact ⟨rfl, hst.pure⟩
 refine SR <| CN <| Op1.eql rfl rfl <| AB rfl <| NL <| run_cond_dec rfl (fun g62 => ?_) (fun g62 => ?_)
 · skip
   refine SR <| MH rfl <| CN <| Op1.call8 (v1 := .int .u16 _) (v2 := str _) (v3 := .bool _) (v4 := .bool _) (v5 := str _) (v6 := str _) (v7 := .int .i64 _) (v8 := .int .u8 _) ent47 rfl rfl rfl rfl rfl rfl rfl rfl rfl <| Ret.det (R5ref_form _ _ _ _ _ _ _ _ _) hst fun w hst => CN (SO (v := .agg #[.int .u16 _, str _, .bool _, .bool _, str _, str _, .int .i64 _, .int .u8 _]) hst ty74 rfl rfl (.here) fun w hst => ?_)
   refine AB rfl <| NL <| run_ret2 Try.func35 rfl (RV.cellA (vs := [.int .u16 _, str _, .bool _, .bool _, str _, str _, .int .i64 _, .int .u8 _]) rfl ty74 rfl rfl (cells_of_obj (n := 8) (hst.objL (.head _)) _ rfl)) (TP (v := .bool _) rfl) ?_
   subst g62
   have e : refS 171 = some ⟨171, [79, 112, 73, 78, 111, 116, 69, 113, 117, 97, 108], true, true, [105, 105], [], 0, 8⟩ := by decide +kernel
   rw [e]
   exact ⟨rfl, hst.pure⟩
 refine SR <| CN <| Op1.eql rfl rfl <| AB rfl <| NL <| run_cond_dec rfl (fun g63 => ?_) (fun g63 => ?_)
 · skip
   refine SR <| MH rfl <| CN <| Op1.call8 (v1 := .int .u16 _) (v2 := str _) (v3 := .bool _) (v4 := .bool _) (v5 := str _) (v6 := str _) (v7 := .int .i64 _) (v8 := .int .u8 _) ent47 rfl rfl rfl rfl rfl rfl rfl rfl rfl <| Ret.det (R5ref_form _ _ _ _ _ _ _ _ _) hst fun w hst => CN (SO (v := .agg #[.int .u16 _, str _, .bool _, .bool _, str _, str _, .int .i64 _, .int .u8 _]) hst ty74 rfl rfl (.here) fun w hst => ?_)
   refine AB rfl <| NL <| run_ret2 Try.func35 rfl (RV.cellA (vs := [.int .u16 _, str _, .bool _, .bool _, str _, str _, .int .i64 _, .int .u8 _]) rfl ty74 rfl rfl (cells_of_obj (n := 8) (hst.objL (.head _)) _ rfl)) (TP (v := .bool _) rfl) ?_
   subst g63
   have e : refS 172 = some ⟨172, [79, 112, 85, 71, 114, 101, 97, 116, 101, 114, 84, 104, 97, 110], true, true, [105, 105], [], 0, 8⟩ := by decide +kernel
   rw [e]
   exact ⟨rfl, hst.pure⟩
 refine SR <| CN <| Op1.eql rfl rfl <| AB rfl <| NL <| run_cond_dec rfl (fun g64 => ?_) (fun g64 => ?_)
 · skip
   refine SR <| MH rfl <| CN <| Op1.call8 (v1 := .int .u16 _) (v2 := str _) (v3 := .bool _) (v4 := .bool _) (v5 := str _) (v6 := str _) (v7 := .int .i64 _) (v8 := .int .u8 _) ent47 rfl rfl rfl rfl rfl rfl rfl rfl rfl <| Ret.det (R5ref_form _ _ _ _ _ _ _ _ _) hst fun w hst => CN (SO (v := .agg #[.int .u16 _, str _, .bool _, .bool _, str _, str _, .int .i64 _, .int .u8 _]) hst ty74 rfl rfl (.here) fun w hst => ?_)
   refine AB rfl <| NL <| run_ret2 Try.func35 rfl (RV.cellA (vs := [.int .u16 _, str _, .bool _, .bool _, str _, str _, .int .i64 _, .int .u8 _]) rfl ty74 rfl rfl (cells_of_obj (n := 8) (hst.objL (.head _)) _ rfl)) (TP (v := .bool _) rfl) ?_
   subst g64
   have e : refS 173 = some ⟨173, [79, 112, 83, 71, 114, 101, 97, 116, 101, 114, 84, 104, 97, 110], true, true, [105, 105], [], 0, 8⟩ := by decide +kernel
   rw [e]
   exact ⟨rfl, hst.pure⟩
 refine SR <| CN <| Op1.eql rfl rfl <| AB rfl <| NL <| run_cond_dec rfl (fun g65 => ?_) (fun g65 => ?_)
 · skip
   refine SR <| MH rfl <| CN <| Op1.call8 (v1 := .int .u16 _) (v2 := str _) (v3 := .bool _) (v4 := .bool _) (v5 := str _) (v6 := str _) (v7 := .int .i64 _) (v8 := .int .u8 _) ent47 rfl rfl rfl rfl rfl rfl rfl rfl rfl <| Ret.det (R5ref_form _ _ _ _ _ _ _ _ _) hst fun w hst => CN (SO (v := .agg #[.int .u16 _, str _, .bool _, .bool _, str _, str _, .int .i64 _, .int .u8 _]) hst ty74 rfl rfl (.here) fun w hst => ?_)
   refine AB rfl <| NL <| run_ret2 Try.func35 rfl (RV.cellA (vs := [.int .u16 _, str _, .bool _, .bool _, str _, str _, .int .i64 _, .int .u8 _]) rfl ty74 rfl rfl (cells_of_obj (n := 8) (hst.objL (.head _)) _ rfl)) (TP (v := .bool _) rfl) ?_
   subst g65
   have e : refS 174 = some ⟨174, [79, 112, 85, 71, 114, 101, 97, 116, 101, 114, 84, 104, 97, 110, 69, 113, 117, 97, 108], true, true, [105, 105], [], 0, 8⟩ := by decide +kernel
   rw [e]
   exact ⟨rfl, hst.pure⟩
 refine SR <| CN <| Op1.eql rfl rfl <| AB rfl <| NL <| run_cond_dec rfl (fun g66 => ?_) (fun g66 => ?_)
 · skip
   refine SR <| MH rfl <| CN <| Op1.call8 (v1 := .int .u16 _) (v2 := str _) (v3 := .bool _) (v4 := .bool _) (v5 := str _) (v6 := str _) (v7 := .int .i64 _) (v8 := .int .u8 _) ent47 rfl rfl rfl rfl rfl rfl rfl rfl rfl <| Ret.det (R5ref_form _ _ _ _ _ _ _ _ _) hst fun w hst => CN (SO (v := .agg #[.int .u16 _, str _, .bool _, .bool _, str _, str _, .int .i64 _, .int .u8 _]) hst ty74 rfl rfl (.here) fun w hst => ?_)
   refine AB rfl <| NL <| run_ret2 Try.func35 rfl (RV.cellA (vs := [.int .u16 _, str _, .bool _, .bool _, str _, str _, .int .i64 _, .int .u8 _]) rfl ty74 rfl rfl (cells_of_obj (n := 8) (hst.objL (.head _)) _ rfl)) (TP (v := .bool _) rfl) ?_
   subst g66
   have e : refS 175 = some ⟨175, [79, 112, 83, 71, 114, 101, 97, 116, 101, 114, 84, 104, 97, 110, 69, 113, 117, 97, 108], true, true, [105, 105], [], 0, 8⟩ := by decide +kernel
   rw [e]
   exact ⟨rfl, hst.pure⟩
 refine SR <| CN <| Op1.eql rfl rfl <| AB rfl <| NL <| run_cond_dec rfl (fun g67 => ?_) (fun g67 => ?_)
 · skip
   refine SR <| MH rfl <| CN <| Op1.call8 (v1 := .int .u16 _) (v2 := str _) (v3 := .bool _) (v4 := .bool _) (v5 := str _) (v6 := str _) (v7 := .int .i64 _) (v8 := .int .u8 _) ent47 rfl rfl rfl rfl rfl rfl rfl rfl rfl <| Ret.det (R5ref_form _ _ _ _ _ _ _ _ _) hst fun w hst => CN (SO (v := .agg #[.int .u16 _, str _, .bool _, .bool _, str _, str _, .int .i64 _, .int .u8 _]) hst ty74 rfl rfl (.here) fun w hst => ?_)
   refine AB rfl <| NL <| run_ret2 Try.func35 rfl (RV.cellA (vs := [.int .u16 _, str _, .bool _, .bool _, str _, str _, .int .i64 _, .int .u8 _]) rfl ty74 rfl rfl (cells_of_obj (n := 8) (hst.objL (.head _)) _ rfl)) (TP (v := .bool _) rfl) ?_
   subst g67
   have e : refS 176 = some ⟨176, [79, 112, 85, 76, 101, 115, 115, 84, 104, 97, 110], true, true, [105, 105], [], 0, 8⟩ := by decide +kernel
   rw [e]
   exact ⟨rfl, hst.pure⟩
 refine SR <| CN <| Op1.eql rfl rfl <| AB rfl <| NL <| Run.forget [(0, .int .u16 _), (2, .pointer (some ⟨_, _, none⟩)), (4, .int .u16 _), (273, .bool _)] ⟨rfl, rfl, rfl, rfl, trivial⟩ fun f => run_cond_dec rfl (fun g68 => ?_) (fun g68 => ?_)
 · skip
   refine SR <| MH rfl <| CN <| Op1.call8 (v1 := .int .u16 _) (v2 := str _) (v3 := .bool _) (v4 := .bool _) (v5 := str _) (v6 := str _) (v7 := .int .i64 _) (v8 := .int .u8 _) ent47 rfl rfl rfl rfl rfl rfl rfl rfl rfl <| Ret.det (R5ref_form _ _ _ _ _ _ _ _ _) hst fun w hst => CN (SO (v := .agg #[.int .u16 _, str _, .bool _, .bool _, str _, str _, .int .i64 _, .int .u8 _]) hst ty74 rfl rfl (.here) fun w hst => ?_)
   refine AB rfl <| NL <| run_ret2 Try.func35 rfl (RV.cellA (vs := [.int .u16 _, str _, .bool _, .bool _, str _, str _, .int .i64 _, .int .u8 _]) rfl ty74 rfl rfl (cells_of_obj (n := 8) (hst.objL (.head _)) _ rfl)) (TP (v := .bool _) rfl) ?_
   subst g68
   have e : refS 177 = some ⟨177, [79, 112, 83, 76, 101, 115, 115, 84, 104, 97, 110], true, true, [105, 105], [], 0, 8⟩ := by decide +kernel
   rw [e]
   exact ⟨rfl, hst.pure⟩
 refine SR <| CN <| Op1.eql rfl rfl <| AB rfl <| NL <| run_cond_dec rfl (fun g69 => ?_) (fun g69 => ?_)
 · skip
   refine SR <| MH rfl <| CN <| Op1.call8 (v1 := .int .u16 _) (v2 := str _) (v3 := .bool _) (v4 := .bool _) (v5 := str _) (v6 := str _) (v7 := .int .i64 _) (v8 := .int .u8 _) ent47 rfl rfl rfl rfl rfl rfl rfl rfl rfl <| Ret.det (R5ref_form _ _ _ _ _ _ _ _ _) hst fun w hst => CN (SO (v := .agg #[.int .u16 _, str _, .bool _, .bool _, str _, str _, .int .i64 _, .int .u8 _]) hst ty74 rfl rfl (.here) fun w hst => ?_)
   refine AB rfl <| NL <| run_ret2 Try.func35 rfl (RV.cellA (vs := [.int .u16 _, str _, .bool _, .bool _, str _, str _, .int .i64 _, .int .u8 _]) rfl ty74 rfl rfl (cells_of_obj (n := 8) (hst.objL (.head _)) _ rfl)) (TP (v := .bool _) rfl) ?_
   subst g69
   have e : refS 178 = some ⟨178, [79, 112, 85, 76, 101, 115, 115, 84, 104, 97, 110, 69, 113, 117, 97, 108], true, true, [105, 105], [], 0, 8⟩ := by decide +kernel
   rw [e]
   exact ⟨rfl, hst.pure⟩
 refine SR <| CN <| Op1.eql rfl rfl <| AB rfl <| NL <| run_cond_dec rfl (fun g70 => ?_) (fun g70 => ?_)
 · skip
   refine SR <| MH rfl <| CN <| Op1.call8 (v1 := .int .u16 _) (v2 := str _) (v3 := .bool _) (v4 := .bool _) (v5 := str _) (v6 := str _) (v7 := .int .i64 _) (v8 := .int .u8 _) ent47 rfl rfl rfl rfl rfl rfl rfl rfl rfl <| Ret.det (R5ref_form _ _ _ _ _ _ _ _ _) hst fun w hst => CN (SO (v := .agg #[.int .u16 _, str _, .bool _, .bool _, str _, str _, .int .i64 _, .int .u8 _]) hst ty74 rfl rfl (.here) fun w hst => ?_)
   refine AB rfl <| NL <| run_ret2 Try.func35 rfl (RV.cellA (vs := [.int .u16 _, str _, .bool _, .bool _, str _, str _, .int .i64 _, .int .u8 _]) rfl ty74 rfl rfl (cells_of_obj (n := 8) (hst.objL (.head _)) _ rfl)) (TP (v := .bool _) rfl) ?_
   subst g70
   have e : refS 179 = some ⟨179, [79, 112, 83, 76, 101, 115, 115, 84, 104, 97, 110, 69, 113, 117, 97, 108], true, true, [105, 105], [], 0, 8⟩ := by decide +kernel
   rw [e]
   exact ⟨rfl, hst.pure⟩
 refine SR <| CN <| Op1.eql rfl rfl <| AB rfl <| NL <| run_cond_dec rfl (fun g71 => ?_) (fun g71 => ?_)
 · skip
   refine SR <| MH rfl <| CN <| Op1.call8 (v1 := .int .u16 _) (v2 := str _) (v3 := .bool _) (v4 := .bool _) (v5 := str _) (v6 := str _) (v7 := .int .i64 _) (v8 := .int .u8 _) ent47 rfl rfl rfl rfl rfl rfl rfl rfl rfl <| Ret.det (R5ref_form _ _ _ _ _ _ _ _ _) hst fun w hst => CN (SO (v := .agg #[.int .u16 _, str _, .bool _, .bool _, str _, str _, .int .i64 _, .int .u8 _]) hst ty74 rfl rfl (.here) fun w hst => ?_)
   refine AB rfl <| NL <| run_ret2 Try.func35 rfl (RV.cellA (vs := [.int .u16 _, str _, .bool _, .bool _, str _, str _, .int .i64 _, .int .u8 _]) rfl ty74 rfl rfl (cells_of_obj (n := 8) (hst.objL (.head _)) _ rfl)) (TP (v := .bool _) rfl) ?_
   subst g71
   have e : refS 194 = some ⟨194, [79, 112, 83, 104, 105, 102, 116, 82, 105, 103, 104, 116, 76, 111, 103, 105, 99, 97, 108], true, true, [105, 105], [], 0, 8⟩ := by decide +kernel
   rw [e]
   exact ⟨rfl, hst.pure⟩
 refine SR <| CN <| Op1.eql rfl rfl <| AB rfl <| NL <| run_cond_dec rfl (fun g72 => ?_) (fun g72 => ?_)
 · skip
   refine SR <| MH rfl <| CN <| Op1.call8 (v1 := .int .u16 _) (v2 := str _) (v3 := .bool _) (v4 := .bool _) (v5 := str _) (v6 := str _) (v7 := .int .i64 _) (v8 := .int .u8 _) ent47 rfl rfl rfl rfl rfl rfl rfl rfl rfl <| Ret.det (R5ref_form _ _ _ _ _ _ _ _ _) hst fun w hst => CN (SO (v := .agg #[.int .u16 _, str _, .bool _, .bool _, str _, str _, .int .i64 _, .int .u8 _]) hst ty74 rfl rfl (.here) fun w hst => ?_)
   refine AB rfl <| NL <| run_ret2 Try.func35 rfl (RV.cellA (vs := [.int .u16 _, str _, .bool _, .bool _, str _, str _, .int .i64 _, .int .u8 _]) rfl ty74 rfl rfl (cells_of_obj (n := 8) (hst.objL (.head _)) _ rfl)) (TP (v := .bool _) rfl) ?_
   subst g72
   have e : refS 195 = some ⟨195, [79, 112, 83, 104, 105, 102, 116, 82, 105, 103, 104, 116, 65, 114, 105, 116, 104, 109, 101, 116, 105, 99], true, true, [105, 105], [], 0, 8⟩ := by decide +kernel
   rw [e]
   exact ⟨rfl, hst.pure⟩
 refine SR <| CN <| Op1.eql rfl rfl <| AB rfl <| NL <| run_cond_dec rfl (fun g73 => ?_) (fun g73 => ?_)
 · skip
   refine SR <| MH rfl <| CN <| Op1.call8 (v1 := .int .u16 _) (v2 := str _) (v3 := .bool _) (v4 := .bool _) (v5 := str _) (v6 := str _) (v7 := .int .i64 _) (v8 := .int .u8 _) ent47 rfl rfl rfl rfl rfl rfl rfl rfl rfl <| Ret.det (R5ref_form _ _ _ _ _ _ _ _ _) hst fun w hst => CN (SO (v := .agg #[.int .u16 _, str _, .bool _, .bool _, str _, str _, .int .i64 _, .int .u8 _]) hst ty74 rfl rfl (.here) fun w hst => ?_)
   refine AB rfl <| NL <| run_ret2 Try.func35 rfl (RV.cellA (vs := [.int .u16 _, str _, .bool _, .bool _, str _, str _, .int .i64 _, .int .u8 _]) rfl ty74 rfl rfl (cells_of_obj (n := 8) (hst.objL (.head _)) _ rfl)) (TP (v := .bool _) rfl) ?_
   subst g73
   have e : refS 196 = some ⟨196, [79, 112, 83, 104, 105, 102, 116, 76, 101, 102, 116, 76, 111, 103, 105, 99, 97, 108], true, true, [105, 105], [], 0, 8⟩ := by decide +kernel
   rw [e]
   exact ⟨rfl, hst.pure⟩
 refine SR <| CN <| Op1.eql rfl rfl <| AB rfl <| NL <| run_cond_dec rfl (fun g74 => ?_) (fun g74 => ?_)
 · skip
   refine SR <| MH rfl <| CN <| Op1.call8 (v1 := .int .u16 _) (v2 := str _) (v3 := .bool _) (v4 := .bool _) (v5 := str _) (v6 := str _) (v7 := .int .i64 _) (v8 := .int .u8 _) ent47 rfl rfl rfl rfl rfl rfl rfl rfl rfl <| Ret.det (R5ref_form _ _ _ _ _ _ _ _ _) hst fun w hst => CN (SO (v := .agg #[.int .u16 _, str _, .bool _, .bool _, str _, str _, .int .i64 _, .int .u8 _]) hst ty74 rfl rfl (.here) fun w hst => ?_)
   refine AB rfl <| NL <| run_ret2 Try.func35 rfl (RV.cellA (vs := [.int .u16 _, str _, .bool _, .bool _, str _, str _, .int .i64 _, .int .u8 _]) rfl ty74 rfl rfl (cells_of_obj (n := 8) (hst.objL (.head _)) _ rfl)) (TP (v := .bool _) rfl) ?_
   subst g74
   have e : refS 197 = some ⟨197, [79, 112, 66, 105, 116, 119, 105, 115, 101, 79, 114], true, true, [105, 105], [], 0, 8⟩ := by decide +kernel
   rw [e]
   exact ⟨rfl, hst.pure⟩
 refine SR <| CN <| Op1.eql rfl rfl <| AB rfl <| NL <| run_cond_dec rfl (fun g75 => ?_) (fun g75 => ?_)
 · skip
   refine SR <| MH rfl <| CN <| Op1.call8 (v1 := .int .u16 _) (v2 := str _) (v3 := .bool _) (v4 := .bool _) (v5 := str _) (v6 := str _) (v7 := .int .i64 _) (v8 := .int .u8 _) ent47 rfl rfl rfl rfl rfl rfl rfl rfl rfl <| Ret.det (R5ref_form _ _ _ _ _ _ _ _ _) hst fun w hst => CN (SO (v := .agg #[.int .u16 _, str _, .bool _, .bool _, str _, str _, .int .i64 _, .int .u8 _]) hst ty74 rfl rfl (.here) fun w hst => ?_)
   refine AB rfl <| NL <| run_ret2 Try.func35 rfl (RV.cellA (vs := [.int .u16 _, str _, .bool _, .bool _, str _, str _, .int .i64 _, .int .u8 _]) rfl ty74 rfl rfl (cells_of_obj (n := 8) (hst.objL (.head _)) _ rfl)) (TP (v := .bool _) rfl) ?_
   subst g75
   have e : refS 198 = some ⟨198, [79, 112, 66, 105, 116, 119, 105, 115, 101, 88, 111, 114], true, true, [105, 105], [], 0, 8⟩ := by decide +kernel
   rw [e]
   exact ⟨rfl, hst.pure⟩
 refine SR <| CN <| Op1.eql rfl rfl <| AB rfl <| NL <| run_cond_dec rfl (fun g76 => ?_) (fun g76 => ?_)
 · skip
   refine SR <| MH rfl <| CN <| Op1.call8 (v1 := .int .u16 _) (v2 := str _) (v3 := .bool _) (v4 := .bool _) (v5 := str _) (v6 := str _) (v7 := .int .i64 _) (v8 := .int .u8 _) ent47 rfl rfl rfl rfl rfl rfl rfl rfl rfl <| Ret.det (R5ref_form _ _ _ _ _ _ _ _ _) hst fun w hst => CN (SO (v := .agg #[.int .u16 _, str _, .bool _, .bool _, str _, str _, .int .i64 _, .int .u8 _]) hst ty74 rfl rfl (.here) fun w hst => ?_)
   refine AB rfl <| NL <| run_ret2 Try.func35 rfl (RV.cellA (vs := [.int .u16 _, str _, .bool _, .bool _, str _, str _, .int .i64 _, .int .u8 _]) rfl ty74 rfl rfl (cells_of_obj (n := 8) (hst.objL (.head _)) _ rfl)) (TP (v := .bool _) rfl) ?_
   subst g76
   have e : refS 199 = some ⟨199, [79, 112, 66, 105, 116, 119, 105, 115, 101, 65, 110, 100], true, true, [105, 105], [], 0, 8⟩ := by decide +kernel
   rw [e]
   exact ⟨rfl, hst.pure⟩
 refine SR <| CN <| Op1.eql rfl rfl <| AB rfl <| NL <| run_cond_dec rfl (fun g77 => ?_) (fun g77 => ?_)
 · skip
   refine SR <| MH rfl <| CN <| Op1.call8 (v1 := .int .u16 _) (v2 := str _) (v3 := .bool _) (v4 := .bool _) (v5 := str _) (v6 := str _) (v7 := .int .i64 _) (v8 := .int .u8 _) ent47 rfl rfl rfl rfl rfl rfl rfl rfl rfl <| Ret.det (R5ref_form _ _ _ _ _ _ _ _ _) hst fun w hst => CN (SO (v := .agg #[.int .u16 _, str _, .bool _, .bool _, str _, str _, .int .i64 _, .int .u8 _]) hst ty74 rfl rfl (.here) fun w hst => ?_)
   refine AB rfl <| NL <| run_ret2 Try.func35 rfl (RV.cellA (vs := [.int .u16 _, str _, .bool _, .bool _, str _, str _, .int .i64 _, .int .u8 _]) rfl ty74 rfl rfl (cells_of_obj (n := 8) (hst.objL (.head _)) _ rfl)) (TP (v := .bool _) rfl) ?_
   subst g77
   have e : refS 200 = some ⟨200, [79, 112, 78, 111, 116], true, true, [105], [], 0, 8⟩ := by decide +kernel
   rw [e]
   exact ⟨rfl, hst.pure⟩
 refine SR <| CN <| Op1.eql rfl rfl <| AB rfl <| NL <| Run.forget [(0, .int .u16 _), (2, .pointer (some ⟨_, _, none⟩)), (4, .int .u16 _), (313, .bool _)] ⟨rfl, rfl, rfl, rfl, trivial⟩ fun f => run_cond_dec rfl (fun g78 => ?_) (fun g78 => ?_)
 · skip
   refine SR <| MH rfl <| CN <| Op1.call8 (v1 := .int .u16 _) (v2 := str _) (v3 := .bool _) (v4 := .bool _) (v5 := str _) (v6 := str _) (v7 := .int .i64 _) (v8 := .int .u8 _) ent47 rfl rfl rfl rfl rfl rfl rfl rfl rfl <| Ret.det (R5ref_form _ _ _ _ _ _ _ _ _) hst fun w hst => CN (SO (v := .agg #[.int .u16 _, str _, .bool _, .bool _, str _, str _, .int .i64 _, .int .u8 _]) hst ty74 rfl rfl (.here) fun w hst => ?_)
   refine AB rfl <| NL <| run_ret2 Try.func35 rfl (RV.cellA (vs := [.int .u16 _, str _, .bool _, .bool _, str _, str _, .int .i64 _, .int .u8 _]) rfl ty74 rfl rfl (cells_of_obj (n := 8) (hst.objL (.head _)) _ rfl)) (TP (v := .bool _) rfl) ?_
   subst g78
   have e : refS 201 = some ⟨201, [79, 112, 66, 105, 116, 70, 105, 101, 108, 100, 73, 110, 115, 101, 114, 116], true, true, [105, 105, 105, 105], [], 0, 8⟩ := by decide +kernel
   rw [e]
   exact ⟨rfl, hst.pure⟩
 refine SR <| CN <| Op1.eql rfl rfl <| AB rfl <| NL <| run_cond_dec rfl (fun g79 => ?_) (fun g79 => ?_)
 · skip
   refine SR <| MH rfl <| CN <| Op1.call8 (v1 := .int .u16 _) (v2 := str _) (v3 := .bool _) (v4 := .bool _) (v5 := str _) (v6 := str _) (v7 := .int .i64 _) (v8 := .int .u8 _) ent47 rfl rfl rfl rfl rfl rfl rfl rfl rfl <| Ret.det (R5ref_form _ _ _ _ _ _ _ _ _) hst fun w hst => CN (SO (v := .agg #[.int .u16 _, str _, .bool _, .bool _, str _, str _, .int .i64 _, .int .u8 _]) hst ty74 rfl rfl (.here) fun w hst => ?_)
   refine AB rfl <| NL <| run_ret2 Try.func35 rfl (RV.cellA (vs := [.int .u16 _, str _, .bool _, .bool _, str _, str _, .int .i64 _, .int .u8 _]) rfl ty74 rfl rfl (cells_of_obj (n := 8) (hst.objL (.head _)) _ rfl)) (TP (v := .bool _) rfl) ?_
   subst g79
   have e : refS 202 = some ⟨202, [79, 112, 66, 105, 116, 70, 105, 101, 108, 100, 83, 69, 120, 116, 114, 97, 99, 116], true, true, [105, 105, 105], [], 0, 8⟩ := by decide +kernel
   rw [e]
   exact ⟨rfl, hst.pure⟩
 refine SR <| CN <| Op1.eql rfl rfl <| AB rfl <| NL <| run_cond_dec rfl (fun g80 => ?_) (fun g80 => ?_)
 · skip
   refine SR <| MH rfl <| CN <| Op1.call8 (v1 := .int .u16 _) (v2 := str _) (v3 := .bool _) (v4 := .bool _) (v5 := str _) (v6 := str _) (v7 := .int .i64 _) (v8 := .int .u8 _) ent47 rfl rfl rfl rfl rfl rfl rfl rfl rfl <| Ret.det (R5ref_form _ _ _ _ _ _ _ _ _) hst fun w hst => CN (SO (v := .agg #[.int .u16 _, str _, .bool _, .bool _, str _, str _, .int .i64 _, .int .u8 _]) hst ty74 rfl rfl (.here) fun w hst => ?_)
   refine AB rfl <| NL <| run_ret2 Try.func35 rfl (RV.cellA (vs := [.int .u16 _, str _, .bool _, .bool _, str _, str _, .int .i64 _, .int .u8 _]) rfl ty74 rfl rfl (cells_of_obj (n := 8) (hst.objL (.head _)) _ rfl)) (TP (v := .bool _) rfl) ?_
   subst g80
   have e : refS 203 = some ⟨203, [79, 112, 66, 105, 116, 70, 105, 101, 108, 100, 85, 69, 120, 116, 114, 97, 99, 116], true, true, [105, 105, 105], [], 0, 8⟩ := by decide +kernel
   rw [e]
   exact ⟨rfl, hst.pure⟩
 refine SR <| CN <| Op1.eql rfl rfl <| AB rfl <| NL <| run_cond_dec rfl (fun g81 => ?_) (fun g81 => ?_)
 · skip
   refine SR <| MH rfl <| CN <| Op1.call8 (v1 := .int .u16 _) (v2 := str _) (v3 := .bool _) (v4 := .bool _) (v5 := str _) (v6 := str _) (v7 := .int .i64 _) (v8 := .int .u8 _) ent47 rfl rfl rfl rfl rfl rfl rfl rfl rfl <| Ret.det (R5ref_form _ _ _ _ _ _ _ _ _) hst fun w hst => CN (SO (v := .agg #[.int .u16 _, str _, .bool _, .bool _, str _, str _, .int .i64 _, .int .u8 _]) hst ty74 rfl rfl (.here) fun w hst => ?_)
   refine AB rfl <| NL <| run_ret2 Try.func35 rfl (RV.cellA (vs := [.int .u16 _, str _, .bool _, .bool _, str _, str _, .int .i64 _, .int .u8 _]) rfl ty74 rfl rfl (cells_of_obj (n := 8) (hst.objL (.head _)) _ rfl)) (TP (v := .bool _) rfl) ?_
   subst g81
   have e : refS 204 = some ⟨204, [79, 112, 66, 105, 116, 82, 101, 118, 101, 114, 115, 101], true, true, [105], [], 0, 8⟩ := by decide +kernel
   rw [e]
   exact ⟨rfl, hst.pure⟩
 refine SR <| CN <| Op1.eql rfl rfl <| AB rfl <| NL <| run_cond_dec rfl (fun g82 => ?_) (fun g82 => ?_)
 · skip
   refine SR <| MH rfl <| CN <| Op1.call8 (v1 := .int .u16 _) (v2 := str _) (v3 := .bool _) (v4 := .bool _) (v5 := str _) (v6 := str _) (v7 := .int .i64 _) (v8 := .int .u8 _) ent47 rfl rfl rfl rfl rfl rfl rfl rfl rfl <| Ret.det (R5ref_form _ _ _ _ _ _ _ _ _) hst fun w hst => CN (SO (v := .agg #[.int .u16 _, str _, .bool _, .bool _, str _, str _, .int .i64 _, .int .u8 _]) hst ty74 rfl rfl (.here) fun w hst => ?_)
   refine AB rfl <| NL <| run_ret2 Try.func35 rfl (RV.cellA (vs := [.int .u16 _, str _, .bool _, .bool _, str _, str _, .int .i64 _, .int .u8 _]) rfl ty74 rfl rfl (cells_of_obj (n := 8) (hst.objL (.head _)) _ rfl)) (TP (v := .bool _) rfl) ?_
   subst g82
   have e : refS 205 = some ⟨205, [79, 112, 66, 105, 116, 67, 111, 117, 110, 116], true, true, [105], [], 0, 8⟩ := by decide +kernel
   rw [e]
   exact ⟨rfl, hst.pure⟩
 refine SR <| CN <| Op1.eql rfl rfl <| AB rfl <| NL <| run_cond_dec rfl (fun g83 => ?_) (fun g83 => ?_)
 · skip
   refine SR <| MH rfl <| CN <| Op1.call8 (v1 := .int .u16 _) (v2 := str _) (v3 := .bool _) (v4 := .bool _) (v5 := str _) (v6 := str _) (v7 := .int .i64 _) (v8 := .int .u8 _) ent47 rfl rfl rfl rfl rfl rfl rfl rfl rfl <| Ret.det (R5ref_form _ _ _ _ _ _ _ _ _) hst fun w hst => CN (SO (v := .agg #[.int .u16 _, str _, .bool _, .bool _, str _, str _, .int .i64 _, .int .u8 _]) hst ty74 rfl rfl (.here) fun w hst => ?_)
   refine AB rfl <| NL <| run_ret2 Try.func35 rfl (RV.cellA (vs := [.int .u16 _, str _, .bool _, .bool _, str _, str _, .int .i64 _, .int .u8 _]) rfl ty74 rfl rfl (cells_of_obj (n := 8) (hst.objL (.head _)) _ rfl)) (TP (v := .bool _) rfl) ?_
   subst g83
   have e : refS 245 = some ⟨245, [79, 112, 80, 104, 105], true, true, [], [105, 105], 0, 8⟩ := by decide +kernel
   rw [e]
   exact ⟨rfl, hst.pure⟩
 refine SR <| CN <| Op1.eql rfl rfl <| AB rfl <| NL <| run_cond_dec rfl (fun g84 => ?_) (fun g84 => ?_)
 · skip
   refine SR <| MH rfl <| CN <| Op1.call8 (v1 := .int .u16 _) (v2 := str _) (v3 := .bool _) (v4 := .bool _) (v5 := str _) (v6 := str _) (v7 := .int .i64 _) (v8 := .int .u8 _) ent47 rfl rfl rfl rfl rfl rfl rfl rfl rfl <| Ret.det (R5ref_form _ _ _ _ _ _ _ _ _) hst fun w hst => CN (SO (v := .agg #[.int .u16 _, str _, .bool _, .bool _, str _, str _, .int .i64 _, .int .u8 _]) hst ty74 rfl rfl (.here) fun w hst => ?_)
   refine AB rfl <| NL <| run_ret2 Try.func35 rfl (RV.cellA (vs := [.int .u16 _, str _, .bool _, .bool _, str _, str _, .int .i64 _, .int .u8 _]) rfl ty74 rfl rfl (cells_of_obj (n := 8) (hst.objL (.head _)) _ rfl)) (TP (v := .bool _) rfl) ?_
   subst g84
   have e : refS 246 = some ⟨246, [79, 112, 76, 111, 111, 112, 77, 101, 114, 103, 101], false, false, [105, 105, 103], [], 0, 8⟩ := by decide +kernel
   rw [e]
   exact ⟨rfl, hst.pure⟩
 refine SR <| CN <| Op1.eql rfl rfl <| AB rfl <| NL <| run_cond_dec rfl (fun g85 => ?_) (fun g85 => ?_)
 · skip
   refine SR <| MH rfl <| CN <| Op1.call8 (v1 := .int .u16 _) (v2 := str _) (v3 := .bool _) (v4 := .bool _) (v5 := str _) (v6 := str _) (v7 := .int .i64 _) (v8 := .int .u8 _) ent47 rfl rfl rfl rfl rfl rfl rfl rfl rfl <| Ret.det (R5ref_form _ _ _ _ _ _ _ _ _) hst fun w hst => CN (SO (v := .agg #[.int .u16 _, str _, .bool _, .bool _, str _, str _, .int .i64 _, .int .u8 _]) hst ty74 rfl rfl (.here) fun w hst => ?_)
   refine AB rfl <| NL <| run_ret2 Try.func35 rfl (RV.cellA (vs := [.int .u16 _, str _, .bool _, .bool _, str _, str _, .int .i64 _, .int .u8 _]) rfl ty74 rfl rfl (cells_of_obj (n := 8) (hst.objL (.head _)) _ rfl)) (TP (v := .bool _) rfl) ?_
   subst g85
   have e : refS 247 = some ⟨247, [79, 112, 83, 101, 108, 101, 99, 116, 105, 111, 110, 77, 101, 114, 103, 101], false, false, [105, 104], [], 0, 8⟩ := by decide +kernel
   rw [e]
   exact ⟨rfl, hst.pure⟩
 refine SR <| CN <| Op1.eql rfl rfl <| AB rfl <| NL <| run_cond_dec rfl (fun g86 => ?_) (fun g86 => ?_)
 · skip
   refine SR <| MH rfl <| CN <| Op1.call8 (v1 := .int .u16 _) (v2 := str _) (v3 := .bool _) (v4 := .bool _) (v5 := str _) (v6 := str _) (v7 := .int .i64 _) (v8 := .int .u8 _) ent47 rfl rfl rfl rfl rfl rfl rfl rfl rfl <| Ret.det (R5ref_form _ _ _ _ _ _ _ _ _) hst fun w hst => CN (SO (v := .agg #[.int .u16 _, str _, .bool _, .bool _, str _, str _, .int .i64 _, .int .u8 _]) hst ty74 rfl rfl (.here) fun w hst => ?_)
   refine AB rfl <| NL <| run_ret2 Try.func35 rfl (RV.cellA (vs := [.int .u16 _, str _, .bool _, .bool _, str _, str _, .int .i64 _, .int .u8 _]) rfl ty74 rfl rfl (cells_of_obj (n := 8) (hst.objL (.head _)) _ rfl)) (TP (v := .bool _) rfl) ?_
   subst g86
   have e : refS 248 = some ⟨248, [79, 112, 76, 97, 98, 101, 108], false, true, [], [], 0, 8⟩ := by decide +kernel
   rw [e]
   exact ⟨rfl, hst.pure⟩
 refine SR <| CN <| Op1.eql rfl rfl <| AB rfl <| NL <| run_cond_dec rfl (fun g87 => ?_) (fun g87 => ?_)
 · skip
   refine SR <| MH rfl <| CN <| Op1.call8 (v1 := .int .u16 _) (v2 := str _) (v3 := .bool _) (v4 := .bool _) (v5 := str _) (v6 := str _) (v7 := .int .i64 _) (v8 := .int .u8 _) ent47 rfl rfl rfl rfl rfl rfl rfl rfl rfl <| Ret.det (R5ref_form _ _ _ _ _ _ _ _ _) hst fun w hst => CN (SO (v := .agg #[.int .u16 _, str _, .bool _, .bool _, str _, str _, .int .i64 _, .int .u8 _]) hst ty74 rfl rfl (.here) fun w hst => ?_)
   refine AB rfl <| NL <| run_ret2 Try.func35 rfl (RV.cellA (vs := [.int .u16 _, str _, .bool _, .bool _, str _, str _, .int .i64 _, .int .u8 _]) rfl ty74 rfl rfl (cells_of_obj (n := 8) (hst.objL (.head _)) _ rfl)) (TP (v := .bool _) rfl) ?_
   subst g87
   have e : refS 249 = some ⟨249, [79, 112, 66, 114, 97, 110, 99, 104], false, false, [105], [], 0, 8⟩ := by decide +kernel
   rw [e]
   exact ⟨rfl, hst.pure⟩
 refine SR <| CN <| Op1.eql rfl rfl <| AB rfl <| NL <| Run.forget [(0, .int .u16 _), (2, .pointer (some ⟨_, _, none⟩)), (4, .int .u16 _), (353, .bool _)] ⟨rfl, rfl, rfl, rfl, trivial⟩ fun f => run_cond_dec rfl (fun g88 => ?_) (fun g88 => ?_)
 · skip
   refine SR <| MH rfl <| CN <| Op1.call8 (v1 := .int .u16 _) (v2 := str _) (v3 := .bool _) (v4 := .bool _) (v5 := str _) (v6 := str _) (v7 := .int .i64 _) (v8 := .int .u8 _) ent47 rfl rfl rfl rfl rfl rfl rfl rfl rfl <| Ret.det (R5ref_form _ _ _ _ _ _ _ _ _) hst fun w hst => CN (SO (v := .agg #[.int .u16 _, str _, .bool _, .bool _, str _, str _, .int .i64 _, .int .u8 _]) hst ty74 rfl rfl (.here) fun w hst => ?_)
   refine AB rfl <| NL <| run_ret2 Try.func35 rfl (RV.cellA (vs := [.int .u16 _, str _, .bool _, .bool _, str _, str _, .int .i64 _, .int .u8 _]) rfl ty74 rfl rfl (cells_of_obj (n := 8) (hst.objL (.head _)) _ rfl)) (TP (v := .bool _) rfl) ?_
   subst g88
   have e : refS 250 = some ⟨250, [79, 112, 66, 114, 97, 110, 99, 104, 67, 111, 110, 100, 105, 116, 105, 111, 110, 97, 108], false, false, [105, 105, 105], [], 0, 8⟩ := by decide +kernel
   rw [e]
   exact ⟨rfl, hst.pure⟩
 refine SR <| CN <| Op1.eql rfl rfl <| AB rfl <| NL <| run_cond_dec rfl (fun g89 => ?_) (fun g89 => ?_)
 · skip
   refine SR <| MH rfl <| CN <| Op1.call8 (v1 := .int .u16 _) (v2 := str _) (v3 := .bool _) (v4 := .bool _) (v5 := str _) (v6 := str _) (v7 := .int .i64 _) (v8 := .int .u8 _) ent47 rfl rfl rfl rfl rfl rfl rfl rfl rfl <| Ret.det (R5ref_form _ _ _ _ _ _ _ _ _) hst fun w hst => CN (SO (v := .agg #[.int .u16 _, str _, .bool _, .bool _, str _, str _, .int .i64 _, .int .u8 _]) hst ty74 rfl rfl (.here) fun w hst => ?_)
   refine AB rfl <| NL <| run_ret2 Try.func35 rfl (RV.cellA (vs := [.int .u16 _, str _, .bool _, .bool _, str _, str _, .int .i64 _, .int .u8 _]) rfl ty74 rfl rfl (cells_of_obj (n := 8) (hst.objL (.head _)) _ rfl)) (TP (v := .bool _) rfl) ?_
   subst g89
   have e : refS 251 = some ⟨251, [79, 112, 83, 119, 105, 116, 99, 104], false, false, [105, 105], [110, 105], 0, 8⟩ := by decide +kernel
   rw [e]
   exact ⟨rfl, hst.pure⟩
 refine SR <| CN <| Op1.eql rfl rfl <| AB rfl <| NL <| run_cond_dec rfl (fun g90 => ?_) (fun g90 => ?_)
 · skip
   refine SR <| MH rfl <| CN <| Op1.call8 (v1 := .int .u16 _) (v2 := str _) (v3 := .bool _) (v4 := .bool _) (v5 := str _) (v6 := str _) (v7 := .int .i64 _) (v8 := .int .u8 _) ent47 rfl rfl rfl rfl rfl rfl rfl rfl rfl <| Ret.det (R5ref_form _ _ _ _ _ _ _ _ _) hst fun w hst => CN (SO (v := .agg #[.int .u16 _, str _, .bool _, .bool _, str _, str _, .int .i64 _, .int .u8 _]) hst ty74 rfl rfl (.here) fun w hst => ?_)
   refine AB rfl <| NL <| run_ret2 Try.func35 rfl (RV.cellA (vs := [.int .u16 _, str _, .bool _, .bool _, str _, str _, .int .i64 _, .int .u8 _]) rfl ty74 rfl rfl (cells_of_obj (n := 8) (hst.objL (.head _)) _ rfl)) (TP (v := .bool _) rfl) ?_
   subst g90
   have e : refS 252 = some ⟨252, [79, 112, 75, 105, 108, 108], false, false, [], [], 0, 8⟩ := by decide +kernel
   rw [e]
   exact ⟨rfl, hst.pure⟩
 refine SR <| CN <| Op1.eql rfl rfl <| AB rfl <| NL <| run_cond_dec rfl (fun g91 => ?_) (fun g91 => ?_)
 · skip
   refine SR <| MH rfl <| CN <| Op1.call8 (v1 := .int .u16 _) (v2 := str _) (v3 := .bool _) (v4 := .bool _) (v5 := str _) (v6 := str _) (v7 := .int .i64 _) (v8 := .int .u8 _) ent47 rfl rfl rfl rfl rfl rfl rfl rfl rfl <| Ret.det (R5ref_form _ _ _ _ _ _ _ _ _) hst fun w hst => CN (SO (v := .agg #[.int .u16 _, str _, .bool _, .bool _, str _, str _, .int .i64 _, .int .u8 _]) hst ty74 rfl rfl (.here) fun w hst => ?_)
   refine AB rfl <| NL <| run_ret2 Try.func35 rfl (RV.cellA (vs := [.int .u16 _, str _, .bool _, .bool _, str _, str _, .int .i64 _, .int .u8 _]) rfl ty74 rfl rfl (cells_of_obj (n := 8) (hst.objL (.head _)) _ rfl)) (TP (v := .bool _) rfl) ?_
   subst g91
   have e : refS 253 = some ⟨253, [79, 112, 82, 101, 116, 117, 114, 110], false, false, [], [], 0, 8⟩ := by decide +kernel
   rw [e]
   exact ⟨rfl, hst.pure⟩
 refine SR <| CN <| Op1.eql rfl rfl <| AB rfl <| NL <| run_cond_dec rfl (fun g92 => ?_) (fun g92 => ?_)
 · skip
   refine SR <| MH rfl <| CN <| Op1.call8 (v1 := .int .u16 _) (v2 := str _) (v3 := .bool _) (v4 := .bool _) (v5 := str _) (v6 := str _) (v7 := .int .i64 _) (v8 := .int .u8 _) ent47 rfl rfl rfl rfl rfl rfl rfl rfl rfl <| Ret.det (R5ref_form _ _ _ _ _ _ _ _ _) hst fun w hst => CN (SO (v := .agg #[.int .u16 _, str _, .bool _, .bool _, str _, str _, .int .i64 _, .int .u8 _]) hst ty74 rfl rfl (.here) fun w hst => ?_)
   refine AB rfl <| NL <| run_ret2 Try.func35 rfl (RV.cellA (vs := [.int .u16 _, str _, .bool _, .bool _, str _, str _, .int .i64 _, .int .u8 _]) rfl ty74 rfl rfl (cells_of_obj (n := 8) (hst.objL (.head _)) _ rfl)) (TP (v := .bool _) rfl) ?_
   subst g92
   have e : refS 254 = some ⟨254, [79, 112, 82, 101, 116, 117, 114, 110, 86, 97, 108, 117, 101], false, false, [105], [], 0, 8⟩ := by decide +kernel
   rw [e]
   exact ⟨rfl, hst.pure⟩
 refine SR <| CN <| Op1.eql rfl rfl <| AB rfl <| NL <| run_cond_dec rfl (fun g93 => ?_) (fun g93 => ?_)
 · skip
   refine SR <| MH rfl <| CN <| Op1.call8 (v1 := .int .u16 _) (v2 := str _) (v3 := .bool _) (v4 := .bool _) (v5 := str _) (v6 := str _) (v7 := .int .i64 _) (v8 := .int .u8 _) ent47 rfl rfl rfl rfl rfl rfl rfl rfl rfl <| Ret.det (R5ref_form _ _ _ _ _ _ _ _ _) hst fun w hst => CN (SO (v := .agg #[.int .u16 _, str _, .bool _, .bool _, str _, str _, .int .i64 _, .int .u8 _]) hst ty74 rfl rfl (.here) fun w hst => ?_)
   refine AB rfl <| NL <| run_ret2 Try.func35 rfl (RV.cellA (vs := [.int .u16 _, str _, .bool _, .bool _, str _, str _, .int .i64 _, .int .u8 _]) rfl ty74 rfl rfl (cells_of_obj (n := 8) (hst.objL (.head _)) _ rfl)) (TP (v := .bool _) rfl) ?_
   subst g93
   have e : refS 255 = some ⟨255, [79, 112, 85, 110, 114, 101, 97, 99, 104, 97, 98, 108, 101], false, false, [], [], 0, 8⟩ := by decide +kernel
   rw [e]
   exact ⟨rfl, hst.pure⟩
 refine run_skip <| run_inBlock <| SR <| CN (Op1.buildStruct ty74 stf74 .nil ?_)
 refine CN (SO (v := .agg #[.int .u16 _, str _, .bool _, .bool _, str _, str _, .int .i64 _, .int .u8 _]) hst ty74 rfl rfl (.here) fun w hst => ?_)
 refine AB rfl <| NL <| run_ret2 Try.func35 rfl (RV.cellA (vs := [.int .u16 _, str _, .bool _, .bool _, str _, str _, .int .i64 _, .int .u8 _]) rfl ty74 rfl rfl (cells_of_obj (n := 8) (hst.objL (.head _)) _ rfl)) (TP (v := .bool _) rfl) ?_
 rw [show refS op = none from refF_none (by simp only [refT, List.forall_mem_cons]; exact ⟨g1, g2, g3, g4, g5, g6, g7, g8, g9, g10, g11, g12, g13, g14, g15, g16, g17, g18, g19, g20, g21, g22, g23, g24, g25, g26, g27, g28, g29, g30, g31, g32, g33, g34, g35, g36, g37, g38, g39, g40, g41, g42, g43, g44, g45, g46, g47, g48, g49, g50, g51, g52, g53, g54, g55, g56, g57, g58, g59, g60, g61, g62, g63, g64, g65, g66, g67, g68, g69, g70, g71, g72, g73, g74, g75, g76, g77, g78, g79, g80, g81, g82, g83, g84, g85, g86, g87, g88, g89, g90, g91, g92, g93, fun _ h => absurd h List.not_mem_nil⟩)]
 exact ⟨rfl, hst.pure⟩
end Go.SK
namespace Go.SK
open Go Go.Proofs
theorem ty116 : TyF Try.prog 116 (.struct (fieldsOf Try.prog 116)) 3 24 [.int .u8 0, .int .u32 0, str []] := TyF.of (by kernel_rfl) (by kernel_rfl)
theorem stf116 : StructF Try.prog 116 [(0, 1), (1, 1), (2, 1)] := ⟨fieldsOf Try.prog 116, by kernel_rfl, fun w => by kernel_rfl⟩
theorem ty113 : TyF Try.prog 113 (.slice 116) 1 24 [.slice none 0 0] := TyF.of (by kernel_rfl) (by kernel_rfl)
theorem ent63 : Enters Try.prog 63 := ⟨Try.f63, _, Try.func63, by kernel_rfl, rfl⟩
theorem fld116_0 : FldF Try.prog 116 0 0 := FldF.of (n := 0) (by kernel_rfl)
theorem fld116_1 : FldF Try.prog 116 1 1 := FldF.of (n := 0) (by kernel_rfl)
theorem fld116_2 : FldF Try.prog 116 2 2 := FldF.of (n := 0) (by kernel_rfl)
end Go.SK
namespace Go.SK
open Go Go.Proofs
open Go.RowKit
set_option maxRecDepth 4000 in
theorem R5ref_Names  (w : World) : Ret Try.prog 63 #[] w (fun v w' => ∃ ao cp, v = .slice ao namesL.length cp ∧ St w NoM [Res.sl ao namesL.length cp 116 3 (namesL.flatMap nameC)] [] w') := by
 refine Ret.enter (args := []) Try.func63 rfl rfl rfl ?_
 have hst := St.init w
 refine SR <| AL rfl <| NSR <| AL rfl <| NSR <| ML rfl <| CN (Op1.buildStruct ty116 stf116 (.c (v := .int .u8 _) rfl (h := (.c (v := .int .u32 _) rfl (h := (.c (v := str _) rfl (h := .nil)))))) ?_)
 refine CN (Op1.buildSl (z0 := [.int .u8 0, .int .u32 0, str []]) hst ty113 ty116 rfl rfl (by kernel_rfl) (.c (v := .agg #[.int .u8 _, .int .u32 _, str _]) rfl (h := .nil)) fun w b4 hst => ?_)
 replace hst := hst.pushNil 116 3
 refine CN (Op1.append (news := [.int .u8 _, .int .u32 _, str _]) hst ty113 ty116 rfl rfl (.here) rfl rfl rfl (cells_of_obj (n := 3) (hst.objL (.tail _ (.head _))) _ rfl) rfl rfl (by omega) fun w ao1 cp2 hst => ?_)
 replace hst := hst.drop (.there (.here))
 refine AL rfl <| NSR <| ML rfl <| CN (Op1.buildStruct ty116 stf116 (.c (v := .int .u8 _) rfl (h := (.c (v := .int .u32 _) rfl (h := (.c (v := str _) rfl (h := .nil)))))) ?_)
 refine CN (Op1.buildSl (z0 := [.int .u8 0, .int .u32 0, str []]) hst ty113 ty116 rfl rfl (by kernel_rfl) (.c (v := .agg #[.int .u8 _, .int .u32 _, str _]) rfl (h := .nil)) fun w b8 hst => ?_)
 refine CN (Op1.append (news := [.int .u8 _, .int .u32 _, str _]) hst ty113 ty116 rfl rfl (.there (.here)) rfl rfl rfl (cells_of_obj (n := 3) (hst.objL (.head _)) _ rfl) rfl rfl (by omega) fun w ao3 cp4 hst => ?_)
 replace hst := hst.drop (.there (.here))
 refine AL rfl <| NSR <| ML rfl <| CN (Op1.buildStruct ty116 stf116 (.c (v := .int .u8 _) rfl (h := (.c (v := .int .u32 _) rfl (h := (.c (v := str _) rfl (h := .nil)))))) ?_)
 refine CN (Op1.buildSl (z0 := [.int .u8 0, .int .u32 0, str []]) hst ty113 ty116 rfl rfl (by kernel_rfl) (.c (v := .agg #[.int .u8 _, .int .u32 _, str _]) rfl (h := .nil)) fun w b12 hst => ?_)
 refine CN (Op1.append (news := [.int .u8 _, .int .u32 _, str _]) hst ty113 ty116 rfl rfl (.there (.here)) rfl rfl rfl (cells_of_obj (n := 3) (hst.objL (.head _)) _ rfl) rfl rfl (by omega) fun w ao5 cp6 hst => ?_)
 replace hst := hst.drop (.there (.here))
 refine AL rfl <| NSR <| ML rfl <| CN (Op1.buildStruct ty116 stf116 (.c (v := .int .u8 _) rfl (h := (.c (v := .int .u32 _) rfl (h := (.c (v := str _) rfl (h := .nil)))))) ?_)
 refine CN (Op1.buildSl (z0 := [.int .u8 0, .int .u32 0, str []]) hst ty113 ty116 rfl rfl (by kernel_rfl) (.c (v := .agg #[.int .u8 _, .int .u32 _, str _]) rfl (h := .nil)) fun w b16 hst => ?_)
 refine CN (Op1.append (news := [.int .u8 _, .int .u32 _, str _]) hst ty113 ty116 rfl rfl (.there (.here)) rfl rfl rfl (cells_of_obj (n := 3) (hst.objL (.head _)) _ rfl) rfl rfl (by omega) fun w ao7 cp8 hst => ?_)
 replace hst := hst.drop (.there (.here))
 refine AL rfl <| NL <| Run.forget [(1, .slice _ _ _)] ⟨rfl, trivial⟩ fun f => SR <| ML rfl <| CN (Op1.buildStruct ty116 stf116 (.c (v := .int .u8 _) rfl (h := (.c (v := .int .u32 _) rfl (h := (.c (v := str _) rfl (h := .nil)))))) ?_)
 refine CN (Op1.buildSl (z0 := [.int .u8 0, .int .u32 0, str []]) hst ty113 ty116 rfl rfl (by kernel_rfl) (.c (v := .agg #[.int .u8 _, .int .u32 _, str _]) rfl (h := .nil)) fun w b20 hst => ?_)
 refine CN (Op1.append (news := [.int .u8 _, .int .u32 _, str _]) hst ty113 ty116 rfl rfl (.there (.here)) rfl rfl rfl (cells_of_obj (n := 3) (hst.objL (.head _)) _ rfl) rfl rfl (by omega) fun w ao9 cp10 hst => ?_)
 replace hst := hst.drop (.there (.here))
 refine AL rfl <| NSR <| ML rfl <| CN (Op1.buildStruct ty116 stf116 (.c (v := .int .u8 _) rfl (h := (.c (v := .int .u32 _) rfl (h := (.c (v := str _) rfl (h := .nil)))))) ?_)
 refine CN (Op1.buildSl (z0 := [.int .u8 0, .int .u32 0, str []]) hst ty113 ty116 rfl rfl (by kernel_rfl) (.c (v := .agg #[.int .u8 _, .int .u32 _, str _]) rfl (h := .nil)) fun w b24 hst => ?_)
 refine CN (Op1.append (news := [.int .u8 _, .int .u32 _, str _]) hst ty113 ty116 rfl rfl (.there (.here)) rfl rfl rfl (cells_of_obj (n := 3) (hst.objL (.head _)) _ rfl) rfl rfl (by omega) fun w ao11 cp12 hst => ?_)
 replace hst := hst.drop (.there (.here))
 refine AL rfl <| NSR <| ML rfl <| CN (Op1.buildStruct ty116 stf116 (.c (v := .int .u8 _) rfl (h := (.c (v := .int .u32 _) rfl (h := (.c (v := str _) rfl (h := .nil)))))) ?_)
 refine CN (Op1.buildSl (z0 := [.int .u8 0, .int .u32 0, str []]) hst ty113 ty116 rfl rfl (by kernel_rfl) (.c (v := .agg #[.int .u8 _, .int .u32 _, str _]) rfl (h := .nil)) fun w b28 hst => ?_)
 refine CN (Op1.append (news := [.int .u8 _, .int .u32 _, str _]) hst ty113 ty116 rfl rfl (.there (.here)) rfl rfl rfl (cells_of_obj (n := 3) (hst.objL (.head _)) _ rfl) rfl rfl (by omega) fun w ao13 cp14 hst => ?_)
 replace hst := hst.drop (.there (.here))
 refine AL rfl <| NSR <| ML rfl <| CN (Op1.buildStruct ty116 stf116 (.c (v := .int .u8 _) rfl (h := (.c (v := .int .u32 _) rfl (h := (.c (v := str _) rfl (h := .nil)))))) ?_)
 refine CN (Op1.buildSl (z0 := [.int .u8 0, .int .u32 0, str []]) hst ty113 ty116 rfl rfl (by kernel_rfl) (.c (v := .agg #[.int .u8 _, .int .u32 _, str _]) rfl (h := .nil)) fun w b32 hst => ?_)
 refine CN (Op1.append (news := [.int .u8 _, .int .u32 _, str _]) hst ty113 ty116 rfl rfl (.there (.here)) rfl rfl rfl (cells_of_obj (n := 3) (hst.objL (.head _)) _ rfl) rfl rfl (by omega) fun w ao15 cp16 hst => ?_)
 replace hst := hst.drop (.there (.here))
 refine AL rfl <| NL <| Run.forget [(1, .slice _ _ _)] ⟨rfl, trivial⟩ fun f => SR <| ML rfl <| CN (Op1.buildStruct ty116 stf116 (.c (v := .int .u8 _) rfl (h := (.c (v := .int .u32 _) rfl (h := (.c (v := str _) rfl (h := .nil)))))) ?_)
 refine CN (Op1.buildSl (z0 := [.int .u8 0, .int .u32 0, str []]) hst ty113 ty116 rfl rfl (by kernel_rfl) (.c (v := .agg #[.int .u8 _, .int .u32 _, str _]) rfl (h := .nil)) fun w b36 hst => ?_)
 refine CN (Op1.append (news := [.int .u8 _, .int .u32 _, str _]) hst ty113 ty116 rfl rfl (.there (.here)) rfl rfl rfl (cells_of_obj (n := 3) (hst.objL (.head _)) _ rfl) rfl rfl (by omega) fun w ao17 cp18 hst => ?_)
 replace hst := hst.drop (.there (.here))
 refine AL rfl <| NSR <| ML rfl <| CN (Op1.buildStruct ty116 stf116 (.c (v := .int .u8 _) rfl (h := (.c (v := .int .u32 _) rfl (h := (.c (v := str _) rfl (h := .nil)))))) ?_)
 refine CN (Op1.buildSl (z0 := [.int .u8 0, .int .u32 0, str []]) hst ty113 ty116 rfl rfl (by kernel_rfl) (.c (v := .agg #[.int .u8 _, .int .u32 _, str _]) rfl (h := .nil)) fun w b40 hst => ?_)
 refine CN (Op1.append (news := [.int .u8 _, .int .u32 _, str _]) hst ty113 ty116 rfl rfl (.there (.here)) rfl rfl rfl (cells_of_obj (n := 3) (hst.objL (.head _)) _ rfl) rfl rfl (by omega) fun w ao19 cp20 hst => ?_)
 replace hst := hst.drop (.there (.here))
 refine AL rfl <| NSR <| ML rfl <| CN (Op1.buildStruct ty116 stf116 (.c (v := .int .u8 _) rfl (h := (.c (v := .int .u32 _) rfl (h := (.c (v := str _) rfl (h := .nil)))))) ?_)
 refine CN (Op1.buildSl (z0 := [.int .u8 0, .int .u32 0, str []]) hst ty113 ty116 rfl rfl (by kernel_rfl) (.c (v := .agg #[.int .u8 _, .int .u32 _, str _]) rfl (h := .nil)) fun w b44 hst => ?_)
 refine CN (Op1.append (news := [.int .u8 _, .int .u32 _, str _]) hst ty113 ty116 rfl rfl (.there (.here)) rfl rfl rfl (cells_of_obj (n := 3) (hst.objL (.head _)) _ rfl) rfl rfl (by omega) fun w ao21 cp22 hst => ?_)
 replace hst := hst.drop (.there (.here))
 refine AL rfl <| NSR <| ML rfl <| CN (Op1.buildStruct ty116 stf116 (.c (v := .int .u8 _) rfl (h := (.c (v := .int .u32 _) rfl (h := (.c (v := str _) rfl (h := .nil)))))) ?_)
 refine CN (Op1.buildSl (z0 := [.int .u8 0, .int .u32 0, str []]) hst ty113 ty116 rfl rfl (by kernel_rfl) (.c (v := .agg #[.int .u8 _, .int .u32 _, str _]) rfl (h := .nil)) fun w b48 hst => ?_)
 refine CN (Op1.append (news := [.int .u8 _, .int .u32 _, str _]) hst ty113 ty116 rfl rfl (.there (.here)) rfl rfl rfl (cells_of_obj (n := 3) (hst.objL (.head _)) _ rfl) rfl rfl (by omega) fun w ao23 cp24 hst => ?_)
 replace hst := hst.drop (.there (.here))
 refine AL rfl <| NL <| Run.forget [(1, .slice _ _ _)] ⟨rfl, trivial⟩ fun f => SR <| ML rfl <| CN (Op1.buildStruct ty116 stf116 (.c (v := .int .u8 _) rfl (h := (.c (v := .int .u32 _) rfl (h := (.c (v := str _) rfl (h := .nil)))))) ?_)
 refine CN (Op1.buildSl (z0 := [.int .u8 0, .int .u32 0, str []]) hst ty113 ty116 rfl rfl (by kernel_rfl) (.c (v := .agg #[.int .u8 _, .int .u32 _, str _]) rfl (h := .nil)) fun w b52 hst => ?_)
 refine CN (Op1.append (news := [.int .u8 _, .int .u32 _, str _]) hst ty113 ty116 rfl rfl (.there (.here)) rfl rfl rfl (cells_of_obj (n := 3) (hst.objL (.head _)) _ rfl) rfl rfl (by omega) fun w ao25 cp26 hst => ?_)
 replace hst := hst.drop (.there (.here))
 refine AL rfl <| NSR <| ML rfl <| CN (Op1.buildStruct ty116 stf116 (.c (v := .int .u8 _) rfl (h := (.c (v := .int .u32 _) rfl (h := (.c (v := str _) rfl (h := .nil)))))) ?_)
 refine CN (Op1.buildSl (z0 := [.int .u8 0, .int .u32 0, str []]) hst ty113 ty116 rfl rfl (by kernel_rfl) (.c (v := .agg #[.int .u8 _, .int .u32 _, str _]) rfl (h := .nil)) fun w b56 hst => ?_)
 refine CN (Op1.append (news := [.int .u8 _, .int .u32 _, str _]) hst ty113 ty116 rfl rfl (.there (.here)) rfl rfl rfl (cells_of_obj (n := 3) (hst.objL (.head _)) _ rfl) rfl rfl (by omega) fun w ao27 cp28 hst => ?_)
 replace hst := hst.drop (.there (.here))
 refine AL rfl <| NSR <| ML rfl <| CN (Op1.buildStruct ty116 stf116 (.c (v := .int .u8 _) rfl (h := (.c (v := .int .u32 _) rfl (h := (.c (v := str _) rfl (h := .nil)))))) ?_)
 refine CN (Op1.buildSl (z0 := [.int .u8 0, .int .u32 0, str []]) hst ty113 ty116 rfl rfl (by kernel_rfl) (.c (v := .agg #[.int .u8 _, .int .u32 _, str _]) rfl (h := .nil)) fun w b60 hst => ?_)
 refine CN (Op1.append (news := [.int .u8 _, .int .u32 _, str _]) hst ty113 ty116 rfl rfl (.there (.here)) rfl rfl rfl (cells_of_obj (n := 3) (hst.objL (.head _)) _ rfl) rfl rfl (by omega) fun w ao29 cp30 hst => ?_)
 replace hst := hst.drop (.there (.here))
 refine AL rfl <| NSR <| ML rfl <| CN (Op1.buildStruct ty116 stf116 (.c (v := .int .u8 _) rfl (h := (.c (v := .int .u32 _) rfl (h := (.c (v := str _) rfl (h := .nil)))))) ?_)
 refine CN (Op1.buildSl (z0 := [.int .u8 0, .int .u32 0, str []]) hst ty113 ty116 rfl rfl (by kernel_rfl) (.c (v := .agg #[.int .u8 _, .int .u32 _, str _]) rfl (h := .nil)) fun w b64 hst => ?_)
 refine CN (Op1.append (news := [.int .u8 _, .int .u32 _, str _]) hst ty113 ty116 rfl rfl (.there (.here)) rfl rfl rfl (cells_of_obj (n := 3) (hst.objL (.head _)) _ rfl) rfl rfl (by omega) fun w ao31 cp32 hst => ?_)
 replace hst := hst.drop (.there (.here))
 refine AL rfl <| NL <| Run.forget [(1, .slice _ _ _)] ⟨rfl, trivial⟩ fun f => SR <| ML rfl <| CN (Op1.buildStruct ty116 stf116 (.c (v := .int .u8 _) rfl (h := (.c (v := .int .u32 _) rfl (h := (.c (v := str _) rfl (h := .nil)))))) ?_)
 refine CN (Op1.buildSl (z0 := [.int .u8 0, .int .u32 0, str []]) hst ty113 ty116 rfl rfl (by kernel_rfl) (.c (v := .agg #[.int .u8 _, .int .u32 _, str _]) rfl (h := .nil)) fun w b68 hst => ?_)
 refine CN (Op1.append (news := [.int .u8 _, .int .u32 _, str _]) hst ty113 ty116 rfl rfl (.there (.here)) rfl rfl rfl (cells_of_obj (n := 3) (hst.objL (.head _)) _ rfl) rfl rfl (by omega) fun w ao33 cp34 hst => ?_)
 replace hst := hst.drop (.there (.here))
 refine AL rfl <| NSR <| ML rfl <| CN (Op1.buildStruct ty116 stf116 (.c (v := .int .u8 _) rfl (h := (.c (v := .int .u32 _) rfl (h := (.c (v := str _) rfl (h := .nil)))))) ?_)
 refine CN (Op1.buildSl (z0 := [.int .u8 0, .int .u32 0, str []]) hst ty113 ty116 rfl rfl (by kernel_rfl) (.c (v := .agg #[.int .u8 _, .int .u32 _, str _]) rfl (h := .nil)) fun w b72 hst => ?_)
 refine CN (Op1.append (news := [.int .u8 _, .int .u32 _, str _]) hst ty113 ty116 rfl rfl (.there (.here)) rfl rfl rfl (cells_of_obj (n := 3) (hst.objL (.head _)) _ rfl) rfl rfl (by omega) fun w ao35 cp36 hst => ?_)
 replace hst := hst.drop (.there (.here))
 refine AL rfl <| NSR <| ML rfl <| CN (Op1.buildStruct ty116 stf116 (.c (v := .int .u8 _) rfl (h := (.c (v := .int .u32 _) rfl (h := (.c (v := str _) rfl (h := .nil)))))) ?_)
 refine CN (Op1.buildSl (z0 := [.int .u8 0, .int .u32 0, str []]) hst ty113 ty116 rfl rfl (by kernel_rfl) (.c (v := .agg #[.int .u8 _, .int .u32 _, str _]) rfl (h := .nil)) fun w b76 hst => ?_)
 refine CN (Op1.append (news := [.int .u8 _, .int .u32 _, str _]) hst ty113 ty116 rfl rfl (.there (.here)) rfl rfl rfl (cells_of_obj (n := 3) (hst.objL (.head _)) _ rfl) rfl rfl (by omega) fun w ao37 cp38 hst => ?_)
 replace hst := hst.drop (.there (.here))
 refine AL rfl <| NSR <| ML rfl <| CN (Op1.buildStruct ty116 stf116 (.c (v := .int .u8 _) rfl (h := (.c (v := .int .u32 _) rfl (h := (.c (v := str _) rfl (h := .nil)))))) ?_)
 refine CN (Op1.buildSl (z0 := [.int .u8 0, .int .u32 0, str []]) hst ty113 ty116 rfl rfl (by kernel_rfl) (.c (v := .agg #[.int .u8 _, .int .u32 _, str _]) rfl (h := .nil)) fun w b80 hst => ?_)
 refine CN (Op1.append (news := [.int .u8 _, .int .u32 _, str _]) hst ty113 ty116 rfl rfl (.there (.here)) rfl rfl rfl (cells_of_obj (n := 3) (hst.objL (.head _)) _ rfl) rfl rfl (by omega) fun w ao39 cp40 hst => ?_)
 replace hst := hst.drop (.there (.here))
 refine AL rfl <| NL <| Run.forget [(1, .slice _ _ _)] ⟨rfl, trivial⟩ fun f => SR <| ML rfl <| CN (Op1.buildStruct ty116 stf116 (.c (v := .int .u8 _) rfl (h := (.c (v := .int .u32 _) rfl (h := (.c (v := str _) rfl (h := .nil)))))) ?_)
 refine CN (Op1.buildSl (z0 := [.int .u8 0, .int .u32 0, str []]) hst ty113 ty116 rfl rfl (by kernel_rfl) (.c (v := .agg #[.int .u8 _, .int .u32 _, str _]) rfl (h := .nil)) fun w b84 hst => ?_)
 refine CN (Op1.append (news := [.int .u8 _, .int .u32 _, str _]) hst ty113 ty116 rfl rfl (.there (.here)) rfl rfl rfl (cells_of_obj (n := 3) (hst.objL (.head _)) _ rfl) rfl rfl (by omega) fun w ao41 cp42 hst => ?_)
 replace hst := hst.drop (.there (.here))
 refine AL rfl <| NSR <| ML rfl <| CN (Op1.buildStruct ty116 stf116 (.c (v := .int .u8 _) rfl (h := (.c (v := .int .u32 _) rfl (h := (.c (v := str _) rfl (h := .nil)))))) ?_)
 refine CN (Op1.buildSl (z0 := [.int .u8 0, .int .u32 0, str []]) hst ty113 ty116 rfl rfl (by kernel_rfl) (.c (v := .agg #[.int .u8 _, .int .u32 _, str _]) rfl (h := .nil)) fun w b88 hst => ?_)
 refine CN (Op1.append (news := [.int .u8 _, .int .u32 _, str _]) hst ty113 ty116 rfl rfl (.there (.here)) rfl rfl rfl (cells_of_obj (n := 3) (hst.objL (.head _)) _ rfl) rfl rfl (by omega) fun w ao43 cp44 hst => ?_)
 replace hst := hst.drop (.there (.here))
 refine AL rfl <| NSR <| ML rfl <| CN (Op1.buildStruct ty116 stf116 (.c (v := .int .u8 _) rfl (h := (.c (v := .int .u32 _) rfl (h := (.c (v := str _) rfl (h := .nil)))))) ?_)
 refine CN (Op1.buildSl (z0 := [.int .u8 0, .int .u32 0, str []]) hst ty113 ty116 rfl rfl (by kernel_rfl) (.c (v := .agg #[.int .u8 _, .int .u32 _, str _]) rfl (h := .nil)) fun w b92 hst => ?_)
 refine CN (Op1.append (news := [.int .u8 _, .int .u32 _, str _]) hst ty113 ty116 rfl rfl (.there (.here)) rfl rfl rfl (cells_of_obj (n := 3) (hst.objL (.head _)) _ rfl) rfl rfl (by omega) fun w ao45 cp46 hst => ?_)
 replace hst := hst.drop (.there (.here))
 refine AL rfl <| NSR <| ML rfl <| CN (Op1.buildStruct ty116 stf116 (.c (v := .int .u8 _) rfl (h := (.c (v := .int .u32 _) rfl (h := (.c (v := str _) rfl (h := .nil)))))) ?_)
 refine CN (Op1.buildSl (z0 := [.int .u8 0, .int .u32 0, str []]) hst ty113 ty116 rfl rfl (by kernel_rfl) (.c (v := .agg #[.int .u8 _, .int .u32 _, str _]) rfl (h := .nil)) fun w b96 hst => ?_)
 refine CN (Op1.append (news := [.int .u8 _, .int .u32 _, str _]) hst ty113 ty116 rfl rfl (.there (.here)) rfl rfl rfl (cells_of_obj (n := 3) (hst.objL (.head _)) _ rfl) rfl rfl (by omega) fun w ao47 cp48 hst => ?_)
 replace hst := hst.drop (.there (.here))
 refine AL rfl <| NL <| Run.forget [(1, .slice _ _ _)] ⟨rfl, trivial⟩ fun f => SR <| ML rfl <| CN (Op1.buildStruct ty116 stf116 (.c (v := .int .u8 _) rfl (h := (.c (v := .int .u32 _) rfl (h := (.c (v := str _) rfl (h := .nil)))))) ?_)
 refine CN (Op1.buildSl (z0 := [.int .u8 0, .int .u32 0, str []]) hst ty113 ty116 rfl rfl (by kernel_rfl) (.c (v := .agg #[.int .u8 _, .int .u32 _, str _]) rfl (h := .nil)) fun w b100 hst => ?_)
 refine CN (Op1.append (news := [.int .u8 _, .int .u32 _, str _]) hst ty113 ty116 rfl rfl (.there (.here)) rfl rfl rfl (cells_of_obj (n := 3) (hst.objL (.head _)) _ rfl) rfl rfl (by omega) fun w ao49 cp50 hst => ?_)
 replace hst := hst.drop (.there (.here))
 refine AL rfl <| NSR <| ML rfl <| CN (Op1.buildStruct ty116 stf116 (.c (v := .int .u8 _) rfl (h := (.c (v := .int .u32 _) rfl (h := (.c (v := str _) rfl (h := .nil)))))) ?_)
 refine CN (Op1.buildSl (z0 := [.int .u8 0, .int .u32 0, str []]) hst ty113 ty116 rfl rfl (by kernel_rfl) (.c (v := .agg #[.int .u8 _, .int .u32 _, str _]) rfl (h := .nil)) fun w b104 hst => ?_)
 refine CN (Op1.append (news := [.int .u8 _, .int .u32 _, str _]) hst ty113 ty116 rfl rfl (.there (.here)) rfl rfl rfl (cells_of_obj (n := 3) (hst.objL (.head _)) _ rfl) rfl rfl (by omega) fun w ao51 cp52 hst => ?_)
 replace hst := hst.drop (.there (.here))
 refine AL rfl <| NSR <| ML rfl <| CN (Op1.buildStruct ty116 stf116 (.c (v := .int .u8 _) rfl (h := (.c (v := .int .u32 _) rfl (h := (.c (v := str _) rfl (h := .nil)))))) ?_)
 refine CN (Op1.buildSl (z0 := [.int .u8 0, .int .u32 0, str []]) hst ty113 ty116 rfl rfl (by kernel_rfl) (.c (v := .agg #[.int .u8 _, .int .u32 _, str _]) rfl (h := .nil)) fun w b108 hst => ?_)
 refine CN (Op1.append (news := [.int .u8 _, .int .u32 _, str _]) hst ty113 ty116 rfl rfl (.there (.here)) rfl rfl rfl (cells_of_obj (n := 3) (hst.objL (.head _)) _ rfl) rfl rfl (by omega) fun w ao53 cp54 hst => ?_)
 replace hst := hst.drop (.there (.here))
 refine AL rfl <| NSR <| ML rfl <| CN (Op1.buildStruct ty116 stf116 (.c (v := .int .u8 _) rfl (h := (.c (v := .int .u32 _) rfl (h := (.c (v := str _) rfl (h := .nil)))))) ?_)
 refine CN (Op1.buildSl (z0 := [.int .u8 0, .int .u32 0, str []]) hst ty113 ty116 rfl rfl (by kernel_rfl) (.c (v := .agg #[.int .u8 _, .int .u32 _, str _]) rfl (h := .nil)) fun w b112 hst => ?_)
 refine CN (Op1.append (news := [.int .u8 _, .int .u32 _, str _]) hst ty113 ty116 rfl rfl (.there (.here)) rfl rfl rfl (cells_of_obj (n := 3) (hst.objL (.head _)) _ rfl) rfl rfl (by omega) fun w ao55 cp56 hst => ?_)
 replace hst := hst.drop (.there (.here))
 refine AL rfl <| NL <| Run.forget [(1, .slice _ _ _)] ⟨rfl, trivial⟩ fun f => SR <| ML rfl <| CN (Op1.buildStruct ty116 stf116 (.c (v := .int .u8 _) rfl (h := (.c (v := .int .u32 _) rfl (h := (.c (v := str _) rfl (h := .nil)))))) ?_)
 refine CN (Op1.buildSl (z0 := [.int .u8 0, .int .u32 0, str []]) hst ty113 ty116 rfl rfl (by kernel_rfl) (.c (v := .agg #[.int .u8 _, .int .u32 _, str _]) rfl (h := .nil)) fun w b116 hst => ?_)
 refine CN (Op1.append (news := [.int .u8 _, .int .u32 _, str _]) hst ty113 ty116 rfl rfl (.there (.here)) rfl rfl rfl (cells_of_obj (n := 3) (hst.objL (.head _)) _ rfl) rfl rfl (by omega) fun w ao57 cp58 hst => ?_)
 replace hst := hst.drop (.there (.here))
 refine AL rfl <| NSR <| ML rfl <| CN (Op1.buildStruct ty116 stf116 (.c (v := .int .u8 _) rfl (h := (.c (v := .int .u32 _) rfl (h := (.c (v := str _) rfl (h := .nil)))))) ?_)
 refine CN (Op1.buildSl (z0 := [.int .u8 0, .int .u32 0, str []]) hst ty113 ty116 rfl rfl (by kernel_rfl) (.c (v := .agg #[.int .u8 _, .int .u32 _, str _]) rfl (h := .nil)) fun w b120 hst => ?_)
 refine CN (Op1.append (news := [.int .u8 _, .int .u32 _, str _]) hst ty113 ty116 rfl rfl (.there (.here)) rfl rfl rfl (cells_of_obj (n := 3) (hst.objL (.head _)) _ rfl) rfl rfl (by omega) fun w ao59 cp60 hst => ?_)
 replace hst := hst.drop (.there (.here))
 refine AL rfl <| NSR <| ML rfl <| AL rfl <| NL <| run_ret1 Try.func63 rfl (TP (v := .slice _ _ _) rfl) ?_
 exact ⟨_, _, rfl, hst⟩
theorem R5ref_Enum (c n : Int) (w : World) : Ret Try.prog 56 #[.int .u8 c, .int .u32 n] w (fun v w' => v = nameV (namesL.find? (enN c n)) ∧ St w NoM [] [] w') := by
 refine Ret.enter (args := [.int .u8 c, .int .u32 n]) Try.func56 rfl rfl rfl ?_
 have hst := St.init w
 have hnl : namesL.length = 30 := by decide +kernel
 refine SR <| AS rfl <| AB rfl <| NSR <| CN (Op1.call0  ent63 rfl  ((R5ref_Names _).mono fun v w hp => ?_))
 obtain ⟨aoN, cpN, rfl, hp⟩ := hp
 replace hst := hst.call0 hp
 clear hp
 refine AL rfl <| NL <| SQ <| SR <| AI rfl <| NL <| run_block <| run_loop <| Run.indW [(0, .int .u8 _), (1, .int .u32 _), (6, .slice _ _ _)] ⟨rfl, rfl, rfl, trivial⟩ (fun (i : Nat) => [(7, .int .i64 (i : Int))]) (fun (i : Nat) => []) (fun (i : Nat) => i ≤ namesL.length ∧ (namesL.drop i).find? (enN c n) = namesL.find? (enN c n)) (fun (i : Nat) => namesL.length - i) (0) hst ⟨Nat.zero_le _, rfl⟩ ⟨rfl, trivial⟩ ?_
 intro i f w hst hJ ih1
 refine SQ <| SR <| MI rfl <| ML rfl <| CN <| Op1.lenSl (rest := []) ty113 rfl <| CN <| Op1.lss rfl rfl <| NL <| run_cond_dec rfl (fun g2 => ?_) (fun g2 => ?_)
 · skip
   refine run_skip <| SQ <| run_block <| SR <| ML rfl <| MI rfl ?_
   obtain ⟨bs3, rfl⟩ := Res.sl_some (hst.hL _ (.head _)) (by omega)
   refine CN <| Op1.indexSl ty113 ty116 rfl rfl (by omega) (by omega) <| CN <| Op1.fieldAddr fld116_0 rfl <| CN <| Op1.load1 (v := .int .u8 _) ty5 rfl rfl (Res.sl_cell (hst.hL _ (.head _)) (flat_cell (g := nameC) (d := zeroN) nameC_len rfl (by omega))) <| MC rfl <| CN <| Op1.eql rfl rfl <| MB rfl <| RunL.splitD (d := 22) rfl (fun g4 => ?_) (fun g4 => ?_)
   · skip
     refine TK (t := 22) rfl (congrArg Value.bool (decide_eq_true g4)) <| Op1.move (v := .slice _ _ _) rfl <| TK (t := 22) rfl (congrArg Value.bool (decide_eq_true g4)) <| Op1.move (v := .int .i64 _) rfl <| TK (t := 22) rfl (congrArg Value.bool (decide_eq_true g4)) <| Op1.indexSl ty113 ty116 rfl rfl (by omega) (by omega) <| TK (t := 22) rfl (congrArg Value.bool (decide_eq_true g4)) <| Op1.fieldAddr fld116_1 rfl <| TK (t := 22) rfl (congrArg Value.bool (decide_eq_true g4)) <| Op1.load1 (v := .int .u32 _) ty22 rfl rfl (Res.sl_cell (hst.hL _ (.head _)) (flat_cell (g := nameC) (d := zeroN) nameC_len rfl (by omega))) <| TK (t := 22) rfl (congrArg Value.bool (decide_eq_true g4)) <| Op1.move (v := .int .u32 _) rfl <| TK (t := 22) rfl (congrArg Value.bool (decide_eq_true g4)) <| Op1.eql rfl rfl <| CN <| Op1.pickT (u := .bool _) (congrArg Value.bool (decide_eq_true g4)) rfl <| NL <| Run.forget [(0, .int .u8 _), (1, .int .u32 _), (6, .slice _ _ _), (7, .int .i64 _), (30, .bool _)] ⟨rfl, rfl, rfl, rfl, rfl, trivial⟩ fun f => run_cond_dec rfl (fun g5 => ?_) (fun g5 => ?_)
     · skip
       refine SR <| ML rfl <| MI rfl <| CN <| Op1.indexSl ty113 ty116 rfl rfl (by omega) (by omega) <| CN <| Op1.fieldAddr fld116_2 rfl <| CN <| Op1.load1 (v := str _) ty9 rfl rfl (Res.sl_cell (hst.hL _ (.head _)) (flat_cell (g := nameC) (d := zeroN) nameC_len rfl (by omega))) <| AS rfl <| AB rfl <| NL <| run_ret2 Try.func56 rfl (TP (v := str _) rfl) (TP (v := .bool _) rfl) ?_
       rw [find_hit (d := zeroN) hJ.2 (by omega) (decide_eq_true ⟨g4, g5⟩)]
       exact ⟨rfl, hst.pure⟩
     refine run_skip <| run_inBlock <| RG <| MI rfl <| CN <| Op1.addN rfl rfl rfl (wrap_i64 (by omega) (by omega)) <| AI rfl <| NL <| run_inLoop ?_
     exact ih1 (i + 1) _ w (by omega) hst (⟨by omega, find_miss (d := zeroN) hJ.2 (by omega) (decide_eq_false (fun h => g5 h.2))⟩) ⟨rfl, rfl, rfl, trivial⟩ ⟨(congrArg (Value.int .i64) (by omega)), trivial⟩
   refine OM (t := 22) rfl (congrArg Value.bool (decide_eq_false g4)) rfl <| OM (t := 22) rfl (congrArg Value.bool (decide_eq_false g4)) rfl <| OM (t := 22) rfl (congrArg Value.bool (decide_eq_false g4)) rfl <| OM (t := 22) rfl (congrArg Value.bool (decide_eq_false g4)) rfl <| OM (t := 22) rfl (congrArg Value.bool (decide_eq_false g4)) rfl <| OM (t := 22) rfl (congrArg Value.bool (decide_eq_false g4)) rfl <| OM (t := 22) rfl (congrArg Value.bool (decide_eq_false g4)) rfl <| CN <| Op1.pickF (u := .bool _) (congrArg Value.bool (decide_eq_false g4)) rfl <| NL <| run_cond_false (congrArg Value.bool (rfl : false = _)) <| run_skip <| run_inBlock <| RG <| MI rfl <| CN (Op1.addN rfl rfl rfl (wrap_i64 (by omega) (by omega)) ?_)
   refine AI rfl <| NL <| run_inLoop ?_
   exact ih1 (i + 1) _ w (by omega) hst (⟨by omega, find_miss (d := zeroN) hJ.2 (by omega) (decide_eq_false (fun h => g4 h.1))⟩) ⟨rfl, rfl, rfl, trivial⟩ ⟨(congrArg (Value.int .i64) (by omega)), trivial⟩
 refine run_exit (id := 0) rfl <| SR <| AS rfl <| AB rfl <| NL <| run_ret2 Try.func56 rfl (TP (v := str _) rfl) (TP (v := .bool _) rfl) ?_
 rw [find_end hJ.2 (by omega)]
 exact ⟨rfl, hst.pure⟩
end Go.SK
namespace Go.SK
open Go Go.Proofs
open Go.RowKit
theorem R5ref_Kind (c : Int) (h0 : 0 ≤ c) (h1 : c ≤ 255) (w : World) : Ret Try.prog 54 #[.int .u8 c] w (fun v w' => v = .int .u8 (kindS c) ∧ St w NoM [] [] w') := by
 refine Ret.enter (args := [.int .u8 c]) Try.func54 rfl rfl rfl ?_
 have hst := St.init w
 have hnl : namesL.length = 30 := by decide +kernel
 refine SR <| AC rfl <| NL <| SQ <| SR <| MC rfl <| CN <| Op1.eql rfl rfl <| NL <| run_cond_dec rfl (fun g1 => ?_) (fun g1 => ?_)
 · skip
   refine SR <| AC rfl <| NL <| run_ret1 Try.func54 rfl (TP (v := .int .u8 _) rfl) <| ⟨congrArg (Value.int .u8) (Eq.symm ?_), hst.pure⟩
   unfold kindS
   rw [if_pos g1]
 refine run_skip <| SQ <| SR <| MC rfl <| CN <| Op1.eql rfl rfl <| NL <| run_cond_dec rfl (fun g2 => ?_) (fun g2 => ?_)
 · skip
   refine SR <| AC rfl <| NL <| run_ret1 Try.func54 rfl (TP (v := .int .u8 _) rfl) <| ⟨congrArg (Value.int .u8) (Eq.symm ?_), hst.pure⟩
   unfold kindS
   rw [if_neg g1, if_pos g2]
 refine run_skip <| SQ <| SR <| MC rfl <| CN <| Op1.eql rfl rfl <| NL <| run_cond_dec rfl (fun g3 => ?_) (fun g3 => ?_)
 · skip
   refine SR <| AC rfl <| NL <| run_ret1 Try.func54 rfl (TP (v := .int .u8 _) rfl) <| ⟨congrArg (Value.int .u8) (Eq.symm ?_), hst.pure⟩
   unfold kindS
   rw [if_neg g1, if_neg g2, if_pos g3]
 refine run_skip <| SR <| CN (Op1.call0  ent63 rfl  ((R5ref_Names _).mono fun v w hp => ?_))
 obtain ⟨aoN, cpN, rfl, hp⟩ := hp
 replace hst := hst.call0 hp
 clear hp
 refine AL rfl <| NL <| SQ <| SR <| AI rfl <| NL <| run_block <| run_loop <| Run.indW [(0, .int .u8 _), (3, .slice _ _ _)] ⟨rfl, rfl, trivial⟩ (fun (i : Nat) => [(4, .int .i64 (i : Int))]) (fun (i : Nat) => []) (fun (i : Nat) => i ≤ namesL.length ∧ (namesL.drop i).find? (fun x => decide (x.letter = c)) = namesL.find? (fun x => decide (x.letter = c))) (fun (i : Nat) => namesL.length - i) (0) hst ⟨Nat.zero_le _, rfl⟩ ⟨rfl, trivial⟩ ?_
 intro i f w hst hJ ih4
 refine SQ <| SR <| MI rfl <| ML rfl <| CN <| Op1.lenSl (rest := []) ty113 rfl <| CN <| Op1.lss rfl rfl <| NL <| run_cond_dec rfl (fun g5 => ?_) (fun g5 => ?_)
 · skip
   refine run_skip <| SQ <| run_block <| SR <| ML rfl <| MI rfl ?_
   obtain ⟨bs6, rfl⟩ := Res.sl_some (hst.hL _ (.head _)) (by omega)
   refine CN <| Op1.indexSl ty113 ty116 rfl rfl (by omega) (by omega) <| CN <| Op1.fieldAddr fld116_0 rfl <| CN <| Op1.load1 (v := .int .u8 _) ty5 rfl rfl (Res.sl_cell (hst.hL _ (.head _)) (flat_cell (g := nameC) (d := zeroN) nameC_len rfl (by omega))) <| MC rfl <| CN <| Op1.eql rfl rfl <| NL <| run_cond_dec rfl (fun g7 => ?_) (fun g7 => ?_)
   · skip
     refine SR <| AC rfl <| NL <| run_ret1 Try.func54 rfl (TP (v := .int .u8 _) rfl) <| ⟨congrArg (Value.int .u8) (Eq.symm ?_), hst.pure⟩
     unfold kindS
     rw [if_neg g1, if_neg g2, if_neg g3]
     rw [if_pos ((names_any h0 h1).2 (by rw [find_hit (d := zeroN) hJ.2 (by omega) (decide_eq_true g7)]; rfl))]
   refine run_skip <| run_inBlock <| RG <| MI rfl <| CN <| Op1.addN rfl rfl rfl (wrap_i64 (by omega) (by omega)) <| AI rfl <| NL <| run_inLoop ?_
   exact ih4 (i + 1) _ w (by omega) hst (⟨by omega, find_miss (d := zeroN) hJ.2 (by omega) (decide_eq_false g7)⟩) ⟨rfl, rfl, trivial⟩ ⟨(congrArg (Value.int .i64) (by omega)), trivial⟩
 refine run_exit (id := 0) rfl <| SR <| AC rfl <| NL <| run_ret1 Try.func54 rfl (TP (v := .int .u8 _) rfl) <| ⟨congrArg (Value.int .u8) (Eq.symm ?_), hst.pure⟩
 unfold kindS
 rw [if_neg g1, if_neg g2, if_neg g3]
 rw [if_neg (fun h => absurd ((names_any h0 h1).1 h) (by rw [find_end hJ.2 (by omega)]; simp))]
end Go.SK
namespace Go.SK
open Go Go.Proofs
theorem ent35 : Enters Try.prog 35 := ⟨Try.f35, _, Try.func35, by kernel_rfl, rfl⟩
end Go.SK
namespace Go.SK
open Go Go.Proofs
open Go.RowKit
theorem R5ref_Of2 {op : Int} {fm : FormL} {ob : Bool} (hfm : refD op = fm) (hob : (refS op).isSome = ob) (w : World) : Ret Try.prog 35 #[.int .u16 op] w fun v w' => v = .tuple #[.agg (formC fm).toArray, .bool ob] ∧ St w NoM [] [] w' := by
 subst hfm; subst hob; exact R5ref_Of op w
theorem R5ref_Letter (op : Int) (h0 : 0 ≤ op) (i : Int) (h1 : i ≤ 9223372036854775807) (w : World) : Ret Try.prog 45 #[.int .u16 op, .int .i64 i] w (fun v w' => v = .int .u8 (letterS (refD op) i) ∧ St w NoM [] [] w') := by
 refine Ret.enter (args := [.int .u16 op, .int .i64 i]) Try.func45 rfl rfl rfl ?_
 have hst := St.init w
 obtain ⟨fm, hfm⟩ : ∃ x, refD op = x := ⟨_, rfl⟩
 obtain ⟨ob, hob⟩ : ∃ x, (refS op).isSome = x := ⟨_, rfl⟩
 have hf := refD_fok op
 rw [hfm] at hf
 have hz : ob = false → fm = zeroF := fun e => by subst e; rw [← hfm]; exact refD_none hob
 obtain ⟨_, hmost, hfx, hrs, _, _, _, _⟩ := hf
 have hre : fm.rest = [] ↔ fm.rest.length = 0 := List.length_eq_zero_iff.symm
 refine SR <| AC rfl <| NSR <| MH rfl <| CN <| Op1.call1 (v1 := .int .u16 _) ent35 rfl rfl <| Ret.det (R5ref_Of2 hfm hob _) hst fun w hst => CN <| Op1.move (v := .tuple #[.agg #[.int .u16 _, str _, .bool _, .bool _, str _, str _, .int .i64 _, .int .u8 _], .bool _]) rfl <| CN <| Op1.extract (v := .agg #[.int .u16 _, str _, .bool _, .bool _, str _, str _, .int .i64 _, .int .u8 _]) rfl rfl <| CN <| Op1.extract (v := .bool _) rfl rfl <| CN <| Op1.alloc hst ty74 fun w b5 hst => CN (SO (v := .agg #[.int .u16 _, str _, .bool _, .bool _, str _, str _, .int .i64 _, .int .u8 _]) hst ty74 rfl rfl (.here) fun w hst => ?_)
 refine AB rfl <| NL <| SQ <| SR <| MB rfl <| CN <| Op1.not rfl <| MB rfl <| RunL.split (d := 15) rfl (fun g1 => ?_) (fun g1 => ?_)
 · skip
   refine OM (t := 15) rfl (congrArg Value.bool g1) rfl <| OM (t := 15) rfl (congrArg Value.bool g1) rfl <| CN <| Op1.pickT (u := .bool _) (congrArg Value.bool g1) rfl <| NL <| run_cond_true (congrArg Value.bool (rfl : true = _)) <| SR <| AC rfl <| NL <| run_ret1 Try.func45 rfl (TP (v := .int .u8 _) rfl) <| ⟨congrArg (Value.int .u8) (Eq.symm ?_), hst.pure⟩
   rw [hfm]
   have hzz : fm = zeroF ∨ i < 0 := .inl (hz (by simpa using g1))
   rcases hzz with rfl | hzz
   · exact letter_zero i
   · unfold letterS; rw [if_pos hzz]
 refine TK (t := 15) rfl (congrArg Value.bool g1) <| Op1.move (v := .int .i64 _) rfl <| TK (t := 15) rfl (congrArg Value.bool g1) <| Op1.lss rfl rfl <| CN <| Op1.pickF (u := .bool _) (congrArg Value.bool g1) rfl <| NL <| run_cond_dec rfl (fun g2 => ?_) (fun g2 => ?_)
 · skip
   refine SR <| AC rfl <| NL <| run_ret1 Try.func45 rfl (TP (v := .int .u8 _) rfl) <| ⟨congrArg (Value.int .u8) (Eq.symm ?_), hst.pure⟩
   rw [hfm]
   have hzz : fm = zeroF ∨ i < 0 := .inr (by omega)
   rcases hzz with rfl | hzz
   · exact letter_zero i
   · unfold letterS; rw [if_pos hzz]
 refine run_skip <| SQ <| SR <| MI rfl <| CN <| Op1.fieldAddr fld74_4 rfl <| CN <| Op1.load1 (v := str _) ty9 rfl rfl (hst.cellL (.head _) rfl) <| CN <| Op1.lenS (rest := []) ty9 rfl <| CN <| Op1.lss rfl rfl <| NL <| Run.forget [(1, .int .i64 _), (5, .pointer (some ⟨_, _, none⟩)), (23, .bool _)] ⟨rfl, rfl, rfl, trivial⟩ fun f => run_cond_dec rfl (fun g3 => ?_) (fun g3 => ?_)
 · skip
   refine SR <| CN <| Op1.fieldAddr fld74_4 rfl <| CN <| Op1.load1 (v := str _) ty9 rfl rfl (hst.cellL (.head _) rfl) <| MI rfl <| CN <| Op1.indexS ty9 rfl rfl (by omega) (by omega) <| AC rfl <| NL <| run_ret1 Try.func45 rfl (TP (v := .int .u8 _) rfl) <| ⟨congrArg (Value.int .u8) (Eq.symm ?_), hst.pure⟩
   rw [hfm]
   unfold letterS
   rw [if_neg (by omega), if_pos (by omega)]
 refine run_skip <| SQ <| SR <| CN <| Op1.fieldAddr fld74_5 rfl <| CN <| Op1.load1 (v := str _) ty9 rfl rfl (hst.cellL (.head _) rfl) <| CN <| Op1.lenS (rest := []) ty9 rfl <| CN <| Op1.eql rfl rfl <| NL <| run_cond_dec rfl (fun g4 => ?_) (fun g4 => ?_)
 · skip
   refine SR <| AC rfl <| NL <| run_ret1 Try.func45 rfl (TP (v := .int .u8 _) rfl) <| ⟨congrArg (Value.int .u8) (Eq.symm ?_), hst.pure⟩
   rw [hfm]
   unfold letterS restS
   rw [if_neg (by omega), if_neg (by omega), if_pos (by rw [hre]; omega)]
 refine run_skip <| SR <| MI rfl <| CN <| Op1.fieldAddr fld74_4 rfl <| CN <| Op1.load1 (v := str _) ty9 rfl rfl (hst.cellL (.head _) rfl) <| CN <| Op1.lenS (rest := []) ty9 rfl <| CN <| Op1.subN rfl rfl rfl (wrap_i64 (by omega) (by omega)) <| AI rfl <| NL <| SQ <| SQ ?_
 have hqb := div_bd (a := i - (fm.fixed.length : Int)) (b := (fm.rest.length : Int)) (by omega) (by omega)
 refine RunD.start [] hst (bs := [0, 1, 3, 7, 15, 15, 47, 111, 255, 15, 527, 2047, 4095]) (ds := [some 37, some 38, some 39, some 40, some 41, some 42, some 43, some 44, some 45, some 46, some 47, some 48, some 49]) ⟨by kernel_rfl, by kernel_rfl, by kernel_rfl⟩ (fun tab5 => ?_)
 refine RunD.op (det _) tab5 1 (fun f' L' w' hc => Op1.fieldAddr fld74_6 (hc.old (v := .pointer (some ⟨_, _, none⟩)) rfl rfl rfl) ⟨[], ⟨rfl, rfl⟩, hc.st⟩) <| RunD.op (det _) tab5 2 (fun f' L' w' hc => Op1.load1 (v := .int .i64 _) ty3 rfl (hc.det (j := 0) rfl rfl rfl rfl) (hc.st.cellL (List.mem_append_right _ (.head _)) rfl) ⟨[], ⟨rfl, rfl⟩, hc.st⟩) <| RunD.op (det _) tab5 3 (fun f' L' w' hc => Op1.gtr (hc.det (j := 1) rfl rfl rfl rfl) rfl ⟨[], ⟨rfl, rfl⟩, hc.st⟩) <| RunD.op (det _) tab5 4 (fun f' L' w' hc => Op1.move (v := .bool _) (hc.det (j := 2) rfl rfl rfl rfl) ⟨[], ⟨rfl, rfl⟩, hc.st⟩) <| RunD.splitD (j := 3) rfl (fun g6 => ?_) (fun g6 => ?_)
 · skip
   refine RunD.take (det _) tab5 5 rfl (fun f' L' w' hc => (hc.det (j := 3) rfl rfl rfl rfl).trans (congrArg Value.bool (decide_eq_true g6))) (fun f' L' w' hc => Op1.move (v := .int .i64 _) (hc.old (v := .int .i64 _) rfl rfl rfl) ⟨[], ⟨rfl, rfl⟩, hc.st⟩) <| RunD.take (det _) tab5 6 rfl (fun f' L' w' hc => (hc.det (j := 3) rfl rfl rfl rfl).trans (congrArg Value.bool (decide_eq_true g6))) (fun f' L' w' hc => Op1.fieldAddr fld74_5 (hc.old (v := .pointer (some ⟨_, _, none⟩)) rfl rfl rfl) ⟨[], ⟨rfl, rfl⟩, hc.st⟩) <| RunD.take (det _) tab5 7 rfl (fun f' L' w' hc => (hc.det (j := 3) rfl rfl rfl rfl).trans (congrArg Value.bool (decide_eq_true g6))) (fun f' L' w' hc => Op1.load1 (v := str _) ty9 rfl (hc.det (j := 5) rfl rfl rfl rfl) (hc.st.cellL (List.mem_append_right _ (.head _)) rfl) ⟨[], ⟨rfl, rfl⟩, hc.st⟩) <| RunD.take (det _) tab5 8 rfl (fun f' L' w' hc => (hc.det (j := 3) rfl rfl rfl rfl).trans (congrArg Value.bool (decide_eq_true g6))) (fun f' L' w' hc => Op1.lenS (rest := []) ty9 (hc.det (j := 6) rfl rfl rfl rfl) ⟨[], ⟨rfl, rfl⟩, hc.st⟩) ?_
   first | refine RunD.take (det _) tab5 9 rfl (fun f' L' w' hc => (hc.det (j := 3) rfl rfl rfl rfl).trans (congrArg Value.bool (decide_eq_true g6))) (fun f' L' w' hc => Op1.quoN (hc.det (j := 4) rfl rfl rfl rfl) (hc.det (j := 7) rfl rfl rfl rfl) (by omega) (by omega) rfl (wrap_i64 (by omega) (by omega)) ⟨[], ⟨rfl, rfl⟩, hc.st⟩) ?_ | refine RunD.take (det _) tab5 9 rfl (fun f' L' w' hc => (hc.det (j := 3) rfl rfl rfl rfl).trans (congrArg Value.bool (decide_eq_true g6))) (fun f' L' w' hc => Op1.quo (hc.det (j := 4) rfl rfl rfl rfl) (hc.det (j := 7) rfl rfl rfl rfl) (by omega) ⟨[], ⟨rfl, rfl⟩, hc.st⟩) ?_
   refine RunD.take (det _) tab5 10 rfl (fun f' L' w' hc => (hc.det (j := 3) rfl rfl rfl rfl).trans (congrArg Value.bool (decide_eq_true g6))) (fun f' L' w' hc => Op1.fieldAddr fld74_6 (hc.old (v := .pointer (some ⟨_, _, none⟩)) rfl rfl rfl) ⟨[], ⟨rfl, rfl⟩, hc.st⟩) <| RunD.take (det _) tab5 11 rfl (fun f' L' w' hc => (hc.det (j := 3) rfl rfl rfl rfl).trans (congrArg Value.bool (decide_eq_true g6))) (fun f' L' w' hc => Op1.load1 (v := .int .i64 _) ty3 rfl (hc.det (j := 9) rfl rfl rfl rfl) (hc.st.cellL (List.mem_append_right _ (.head _)) rfl) ⟨[], ⟨rfl, rfl⟩, hc.st⟩) <| RunD.fin followsMixed tab5 hst rfl (fun f7 w R10 hs8 hd9 hr11 hst => ?_)
   obtain ⟨h37_, r0⟩ := hd9 0 37 rfl rfl
   obtain ⟨h38_, r1⟩ := hd9 1 38 rfl rfl
   obtain ⟨h39_, r2⟩ := hd9 2 39 rfl rfl
   obtain ⟨h40_, r3⟩ := hd9 3 40 rfl rfl
   obtain ⟨h41_, r4⟩ := hd9 4 41 rfl rfl
   obtain ⟨h42_, r5⟩ := hd9 5 42 rfl rfl
   obtain ⟨h43_, r6⟩ := hd9 6 43 rfl rfl
   obtain ⟨h44_, r7⟩ := hd9 7 44 rfl rfl
   obtain ⟨h45_, r8⟩ := hd9 8 45 rfl rfl
   obtain ⟨h46_, r9⟩ := hd9 9 46 rfl rfl
   obtain ⟨h47_, r10⟩ := hd9 10 47 rfl rfl
   simp only [show List.range 11 = [0, 1, 2, 3, 4, 5, 6, 7, 8, 9, 10] from rfl, List.flatMap_cons, List.flatMap_nil, List.map_cons, List.map_nil, r0, r1, r2, r3, r4, r5, r6, r7, r8, r9, r10, List.nil_append, List.append_nil, List.cons_append] at hst
   refine RunL.slots (sl := [(5, .pointer (some ⟨_, _, none⟩)), (7, .int .i64 _), (40, .bool _), (45, .int .i64 _), (47, .int .i64 _)]) ⟨(hs8 5 rfl).trans rfl, (hs8 7 rfl).trans rfl, h40_, h45_, h47_, trivial⟩ ?_
   clear hs8 hd9 hr11 tab5
   refine TK (t := 40) rfl (congrArg Value.bool (decide_eq_true g6)) <| Op1.geq rfl rfl <| CN <| Op1.pickT (u := .bool _) (congrArg Value.bool (decide_eq_true g6)) rfl <| NL <| Run.forget [(5, .pointer (some ⟨_, _, none⟩)), (7, .int .i64 _), (49, .bool _)] ⟨rfl, rfl, rfl, trivial⟩ fun f => run_cond_dec rfl (fun g12 => ?_) (fun g12 => ?_)
   · skip
     refine SR <| AC rfl <| NL <| run_ret1 Try.func45 rfl (TP (v := .int .u8 _) rfl) <| ⟨congrArg (Value.int .u8) (Eq.symm ?_), hst.pure⟩
     rw [hfm]
     unfold letterS restS
     rw [if_neg (by omega), if_neg (by omega)]
     have hmd := most_div (k := i - (fm.fixed.length : Int)) (r := (fm.rest.length : Int)) (m := fm.most) (by omega)
     first | rw [if_pos (by rw [hre]; omega)] | rw [if_neg (by rw [hre]; omega)]
   have hmdd := Int.emod_lt_of_pos (i - (fm.fixed.length : Int)) (show (0 : Int) < fm.rest.length by omega)
   have hmnn := Int.emod_nonneg (i - (fm.fixed.length : Int)) (show (fm.rest.length : Int) ≠ 0 by omega)
   refine run_skip <| SQ <| RunD.start [] hst (bs := [0, 1, 0, 0, 8, 24, 60, 127, 255]) (ds := [some 50, some 51, some 52, some 53, some 54, some 55, some 56, some 57, some 4]) ⟨by kernel_rfl, by kernel_rfl, by kernel_rfl⟩ (fun tab13 => ?_)
   refine RunD.op (det _) tab13 1 (fun f' L' w' hc => Op1.fieldAddr fld74_5 (hc.old (v := .pointer (some ⟨_, _, none⟩)) rfl rfl rfl) ⟨[], ⟨rfl, rfl⟩, hc.st⟩) <| RunD.op (det _) tab13 2 (fun f' L' w' hc => Op1.load1 (v := str _) ty9 rfl (hc.det (j := 0) rfl rfl rfl rfl) (hc.st.cellL (List.mem_append_right _ (.head _)) rfl) ⟨[], ⟨rfl, rfl⟩, hc.st⟩) <| RunD.op (det _) tab13 3 (fun f' L' w' hc => Op1.move (v := .int .i64 _) (hc.old (v := .int .i64 _) rfl rfl rfl) ⟨[], ⟨rfl, rfl⟩, hc.st⟩) <| RunD.op (det _) tab13 4 (fun f' L' w' hc => Op1.fieldAddr fld74_5 (hc.old (v := .pointer (some ⟨_, _, none⟩)) rfl rfl rfl) ⟨[], ⟨rfl, rfl⟩, hc.st⟩) <| RunD.op (det _) tab13 5 (fun f' L' w' hc => Op1.load1 (v := str _) ty9 rfl (hc.det (j := 3) rfl rfl rfl rfl) (hc.st.cellL (List.mem_append_right _ (.head _)) rfl) ⟨[], ⟨rfl, rfl⟩, hc.st⟩) <| RunD.op (det _) tab13 6 (fun f' L' w' hc => Op1.lenS (rest := []) ty9 (hc.det (j := 4) rfl rfl rfl rfl) ⟨[], ⟨rfl, rfl⟩, hc.st⟩) ?_
   first | refine RunD.op (det _) tab13 7 (fun f' L' w' hc => Op1.remN (hc.det (j := 2) rfl rfl rfl rfl) (hc.det (j := 5) rfl rfl rfl rfl) (by omega) (by omega) rfl ⟨[], ⟨rfl, rfl⟩, hc.st⟩) ?_ | refine RunD.op (det _) tab13 7 (fun f' L' w' hc => Op1.rem (hc.det (j := 2) rfl rfl rfl rfl) (hc.det (j := 5) rfl rfl rfl rfl) (by omega) ⟨[], ⟨rfl, rfl⟩, hc.st⟩) ?_
   refine RunD.fin followsMixed tab13 hst rfl (fun f14 w R17 hs15 hd16 hr18 hst => ?_)
   obtain ⟨h50_, r0⟩ := hd16 0 50 rfl rfl
   obtain ⟨h51_, r1⟩ := hd16 1 51 rfl rfl
   obtain ⟨h52_, r2⟩ := hd16 2 52 rfl rfl
   obtain ⟨h53_, r3⟩ := hd16 3 53 rfl rfl
   obtain ⟨h54_, r4⟩ := hd16 4 54 rfl rfl
   obtain ⟨h55_, r5⟩ := hd16 5 55 rfl rfl
   obtain ⟨h56_, r6⟩ := hd16 6 56 rfl rfl
   simp only [show List.range 7 = [0, 1, 2, 3, 4, 5, 6] from rfl, List.flatMap_cons, List.flatMap_nil, List.map_cons, List.map_nil, r0, r1, r2, r3, r4, r5, r6, List.nil_append, List.append_nil, List.cons_append] at hst
   refine RunL.slots (sl := [(51, str _), (56, .int .i64 _)]) ⟨h51_, h56_, trivial⟩ ?_
   clear hs15 hd16 hr18 tab13
   refine CN <| Op1.indexS ty9 rfl rfl (by omega) (by omega) <| AC rfl <| NL <| run_ret1 Try.func45 rfl (TP (v := .int .u8 _) rfl) <| ⟨congrArg (Value.int .u8) (Eq.symm ?_), hst.pure⟩
   rw [hfm]
   unfold letterS restS
   rw [if_neg (by omega), if_neg (by omega)]
   have hmd := most_div (k := i - (fm.fixed.length : Int)) (r := (fm.rest.length : Int)) (m := fm.most) (by omega)
   first | rw [if_pos (by rw [hre]; omega)] | rw [if_neg (by rw [hre]; omega)]
 refine RunD.omit tab5 5 rfl rfl (fun f' L' w' hc => (hc.det (j := 3) rfl rfl rfl rfl).trans (congrArg Value.bool (decide_eq_false g6))) <| RunD.omit tab5 6 rfl rfl (fun f' L' w' hc => (hc.det (j := 3) rfl rfl rfl rfl).trans (congrArg Value.bool (decide_eq_false g6))) <| RunD.omit tab5 7 rfl rfl (fun f' L' w' hc => (hc.det (j := 3) rfl rfl rfl rfl).trans (congrArg Value.bool (decide_eq_false g6))) <| RunD.omit tab5 8 rfl rfl (fun f' L' w' hc => (hc.det (j := 3) rfl rfl rfl rfl).trans (congrArg Value.bool (decide_eq_false g6))) <| RunD.omit tab5 9 rfl rfl (fun f' L' w' hc => (hc.det (j := 3) rfl rfl rfl rfl).trans (congrArg Value.bool (decide_eq_false g6))) <| RunD.omit tab5 10 rfl rfl (fun f' L' w' hc => (hc.det (j := 3) rfl rfl rfl rfl).trans (congrArg Value.bool (decide_eq_false g6))) <| RunD.omit tab5 11 rfl rfl (fun f' L' w' hc => (hc.det (j := 3) rfl rfl rfl rfl).trans (congrArg Value.bool (decide_eq_false g6))) <| RunD.fin followsMixed tab5 hst rfl (fun f19 w R22 hs20 hd21 hr23 hst => ?_)
 obtain ⟨h37_, r0⟩ := hd21 0 37 rfl rfl
 obtain ⟨h38_, r1⟩ := hd21 1 38 rfl rfl
 obtain ⟨h39_, r2⟩ := hd21 2 39 rfl rfl
 obtain ⟨h40_, r3⟩ := hd21 3 40 rfl rfl
 obtain ⟨h41_, r4⟩ := hd21 4 41 rfl rfl
 obtain ⟨h42_, r5⟩ := hd21 5 42 rfl rfl
 obtain ⟨h43_, r6⟩ := hd21 6 43 rfl rfl
 obtain ⟨h44_, r7⟩ := hd21 7 44 rfl rfl
 obtain ⟨h45_, r8⟩ := hd21 8 45 rfl rfl
 obtain ⟨h46_, r9⟩ := hd21 9 46 rfl rfl
 obtain ⟨h47_, r10⟩ := hd21 10 47 rfl rfl
 simp only [show List.range 11 = [0, 1, 2, 3, 4, 5, 6, 7, 8, 9, 10] from rfl, List.flatMap_cons, List.flatMap_nil, List.map_cons, List.map_nil, r0, r1, r2, r3, r4, r5, r6, r7, r8, r9, r10, List.nil_append, List.append_nil, List.cons_append] at hst
 refine RunL.slots (sl := [(5, .pointer (some ⟨_, _, none⟩)), (7, .int .i64 _), (40, .bool _), (45, _), (47, _)]) ⟨(hs20 5 rfl).trans rfl, (hs20 7 rfl).trans rfl, h40_, h45_, h47_, trivial⟩ ?_
 clear hs20 hd21 hr23 tab5
 refine OM (t := 40) rfl (congrArg Value.bool (decide_eq_false g6)) rfl <| CN <| Op1.pickF (u := .bool _) (congrArg Value.bool (decide_eq_false g6)) rfl <| NL ?_
 have hmdd := Int.emod_lt_of_pos (i - (fm.fixed.length : Int)) (show (0 : Int) < fm.rest.length by omega)
 have hmnn := Int.emod_nonneg (i - (fm.fixed.length : Int)) (show (fm.rest.length : Int) ≠ 0 by omega)
 refine run_cond_false (congrArg Value.bool (rfl : false = _)) <| run_skip <| SQ <| RunD.start [] hst (bs := [0, 1, 0, 0, 8, 24, 60, 127, 255]) (ds := [some 50, some 51, some 52, some 53, some 54, some 55, some 56, some 57, some 4]) ⟨by kernel_rfl, by kernel_rfl, by kernel_rfl⟩ (fun tab24 => ?_)
 refine RunD.op (det _) tab24 1 (fun f' L' w' hc => Op1.fieldAddr fld74_5 (hc.old (v := .pointer (some ⟨_, _, none⟩)) rfl rfl rfl) ⟨[], ⟨rfl, rfl⟩, hc.st⟩) <| RunD.op (det _) tab24 2 (fun f' L' w' hc => Op1.load1 (v := str _) ty9 rfl (hc.det (j := 0) rfl rfl rfl rfl) (hc.st.cellL (List.mem_append_right _ (.head _)) rfl) ⟨[], ⟨rfl, rfl⟩, hc.st⟩) <| RunD.op (det _) tab24 3 (fun f' L' w' hc => Op1.move (v := .int .i64 _) (hc.old (v := .int .i64 _) rfl rfl rfl) ⟨[], ⟨rfl, rfl⟩, hc.st⟩) <| RunD.op (det _) tab24 4 (fun f' L' w' hc => Op1.fieldAddr fld74_5 (hc.old (v := .pointer (some ⟨_, _, none⟩)) rfl rfl rfl) ⟨[], ⟨rfl, rfl⟩, hc.st⟩) <| RunD.op (det _) tab24 5 (fun f' L' w' hc => Op1.load1 (v := str _) ty9 rfl (hc.det (j := 3) rfl rfl rfl rfl) (hc.st.cellL (List.mem_append_right _ (.head _)) rfl) ⟨[], ⟨rfl, rfl⟩, hc.st⟩) <| RunD.op (det _) tab24 6 (fun f' L' w' hc => Op1.lenS (rest := []) ty9 (hc.det (j := 4) rfl rfl rfl rfl) ⟨[], ⟨rfl, rfl⟩, hc.st⟩) ?_
 first | refine RunD.op (det _) tab24 7 (fun f' L' w' hc => Op1.remN (hc.det (j := 2) rfl rfl rfl rfl) (hc.det (j := 5) rfl rfl rfl rfl) (by omega) (by omega) rfl ⟨[], ⟨rfl, rfl⟩, hc.st⟩) ?_ | refine RunD.op (det _) tab24 7 (fun f' L' w' hc => Op1.rem (hc.det (j := 2) rfl rfl rfl rfl) (hc.det (j := 5) rfl rfl rfl rfl) (by omega) ⟨[], ⟨rfl, rfl⟩, hc.st⟩) ?_
 refine RunD.fin followsMixed tab24 hst rfl (fun f25 w R28 hs26 hd27 hr29 hst => ?_)
 obtain ⟨h50_, r0⟩ := hd27 0 50 rfl rfl
 obtain ⟨h51_, r1⟩ := hd27 1 51 rfl rfl
 obtain ⟨h52_, r2⟩ := hd27 2 52 rfl rfl
 obtain ⟨h53_, r3⟩ := hd27 3 53 rfl rfl
 obtain ⟨h54_, r4⟩ := hd27 4 54 rfl rfl
 obtain ⟨h55_, r5⟩ := hd27 5 55 rfl rfl
 obtain ⟨h56_, r6⟩ := hd27 6 56 rfl rfl
 simp only [show List.range 7 = [0, 1, 2, 3, 4, 5, 6] from rfl, List.flatMap_cons, List.flatMap_nil, List.map_cons, List.map_nil, r0, r1, r2, r3, r4, r5, r6, List.nil_append, List.append_nil, List.cons_append] at hst
 refine RunL.slots (sl := [(51, str _), (56, .int .i64 _)]) ⟨h51_, h56_, trivial⟩ ?_
 clear hs26 hd27 hr29 tab24
 refine CN <| Op1.indexS ty9 rfl rfl (by omega) (by omega) <| AC rfl <| NL <| run_ret1 Try.func45 rfl (TP (v := .int .u8 _) rfl) <| ⟨congrArg (Value.int .u8) (Eq.symm ?_), hst.pure⟩
 rw [hfm]
 unfold letterS restS
 rw [if_neg (by omega), if_neg (by omega)]
 have hmd := most_div (k := i - (fm.fixed.length : Int)) (r := (fm.rest.length : Int)) (m := fm.most) (by omega)
 first | rw [if_pos (by rw [hre]; omega)] | rw [if_neg (by rw [hre]; omega)]
end Go.SK
namespace Go.SK
open Go Go.Proofs
open Go.RowKit
theorem R5ref_Letter2 {op : Int} {fm : FormL} (h0 : 0 ≤ op) (hfm : refD op = fm) (i : Int) (h1 : i ≤ 9223372036854775807) (w : World) : Ret Try.prog 45 #[.int .u16 op, .int .i64 i] w fun v w' => v = .int .u8 (letterS fm i) ∧ St w NoM [] [] w' := by
 subst hfm; exact R5ref_Letter op h0 i h1 w
end Go.SK
namespace Go.SK
open Go Go.Proofs
open Go.RowKit
theorem R5ref4_None (n bound : Int) (w : World) : Ret Try.prog 55 #[.int .u32 n, .int .u32 bound] w (fun v w' => v = .bool (decide (n = 0 ∨ n ≥ bound)) ∧ St w NoM [] [] w') := by
 refine Ret.enter (args := [.int .u32 n, .int .u32 bound]) Try.func55 rfl rfl rfl ?_
 have hst := St.init w
 refine SR <| AB rfl <| NSR <| MU rfl <| CN <| Op1.eql rfl rfl <| MB rfl <| RunL.splitD (d := 7) rfl (fun g1 => ?_) (fun g1 => ?_)
 · skip
   refine OM (t := 7) rfl (congrArg Value.bool (decide_eq_true g1)) rfl <| OM (t := 7) rfl (congrArg Value.bool (decide_eq_true g1)) rfl <| OM (t := 7) rfl (congrArg Value.bool (decide_eq_true g1)) rfl <| CN <| Op1.pickT (u := .bool _) (congrArg Value.bool (decide_eq_true g1)) rfl <| AB rfl <| NL <| run_ret1 Try.func55 rfl (TP (v := .bool _) rfl) ?_
   exact ⟨congrArg Value.bool (by first | (simp; done) | (simp; omega)), hst.pure⟩
 refine TK (t := 7) rfl (congrArg Value.bool (decide_eq_false g1)) <| Op1.move (v := .int .u32 _) rfl <| TK (t := 7) rfl (congrArg Value.bool (decide_eq_false g1)) <| Op1.move (v := .int .u32 _) rfl <| TK (t := 7) rfl (congrArg Value.bool (decide_eq_false g1)) <| Op1.geq rfl rfl <| CN <| Op1.pickF (u := .bool _) (congrArg Value.bool (decide_eq_false g1)) rfl <| AB rfl <| NL <| run_ret1 Try.func55 rfl (TP (v := .bool _) rfl) ?_
 exact ⟨congrArg Value.bool (by first | (simp; done) | (simp; omega)), hst.pure⟩
end Go.SK
namespace Go.SK
open Go Go.Proofs
open Go.RowKit
theorem R5ref4_Whole (fm : FormL) (hf : FOk fm) (n : Nat) (hn : n ≤ 9000000000000) (w : World) : Ret Try.prog 46 #[.agg #[.int .u16 fm.op, str fm.name, .bool fm.ty, .bool fm.res, str fm.fixed, str fm.rest, .int .i64 fm.most, .int .u8 fm.part], .int .i64 (n : Int)] w (fun v w' => v = .bool (wholeQ fm n) ∧ St w NoM [] [] w') := by
 refine Ret.enter (args := [.agg #[.int .u16 fm.op, str fm.name, .bool fm.ty, .bool fm.res, str fm.fixed, str fm.rest, .int .i64 fm.most, .int .u8 fm.part], .int .i64 (n : Int)]) Try.func46 rfl rfl rfl ?_
 have hst := St.init w
 have hfl := hf.fixed
 have hrl := hf.rest
 refine SR <| CN <| Op1.box (v := .agg #[.int .u16 _, str _, .bool _, .bool _, str _, str _, .int .i64 _, .int .u8 _]) hst rfl rfl fun w b2 hst => AB rfl <| NL <| SQ <| SR <| MI rfl <| CN <| Op1.fieldAddr fld74_4 rfl <| CN <| Op1.load1 (v := str _) ty9 rfl rfl (hst.cellL (.head _) rfl) <| CN <| Op1.lenS (rest := []) ty9 rfl <| CN <| Op1.lss rfl rfl <| NL <| run_cond_dec rfl (fun g1 => ?_) (fun g1 => ?_)
 · skip
   refine SR <| AB rfl <| NL <| run_ret1 Try.func46 rfl (TP (v := .bool _) rfl) ?_
   exact ⟨congrArg Value.bool (by unfold wholeQ; rw [if_pos (by omega)]), hst.pure⟩
 refine run_skip <| SQ <| SR <| CN <| Op1.fieldAddr fld74_5 rfl <| CN <| Op1.load1 (v := str _) ty9 rfl rfl (hst.cellL (.head _) rfl) <| CN <| Op1.lenS (rest := []) ty9 rfl <| CN <| Op1.eql rfl rfl <| NL <| run_cond_dec rfl (fun g2 => ?_) (fun g2 => ?_)
 · skip
   refine SR <| MI rfl <| CN <| Op1.fieldAddr fld74_4 rfl <| CN <| Op1.load1 (v := str _) ty9 rfl rfl (hst.cellL (.head _) rfl) <| CN <| Op1.lenS (rest := []) ty9 rfl <| CN <| Op1.eql rfl rfl <| AB rfl <| NL <| run_ret1 Try.func46 rfl (TP (v := .bool _) rfl) ?_
   exact ⟨congrArg Value.bool (by unfold wholeQ; rw [if_neg (by omega), if_pos (by omega)]; first | (rw [decide_eq_decide]; omega) | rfl), hst.pure⟩
 refine run_skip <| SR <| MI rfl <| CN <| Op1.fieldAddr fld74_4 rfl <| CN <| Op1.load1 (v := str _) ty9 rfl rfl (hst.cellL (.head _) rfl) <| CN <| Op1.lenS (rest := []) ty9 rfl <| CN <| Op1.subN rfl rfl rfl (wrap_i64 (by omega) (by omega)) <| CN <| Op1.fieldAddr fld74_5 rfl <| CN <| Op1.load1 (v := str _) ty9 rfl rfl (hst.cellL (.head _) rfl) <| CN (Op1.lenS (rest := []) ty9 rfl ?_)
 first | refine CN (Op1.remN rfl rfl (by omega) (by omega) rfl ?_) | refine CN (Op1.rem rfl rfl (by omega) ?_)
 refine CN <| Op1.eql rfl rfl <| AB rfl <| NL <| run_ret1 Try.func46 rfl (TP (v := .bool _) rfl) ?_
 exact ⟨congrArg Value.bool (by unfold wholeQ; rw [if_neg (by omega), if_neg (by omega)]), hst.pure⟩
theorem R5ref_Kind2 {c kd : Int} (hk : kindS c = kd) (h0 : 0 ≤ c) (h1 : c ≤ 255) (w : World) : Ret Try.prog 54 #[.int .u8 c] w (fun v w' => v = .int .u8 kd ∧ St w NoM [] [] w') := by
 subst hk; exact R5ref_Kind c h0 h1 w
theorem R5ref_Enum2 {c n : Int} {o : Option NameL} (h : namesL.find? (enN c n) = o) (w : World) : Ret Try.prog 56 #[.int .u8 c, .int .u32 n] w (fun v w' => v = nameV o ∧ St w NoM [] [] w') := by
 subst h; exact R5ref_Enum c n w
end Go.SK
namespace Go.SK
open Go Go.Proofs
theorem ent54 : Enters Try.prog 54 := ⟨Try.f54, _, Try.func54, by kernel_rfl, rfl⟩
theorem ent55 : Enters Try.prog 55 := ⟨Try.f55, _, Try.func55, by kernel_rfl, rfl⟩
theorem ent56 : Enters Try.prog 56 := ⟨Try.f56, _, Try.func56, by kernel_rfl, rfl⟩
theorem ent48 : Enters Try.prog 48 := ⟨Try.f48, _, Try.func48, by kernel_rfl, rfl⟩
end Go.SK
