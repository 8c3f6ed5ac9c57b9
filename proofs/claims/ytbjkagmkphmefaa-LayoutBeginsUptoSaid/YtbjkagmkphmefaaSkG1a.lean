/-
  Steps of functions, plain law, and walks of functions: what the laws rest on.
-/
import Derived.Test.YtbjkagmkphmefaaSkG0e
set_option linter.unusedVariables false
set_option linter.unusedSimpArgs false
set_option linter.unusedSectionVars false
namespace Go.SK
open Go.RowKit
section
variable {P : Program} {ty : TypeId} {ρ : Operand → Value} {w : World} {C : Value → World → Prop} {T T2 : TypeId} {x y : Operand} {k : Nat} {xs ys : List Value} {b : Bool}
theorem Op1.neqA (hx : ρ x = .agg xs.toArray) (hy : ρ y = .agg ys.toArray) (hg : P.eqGuardType P.depth T = false) (h : EqOk P k T (.agg xs.toArray) (.agg ys.toArray) b) (hc : C (.bool (!b)) w) (hk : Nat.ble k 10000 = true := by rfl) : Op1 P (.binOp .neq T x y T2) ty ρ w C := by
  refine Op1.of (v := .bool (!b)) (w' := w) ?_ hc
  have hp : (program : Sem Program).run P w = .ok P w := rfl
  simp only [execOp, hx, hy, eqGuard, binOp]
  simp [Sem.run_bind, hp, hg, Result.andThen, equal_run h hk]
end
end Go.SK
namespace Go.SK
open Go.RowKit Go.ChangeShapes Go.WideShapes Go.ChangeAt
theorem flat_takeE {α : Type} {g : α → List Value} {es : Nat} (hg : ∀ a, (g a).length = es) : ∀ (l : List α) (k : Nat), (l.flatMap g).take (k * es) = (l.take k).flatMap g
  | [], k => by simp
  | a :: l, 0 => by simp
  | a :: l, k + 1 => by
    rw [List.flatMap_cons, List.take_succ_cons, List.flatMap_cons, show (k + 1) * es = (g a).length + k * es by rw [hg, Nat.add_mul]; omega, List.take_length_add_append, flat_takeE hg l k]
section
variable {P : Program} {ty : TypeId} {ρ : Operand → Value} {w0 w : World} {C : Value → World → Prop} {M : Nat → Prop} {L L' D : List Res}
variable {T T2 e : TypeId} {de : TypeDesc} {sz bytes es eb : Nat} {zs ez : List Value} {ao : Option Addr} {n cap : Nat} {xs : List Value}
def subAo (ao : Option Addr) (cap lo es : Nat) : Option Addr := if cap = lo then ao else ao.map (·.add (lo * es))
theorem Res.rs_sub {lo hi : Nat} (h : (Res.rs ao n es xs).holds w) (h1 : lo ≤ hi) (h2 : hi ≤ n) (h3 : n ≤ cap) : (Res.rs (subAo ao cap lo es) (hi - lo) es ((xs.drop (lo * es)).take ((hi - lo) * es))).holds w := by
  have hlen : ((xs.drop (lo * es)).take ((hi - lo) * es)).length = (hi - lo) * es := by
    rw [List.length_take, List.length_drop, h.1]
    have : (hi - lo) * es ≤ n * es - lo * es := by rw [← Nat.sub_mul]; exact Nat.mul_le_mul_right _ (by omega)
    omega
  refine ⟨hlen, ?_⟩
  by_cases he : hi = lo
  · exact .inl (by omega)
  · rcases h.2 with h0 | ⟨b, o, rfl, hc⟩
    · omega
    · right
      refine ⟨b, o + lo * es, ?_, fun i v hi => ?_⟩
      · unfold subAo; rw [if_neg (by omega)]; simp [addr_add]
      · rw [List.getElem?_take] at hi
        split at hi
        · rw [List.getElem?_drop] at hi
          have := hc _ _ hi
          rwa [← Nat.add_assoc] at this
        · simp at hi
theorem Res.rs_subF {α : Type} {g : α → List Value} {l : List α} {lo hi : Nat} (hg : ∀ a, (g a).length = es) (h : (Res.rs ao l.length es (l.flatMap g)).holds w) (h1 : lo ≤ hi) (h2 : hi ≤ l.length) (h3 : l.length ≤ cap) : (Res.rs (subAo ao cap lo es) ((l.drop lo).take (hi - lo)).length es (((l.drop lo).take (hi - lo)).flatMap g)).holds w := by
  have e : ((l.drop lo).take (hi - lo)).length = hi - lo := by rw [List.length_take, List.length_drop]; omega
  have := Res.rs_sub h h1 h2 h3
  rw [e]
  rw [flat_drop hg, flat_takeE hg] at this
  exact this
variable {k k2 k3 : IntKind} {x y z u : Operand} {lo hi mx : Int}
theorem Op1.sliceSlT {hi : Nat} {hiz : Int} (hT : TyF P T (.slice e) sz bytes zs) (he : TyF P e de es eb ez) (hx : ρ x = .slice ao n cap) (hz : ρ z = .int k2 hiz) (hhi : hiz = hi) (h2 : hi ≤ cap)
    (h : C (.slice (subAo ao cap 0 es) (hi - 0) (cap - 0)) w) : Op1 P (.slice T x none (some z) none) ty ρ w C := by
  subst hhi
  refine Op1.of (v := .slice (subAo ao cap 0 es) (hi - 0) (cap - 0)) (w' := w) ?_ h
  simp [execOp, Instr.sliceAt, Instr.slice, Instr.sliceBounds, Instr.sliceBound, asIntOf, hx, hz, Sem.run_bind, hT.run_und, he.run_size, Result.andThen, h2, subAo]
end
end Go.SK
namespace Go.SK
open Go.RowKit Go.ChangeShapes Go.WideShapes Go.ChangeAt
theorem St.rowSl {w0 w : World} {M : Nat → Prop} {L D : List Res} {b n es : Nat} {e : TypeId} {xs : List Value} (hst : St w0 M (Res.row b e xs :: L) D w) (hl : xs.length = n * es) (hn : n ≤ maxLen) : St w0 M (Res.sl (some ⟨b, 0, none⟩) n n e es xs :: L) D w := by
  have hr : (Res.row b e xs).holds w := hst.hL _ (.head _)
  refine hst.upd .here (Kept.refl _ _) ⟨hl, .inr ⟨b, n, xs.toArray, rfl, Nat.zero_le _, hr, Nat.le_refl _, hn, by simp [hl], by rw [List.toList_toArray, List.take_of_length_le (by omega)]⟩⟩ (fun b' hb => .inl ?_)
  have h : some b = some b' := hb
  cases h
  rfl
end Go.SK
namespace Go.SK
theorem wrongA_lt (c bd : Int) (a : ArgP) : wrongA c a bd < 50 := by
  unfold wrongA
  repeat' split
  all_goals decide
theorem wrongL_lt (fm : FormL) (bd : Int) : ∀ (l : List ArgP) (k : Nat), wrongL fm bd k l < 50
  | [], _ => (by decide : (0 : Int) < 50)
  | a :: l, k => by
    rw [wrongL]; split
    · exact wrongA_lt _ _ _
    · exact wrongL_lt fm bd l (k + 1)
theorem idH_lt (m : Bool) (n bd e : Int) (he : e < 50) : idH m n bd e < 50 := by
  unfold idH
  repeat' split
  · exact he
  · decide
  · decide
theorem fault_lt (bd : Int) (i : InstL) : faultF bd i < 50 := by
  unfold faultF
  split
  · decide
  · split
    · exact idH_lt _ _ _ _ (by decide)
    · split
      · exact idH_lt _ _ _ _ (by decide)
      · split
        · exact wrongL_lt _ _ _ _
        · split
          · decide
          · split <;> decide
theorem shapeG_lt (bd : Int) : ∀ (l : List InstL) (n k : Nat), (shapeG bd n k l).1 < 50
  | [], _, _ => (by decide : (0 : Int) < 50)
  | i :: l, n, k => by
    rw [shapeG]; split
    · exact fault_lt bd i
    · split
      · exact (by decide : (4 : Int) < 50)
      · exact shapeG_lt bd l _ _
theorem shape_lt (bd : Int) (l : List InstL) : (shapeF bd l).1 < 50 := by
  unfold shapeF; split
  · decide
  · exact shapeG_lt bd l 5 0
theorem shapeG_take {bd : Int} : ∀ {l : List InstL} {n k m : Nat}, (shapeG bd n k l).1 = 0 → (shapeG bd n k (l.take m)).1 = 0
  | l, n, k, 0, _ => by rw [List.take_zero]; rfl
  | [], n, k, m + 1, _ => rfl
  | i :: l, n, k, m + 1, h => by
    rw [List.take_succ_cons, shapeG]
    rw [shapeG] at h
    split at h
    · rename_i h1; exact absurd h h1
    · rename_i h1
      rw [if_neg h1]
      split at h
      · cases h
      · rename_i h2
        rw [if_neg h2]
        exact shapeG_take h
theorem shape_take {bd : Int} {l : List InstL} {m : Nat} (h : (shapeF bd l).1 = 0) : (shapeF bd (l.take m)).1 = 0 := by
  unfold shapeF at h ⊢
  split at h
  · cases h
  · rename_i h1; rw [if_neg h1]; exact shapeG_take h
theorem scan_50 {l : List InstL} {a : Int} : ∀ {n k : Nat} {S : LS}, k + n = l.length → dfaF (l.take k) = some S → scanF l n k S = (50, a) → ∃ (j : Nat) (S' : LS), j < l.length ∧ a = (j : Int) ∧ dfaF (l.take j) = some S' ∧ stepO S' (l.getD j zeroIL) = none
  | 0, k, S, hk, hd, h => by
    rw [scanF] at h
    split at h
    · injection h with h1 _; cases h1
    · injection h with h1 _; cases h1
  | n + 1, k, S, hk, hd, h => by
    rw [scanF] at h
    cases hs : stepO S (l.getD k zeroIL) with
    | none =>
      rw [hs] at h
      injection h with _ h2
      exact ⟨k, S, by omega, h2.symm, hd, hs⟩
    | some S2 =>
      rw [hs] at h
      exact scan_50 (n := n) (k := k + 1) (by omega) (by rw [dfa_next (by omega) hd]; exact hs) h
theorem order_50 {l : List InstL} {a : Int} (h : orderF l = (50, a)) : ∃ (j : Nat) (S' : LS), j < l.length ∧ a = (j : Int) ∧ dfaF (l.take j) = some S' ∧ stepO S' (l.getD j zeroIL) = none :=
  scan_50 (n := l.length) (k := 0) (by omega) (by rw [List.take_zero]; rfl) h
theorem dfa_tt {l : List InstL} {n j : Nat} (h : j ≤ n) : dfaF ((l.take n).take j) = dfaF (l.take j) := by rw [List.take_take, Nat.min_eq_left h]
theorem take_len {α : Type} {l : List α} {n : Nat} (h : n ≤ l.length) : (l.take n).length = n := by rw [List.length_take]; omega
theorem order_begin {l : List InstL} (h : (orderF l).1 ≠ 50) {n : Nat} (hn : n ≤ l.length) : orderF (l.take n) = (0, 0) ∨ orderF (l.take n) = (51, (n : Int)) := by
  obtain ⟨S, hS⟩ := order_some h
  obtain ⟨S', hd⟩ := dfa_prefix (Nat.le_refl _) hS hn
  have hl := take_len hn
  have hd2 : dfaF ((l.take n).take (l.take n).length) = some S' := by rw [hl, dfa_tt (Nat.le_refl _)]; exact hd
  cases hf : S'.fin with
  | true => exact .inl (order_good hd2 hf)
  | false => right; rw [order_open hd2 hf, hl]
theorem order_there {l : List InstL} {a : Int} (h : orderF l = (50, a)) : ∃ j : Nat, j < l.length ∧ a = (j : Int) ∧ orderF (l.take (j + 1)) = (50, (j : Int)) := by
  obtain ⟨j, S', hj, ha, hd, hs⟩ := order_50 h
  refine ⟨j, hj, ha, ?_⟩
  refine order_stop (S := S') (by rw [take_len (by omega)]; omega) (by rw [dfa_tt (by omega)]; exact hd) ?_
  have e : (l.take (j + 1)).getD j zeroIL = l.getD j zeroIL := by simp [List.getD, List.getElem?_take]
  rw [e]; exact hs
theorem check_50 {bd a : Int} {l : List InstL} (h : checkF bd l = (50, a)) : ∃ j : Nat, j < l.length ∧ a = (j : Int) ∧ checkF bd (l.take (j + 1)) = (50, (j : Int)) := by
  by_cases hs : (shapeF bd l).1 = 0
  · rw [check_order hs] at h
    obtain ⟨j, h1, h2, h3⟩ := order_there h
    exact ⟨j, h1, h2, by rw [check_order (shape_take hs)]; exact h3⟩
  · rw [check_shape hs] at h
    have := shape_lt bd l
    rw [h] at this; exact absurd this (by simp)
theorem check_begin {bd e a : Int} {l : List InstL} (h : checkF bd l = (e, a)) (he : e = 0 ∨ e = 51) {n : Nat} (hn : n ≤ l.length) : checkF bd (l.take n) = (0, 0) ∨ checkF bd (l.take n) = (51, (n : Int)) := by
  by_cases hs : (shapeF bd l).1 = 0
  · rw [check_order hs] at h
    rw [check_order (shape_take hs)]
    exact order_begin (by rw [h]; (try dsimp only); omega) hn
  · rw [check_shape hs] at h
    have := shape_lt bd l
    rw [h] at this hs
    simp only at this hs
    omega
theorem rmod_take {ao : Option Addr} {cap : Nat} {l : List InstP} {w : World} {n : Nat} (h : (Res.rmod ao l).holds w) (hn : n ≤ l.length) (hc : l.length ≤ cap) : (Res.rmod (subAo ao cap 0 4) (l.take n)).holds w := by
  intro r hr
  cases hr with
  | head =>
    have h1 := h _ (.head _)
    have h2 := Res.rs_subF (g := instC) (es := 4) (lo := 0) (hi := n) (cap := cap) instC_len h1 (Nat.zero_le _) hn hc
    rw [List.drop_zero, Nat.sub_zero] at h2
    exact h2
  | tail _ hr =>
    obtain ⟨i, hi, rfl⟩ := List.mem_map.1 hr
    exact h _ (.tail _ (List.mem_map_of_mem (List.mem_of_mem_take hi)))
end Go.SK
namespace Go.SK
def twiceL : List InstL := [⟨14, 0, 0, [⟨4, 0, []⟩, ⟨4, 0, []⟩]⟩, ⟨14, 0, 0, [⟨4, 0, []⟩, ⟨4, 0, []⟩]⟩]
theorem twice_check : checkF 1 twiceL = (50, 1) := by decide +kernel
theorem Small.twice {l : List InstP} (h : l.map InstP.L = twiceL) : Small l :=
  Small.of (m := [⟨14, 0, 0, none, 0, [⟨4, 0, []⟩, ⟨4, 0, []⟩]⟩, ⟨14, 0, 0, none, 0, [⟨4, 0, []⟩, ⟨4, 0, []⟩]⟩]) h ⟨by decide, by decide, by decide, by decide, by decide⟩
end Go.SK
namespace Go.SK
open Go Go.Proofs
open Go.RowKit
theorem R5ly_Check (ga ba : Int) (l : List InstP) (ao : Option Addr) (cp : Nat) (w : World) (hA : (Res.rmod ao l).holds w) (hs : Small l) : Ret Try.prog 10 #[.agg #[.int .u32 ga, .int .u32 ba, .slice ao l.length cp]] w (fun v w' => v = .agg #[.int .i64 (checkF ba (l.map InstP.L)).1, .int .i64 (checkF ba (l.map InstP.L)).2] ∧ St w NoM [] [] w') := by
 refine Ret.enter (args := [.agg #[.int .u32 ga, .int .u32 ba, .slice ao l.length cp]]) Try.func10 rfl rfl rfl ?_
 have hst : St w NoM [] [Res.rmod ao l] w := St.init_D hA
 clear hA
 refine SR <| CN <| Op1.box (v := .agg #[.int .u32 _, .int .u32 _, .slice _ _ _]) hst rfl rfl fun w b1 hst => CN <| Op1.alloc hst ty29 fun w b2 hst => NSR <| CN <| Op1.loadA (vs := [.int .u32 _, .int .u32 _, .slice _ _ _]) ty25 rfl rfl rfl (cells_of_obj (n := 3) (hst.objL (.tail _ (.head _))) _ rfl) <| CN (Op1.call1 (v1 := .agg #[.int .u32 _, .int .u32 _, .slice _ _ _]) ent25 rfl rfl ((R5ly_read ga ba l _ _ _ (hst.hD _ (.head _)) hs).mono fun v w hp => ?_))
 rcases hp with ⟨bqr, fo, fc, xs, htp, hor, hC, hxs, rfl, hp⟩ | ⟨hne, rfl, hp⟩
 · skip
   replace hst : St _ _ (_ :: _ :: _) _ _ := hst.call0 hp
   clear hp
   refine CN <| Op1.move (v := .tuple #[.pointer (some ⟨_, _, none⟩), .agg #[.int .i64 _, .int .i64 _]]) rfl <| CN <| Op1.extract (v := .pointer (some ⟨_, _, none⟩)) rfl rfl <| CN <| Op1.extract (v := .agg #[.int .i64 _, .int .i64 _]) rfl rfl <| CN <| Op1.alloc hst ty29 fun w b4 hst => AP rfl <| CN (SO (v := .agg #[.int .i64 _, .int .i64 _]) hst ty29 rfl rfl (.here) fun w hst => ?_)
   refine NSR <| CN <| Op1.loadA (vs := [.int .i64 _, .int .i64 _]) ty29 rfl rfl rfl (cells_of_obj (n := 2) (hst.objL (.head _)) _ rfl) <| CN (SO (v := .agg #[.int .i64 _, .int .i64 _]) hst ty29 rfl rfl (.there (.there (.there (.here)))) fun w hst => ?_)
   refine NL <| run_ret1 Try.func10 rfl (RV.cellA (vs := [.int .i64 _, .int .i64 _]) rfl ty29 rfl rfl (cells_of_obj (n := 2) (hst.objL (.tail _ (.tail _ (.tail _ (.head _))))) _ rfl)) ?_
   replace hst := hst.pick .nil
   rw [hC]
   exact ⟨rfl, hst.pure⟩
 · skip
   replace hst : St _ _ _ _ _ := hst.call0 hp
   clear hp
   refine CN <| Op1.move (v := .tuple #[_, .agg #[.int .i64 _, .int .i64 _]]) rfl <| CN <| Op1.extract (v := _) rfl rfl <| CN <| Op1.extract (v := .agg #[.int .i64 _, .int .i64 _]) rfl rfl <| CN <| Op1.alloc hst ty29 fun w b4 hst => CN <| Op1.assign (v := _) rfl <| CN (SO (v := .agg #[.int .i64 _, .int .i64 _]) hst ty29 rfl rfl (.here) fun w hst => ?_)
   refine NSR <| CN <| Op1.loadA (vs := [.int .i64 _, .int .i64 _]) ty29 rfl rfl rfl (cells_of_obj (n := 2) (hst.objL (.head _)) _ rfl) <| CN (SO (v := .agg #[.int .i64 _, .int .i64 _]) hst ty29 rfl rfl (.there (.here)) fun w hst => ?_)
   refine NL <| run_ret1 Try.func10 rfl (RV.cellA (vs := [.int .i64 _, .int .i64 _]) rfl ty29 rfl rfl (cells_of_obj (n := 2) (hst.objL (.tail _ (.head _))) _ rfl)) ?_
   replace hst := hst.pick .nil
   exact ⟨rfl, hst.pure⟩
end Go.SK
namespace Go.SK
open Go Go.Proofs
theorem ent10 : Enters Try.prog 10 := ⟨Try.f10, _, Try.func10, by kernel_rfl, rfl⟩
end Go.SK
namespace Go.SK
open Go Go.Proofs
open Go.RowKit
theorem R5ly_CheckD {ga ba e a : Int} {l : List InstP} (hC : checkF ba (l.map InstP.L) = (e, a)) (ao : Option Addr) (cp : Nat) (w : World) (hA : (Res.rmod ao l).holds w) (hs : Small l) : Ret Try.prog 10 #[.agg #[.int .u32 ga, .int .u32 ba, .slice ao l.length cp]] w (fun v w' => v = .agg #[.int .i64 e, .int .i64 a] ∧ St w NoM [] [] w') := by
 have h := R5ly_Check ga ba l ao cp w hA hs
 rw [hC] at h; exact h
end Go.SK
namespace Go.SK
open Go Go.Proofs
theorem stf35 : StructF Try.prog 35 [(0, 1), (1, 1), (2, 1)] := ⟨fieldsOf Try.prog 35, by kernel_rfl, fun w => by kernel_rfl⟩
theorem ent13 : Enters Try.prog 13 := ⟨Try.f13, _, Try.func13, by kernel_rfl, rfl⟩
theorem stf39 : StructF Try.prog 39 [(0, 1), (1, 1), (2, 1), (3, 1)] := ⟨fieldsOf Try.prog 39, by kernel_rfl, fun w => by kernel_rfl⟩
theorem stf25 : StructF Try.prog 25 [(0, 1), (1, 1), (2, 1)] := ⟨fieldsOf Try.prog 25, by kernel_rfl, fun w => by kernel_rfl⟩
theorem fld29_1 : FldF Try.prog 29 1 1 := FldF.of (n := 0) (by kernel_rfl)
end Go.SK
namespace Go.SK
open Go Go.Proofs
open Go.RowKit
theorem R5kit_Enum (n : Int) (w : World) : Ret Try.prog 13 #[.int .u32 n] w (fun v w' => v = .agg #[.int .u8 4, .int .u32 n, str []] ∧ St w NoM [] [] w') := by
 refine Ret.enter (args := [.int .u32 n]) Try.func13 rfl rfl rfl ?_
 have hst := St.init w
 refine SR <| CN <| Op1.alloc hst ty35 fun w b2 hst => NSR <| MU rfl <| CN (Op1.buildStruct ty35 stf35 (.c (v := .int .u8 _) rfl (h := (.c (v := .int .u32 _) rfl (h := .nil)))) ?_)
 refine CN (SO (v := .agg #[.int .u8 _, .int .u32 _, str _]) hst ty35 rfl rfl (.here) fun w hst => ?_)
 refine NL <| run_ret1 Try.func13 rfl (RV.cellA (vs := [.int .u8 _, .int .u32 _, str _]) rfl ty35 rfl rfl (cells_of_obj (n := 3) (hst.objL (.head _)) _ rfl)) ?_
 exact ⟨rfl, hst.pure⟩
theorem R5ly_CheckN {ga ba e a : Int} {l : List InstP} {m : Nat} (hm : m = l.length) (hC : checkF ba (l.map InstP.L) = (e, a)) (ao : Option Addr) (cp : Nat) (w : World) (hA : (Res.rmod ao l).holds w) (hs : Small l) : Ret Try.prog 10 #[.agg #[.int .u32 ga, .int .u32 ba, .slice ao m cp]] w (fun v w' => v = .agg #[.int .i64 e, .int .i64 a] ∧ St w NoM [] [] w') := by
 subst hm; exact R5ly_CheckD hC ao cp w hA hs
theorem R5law_LayoutBegins (ga ba : Int) (l : List InstP) (ao : Option Addr) (cp : Nat) (w : World) (hA : (Res.rmod ao l).holds w) (hs : Small l) : Ret Try.prog 4 #[.agg #[.int .u32 ga, .int .u32 ba, .slice ao l.length cp]] w (fun v w' => v = .bool true ∧ St w NoM [] [] w') := by
 refine Ret.enter (args := [.agg #[.int .u32 ga, .int .u32 ba, .slice ao l.length cp]]) Try.func4 rfl rfl rfl ?_
 have hst : St w NoM [] [Res.rmod ao l] w := St.init_D hA
 clear hA
 obtain ⟨e, a, hC⟩ : ∃ e a, checkF ba (l.map InstP.L) = (e, a) := ⟨_, _, rfl⟩
 have hL : (l.map InstP.L).length = l.length := List.length_map _
 have hsl := hs.len
 refine SR <| CN <| Op1.box (v := .agg #[.int .u32 _, .int .u32 _, .slice _ _ _]) hst rfl rfl fun w b1 hst => AB rfl <| NSR <| CN <| Op1.loadA (vs := [.int .u32 _, .int .u32 _, .slice _ _ _]) ty25 rfl rfl rfl (cells_of_obj (n := 3) (hst.objL (.head _)) _ rfl) <| CN (Op1.call1 (v1 := .agg #[.int .u32 _, .int .u32 _, .slice _ _ _]) ent9 rfl rfl ((R5md_CopyModule _ _ l _ _ _ (hst.hD _ (.head _)) hs.lenC hs.laC).mono fun v w hp => ?_))
 obtain ⟨bM1, dM1, rfl, hdM1, hp⟩ := hp
 replace hst : St _ _ (_ :: _) _ _ := hst.call0 hp
 clear hp
 refine CN <| Op1.call1 (v1 := .agg #[.int .u32 _, .int .u32 _, .slice _ _ _]) ent10 rfl rfl <| Ret.det (R5ly_CheckD (e := e) (a := a) (by rw [hdM1]; exact hC) _ _ _ (Res.rmod_of_omod (hst.hL _ (.head _))) (Small.of hdM1 hs)) hst fun w hst => CN <| Op1.alloc hst ty29 fun w b3 hst => CN (SO (v := .agg #[.int .i64 _, .int .i64 _]) hst ty29 rfl rfl (.here) fun w hst => ?_)
 refine NL <| SQ <| Run.cutW (L1 := []) [(1, .pointer (some ⟨_, _, none⟩)), (3, .pointer (some ⟨_, _, none⟩))] hst ⟨rfl, rfl, trivial⟩ (fun (_u : Unit) => []) (fun (_u : Unit) => []) (fun (_u : Unit) => True) (fun _u f w hst hJ2 => ?_) (fun cut1 => ?_)
 · skip
   refine SQ <| Run.cutW (L1 := []) [] hst trivial (fun (_u : Unit) => []) (fun (_u : Unit) => []) (fun (_u : Unit) => True) (fun _u f w hst hJ5 => ?_) (fun cut4 => ?_)
   · skip
     refine SR <| CN <| Op1.call1 (v1 := .int .u32 _) ent13 rfl rfl <| Ret.det (R5kit_Enum _ _) hst fun w hst => CN <| Op1.call1 (v1 := .int .u32 _) ent13 rfl rfl <| Ret.det (R5kit_Enum _ _) hst fun w hst => CN (Op1.buildSl (z0 := [.int .u8 0, .int .u32 0, str [], .int .u8 0, .int .u32 0, str []]) hst ty37 ty35 rfl rfl (by kernel_rfl) (.c (v := .agg #[.int .u8 _, .int .u32 _, str _]) rfl (h := (.c (v := .agg #[.int .u8 _, .int .u32 _, str _]) rfl (h := .nil)))) fun w b79 hst => ?_)
     refine CN (Op1.buildStruct ty39 stf39 (.c (v := .int .u16 _) rfl (h := (.c (v := .slice _ _ _) rfl (h := .nil)))) ?_)
     refine CN <| Op1.call1 (v1 := .int .u32 _) ent13 rfl rfl <| Ret.det (R5kit_Enum _ _) hst fun w hst => CN <| Op1.call1 (v1 := .int .u32 _) ent13 rfl rfl <| Ret.det (R5kit_Enum _ _) hst fun w hst => CN (Op1.buildSl (z0 := [.int .u8 0, .int .u32 0, str [], .int .u8 0, .int .u32 0, str []]) hst ty37 ty35 rfl rfl (by kernel_rfl) (.c (v := .agg #[.int .u8 _, .int .u32 _, str _]) rfl (h := (.c (v := .agg #[.int .u8 _, .int .u32 _, str _]) rfl (h := .nil)))) fun w b83 hst => ?_)
     refine CN (Op1.buildStruct ty39 stf39 (.c (v := .int .u16 _) rfl (h := (.c (v := .slice _ _ _) rfl (h := .nil)))) ?_)
     refine CN (Op1.buildSl (z0 := [.int .u16 0, .int .u32 0, .int .u32 0, .slice none 0 0, .int .u16 0, .int .u32 0, .int .u32 0, .slice none 0 0]) hst ty23 ty39 rfl rfl (by kernel_rfl) (.c (v := .agg #[.int .u16 _, .int .u32 _, .int .u32 _, .slice _ _ _]) rfl (h := (.c (v := .agg #[.int .u16 _, .int .u32 _, .int .u32 _, .slice _ _ _]) rfl (h := .nil)))) fun w b85 hst => ?_)
     refine CN (Op1.buildStruct ty25 stf25 (.c (v := .int .u32 _) rfl (h := (.c (v := .slice _ _ _) rfl (h := .nil)))) ?_)
     refine CN <| Op1.alloc hst ty25 fun w b8 hst => CN (SO (v := .agg #[.int .u32 _, .int .u32 _, .slice _ _ _]) hst ty25 rfl rfl (.here) fun w hst => ?_)
     refine NL <| SQ ?_
     replace hst := hst.pick (.cons (.there (.there (.there (.here)))) (.cons (.here) (.cons (.here) (.cons (.here) (.cons (.here) (.cons (.here) (.cons (.here) .nil)))))))
     replace hst := St.rowSl (n := 2) (es := 3) hst rfl (by decide)
     replace hst := hst.pick (.cons (.there (.there (.there (.here)))) (.cons (.here) (.cons (.here) (.cons (.here) (.cons (.here) (.cons (.here) (.cons (.here) .nil)))))))
     replace hst := St.rowSl (n := 2) (es := 3) hst rfl (by decide)
     replace hst := hst.pick (.cons (.there (.there (.there (.here)))) (.cons (.here) (.cons (.here) (.cons (.here) (.cons (.here) (.cons (.here) (.cons (.here) .nil)))))))
     replace hst := St.rowSl (n := 2) (es := 4) hst rfl (by decide)
     replace hst := hst.pick (.cons (.here) (.cons (.there (.here)) (.cons (.here) (.cons (.here) (.cons (.here) (.cons (.here) (.cons (.here) .nil)))))))
     replace hst : St _ _ (Res.omod 39 35 (some ⟨b85, 0, none⟩) 2 ([⟨14, 0, 0, some ⟨b79, 0, none⟩, 2, [⟨4, 0, []⟩, ⟨4, 0, []⟩]⟩, ⟨14, 0, 0, some ⟨b83, 0, none⟩, 2, [⟨4, 0, []⟩, ⟨4, 0, []⟩]⟩] : List InstP) :: _) _ _ := hst.pack (L1 := [_, _, _])
     refine RG <| CN <| Op1.loadA (vs := [.int .u32 _, .int .u32 _, .slice _ _ _]) ty25 rfl rfl rfl (cells_of_obj (n := 3) (hst.objL (.tail _ (.head _))) _ rfl) <| CN <| Op1.call1 (v1 := .agg #[.int .u32 _, .int .u32 _, .slice _ _ _]) ent10 rfl rfl <| Ret.det (R5ly_CheckN (e := 50) (a := 1) (l := ([⟨14, 0, 0, some ⟨b79, 0, none⟩, 2, [⟨4, 0, []⟩, ⟨4, 0, []⟩]⟩, ⟨14, 0, 0, some ⟨b83, 0, none⟩, 2, [⟨4, 0, []⟩, ⟨4, 0, []⟩]⟩] : List InstP)) rfl twice_check _ _ _ (Res.rmod_of_omod (hst.hL _ (.head _))) (Small.twice rfl)) hst fun w hst => CN (Op1.buildStruct ty29 stf29 (.c (v := .int .i64 _) rfl (h := (.c (v := .int .i64 _) rfl (h := .nil)))) ?_)
     refine CN <| Op1.eqlA (xs := [.int .i64 _, .int .i64 _]) (ys := [.int .i64 _, .int .i64 _]) rfl rfl (by kernel_rfl) (EqOk.struct Try.underlying29 (by kernel_rfl) (.cons (by decide) (PartOk.one ty27 rfl rfl) (PartOk.one ty27 rfl rfl) (EqOk.int ty27) (.cons (by decide) (PartOk.one ty3 rfl rfl) (PartOk.one ty3 rfl rfl) (EqOk.int ty3) .nil))) <| AB rfl <| NL <| run_ret1 Try.func4 rfl (TP (v := .bool _) rfl) ?_
     exact ⟨rfl, hst.pure⟩
   · skip
     refine SR <| CN <| Op1.fieldAddr fld29_0 rfl <| CN <| Op1.load1 (v := .int .i64 _) ty27 rfl rfl (hst.cellL (.head _) rfl) <| CN <| Op1.eql rfl rfl <| MB rfl <| RunL.splitD (d := 42) rfl (fun g7 => ?_) (fun g7 => ?_)
     · skip
       refine OM (t := 42) rfl (congrArg Value.bool (decide_eq_true g7)) rfl <| OM (t := 42) rfl (congrArg Value.bool (decide_eq_true g7)) rfl <| OM (t := 42) rfl (congrArg Value.bool (decide_eq_true g7)) rfl <| CN <| Op1.pickT (u := .bool _) (congrArg Value.bool (decide_eq_true g7)) rfl <| NL ?_
       have he : e = 0 ∨ e = 51 := by omega
       refine run_cond_true (congrArg Value.bool (rfl : true = _)) <| SR <| AI rfl <| NL <| run_block <| run_loop <| Run.indW [(1, .pointer (some ⟨_, _, none⟩))] ⟨rfl, trivial⟩ (fun (n : Nat) => [(5, .int .i64 (n : Int))]) (fun (n : Nat) => []) (fun (n : Nat) => n ≤ l.length) (fun (n : Nat) => l.length - n) (0) hst (Nat.zero_le _) ⟨rfl, trivial⟩ ?_
       intro n f w hst hJ ih8
       refine SQ <| SR <| MI rfl <| CN <| Op1.fieldAddr fld25_2 rfl <| CN <| Op1.load1 (v := .slice _ _ _) ty23 rfl rfl (hst.cellL (.tail _ (.tail _ (.head _))) rfl) <| CN <| Op1.lenSl (rest := []) ty23 rfl <| CN <| Op1.lss rfl rfl <| NL <| run_cond_dec rfl (fun g9 => ?_) (fun g9 => ?_)
       · skip
         refine run_skip <| SQ <| run_block <| SR <| CN <| Op1.loadA (vs := [.int .u32 _, .int .u32 _, .slice _ _ _]) ty25 rfl rfl rfl (cells_of_obj (n := 3) (hst.objL (.tail _ (.tail _ (.head _)))) _ rfl) <| CN (Op1.call1 (v1 := .agg #[.int .u32 _, .int .u32 _, .slice _ _ _]) ent9 rfl rfl ((R5md_CopyModule _ _ l _ _ _ (hst.hD _ (.head _)) hs.lenC hs.laC).mono fun v w hp => ?_))
         obtain ⟨bM3, dM3, rfl, hdM3, hp⟩ := hp
         replace hst : St _ _ (_ :: _) _ _ := hst.call0 hp
         clear hp
         refine CN <| Op1.alloc hst ty25 fun w b6 hst => CN (SO (v := .agg #[.int .u32 _, .int .u32 _, .slice _ _ _]) hst ty25 rfl rfl (.here) fun w hst => ?_)
         refine NL <| SQ ?_
         have hn3 := insts_len hdM3
         refine RG <| CN <| Op1.fieldAddr fld25_2 rfl <| CN <| Op1.load1 (v := .slice _ _ _) ty23 rfl rfl (hst.cellL (.head _) rfl) <| MI rfl <| CN <| Op1.sliceSlT (hi := n) ty23 ty39 rfl rfl (by omega) (by omega) <| CN <| Op1.fieldAddr fld25_2 rfl <| CN (SO (v := .slice _ _ _) hst ty23 rfl rfl (.here) fun w hst => ?_)
         refine NL <| SQ ?_
         obtain ⟨te, ta, hCt, htt⟩ : ∃ te ta, checkF ba ((l.map InstP.L).take n) = (te, ta) ∧ (te = 0 ∨ (te = 51 ∧ ta = (n : Int))) := (check_begin hC he (n := n) (by omega)).elim (fun h => ⟨0, 0, h, .inl rfl⟩) (fun h => ⟨51, _, h, .inr ⟨rfl, rfl⟩⟩)
         refine RG <| CN <| Op1.loadA (vs := [.int .u32 _, .int .u32 _, .slice _ _ _]) ty25 rfl rfl rfl (cells_of_obj (n := 3) (hst.objL (.head _)) _ rfl) <| CN <| Op1.call1 (v1 := .agg #[.int .u32 _, .int .u32 _, .slice _ _ _]) ent10 rfl rfl <| Ret.det (R5ly_CheckN (e := te) (a := ta) (l := dM3.take (n)) (by rw [take_len (by omega)]; rfl) (by rw [List.map_take, hdM3]; exact hCt) _ _ _ (rmod_take (Res.rmod_of_omod (hst.hL _ (.tail _ (.head _)))) (by omega) (Nat.le_refl _)) ((Small.of hdM3 hs).take _)) hst fun w hst => CN <| Op1.alloc hst ty29 fun w b7 hst => CN (SO (v := .agg #[.int .i64 _, .int .i64 _]) hst ty29 rfl rfl (.here) fun w hst => ?_)
         refine NSR <| CN <| Op1.fieldAddr fld29_0 rfl <| CN <| Op1.load1 (v := .int .i64 _) ty27 rfl rfl (hst.cellL (.head _) rfl) <| CN <| Op1.neq rfl rfl <| MB rfl <| RunL.splitD (d := 66) rfl (fun g10 => ?_) (fun g10 => ?_)
         · skip
           refine TK (t := 66) rfl (congrArg Value.bool (decide_eq_true g10)) <| Op1.fieldAddr fld29_0 rfl <| TK (t := 66) rfl (congrArg Value.bool (decide_eq_true g10)) <| Op1.load1 (v := .int .i64 _) ty27 rfl rfl (hst.cellL (.head _) rfl) <| TK (t := 66) rfl (congrArg Value.bool (decide_eq_true g10)) <| Op1.neq rfl rfl <| TK (t := 66) rfl (congrArg Value.bool (decide_eq_true g10)) <| Op1.move (v := .bool _) rfl <| RunL.splitD (d := 70) rfl (fun g11 => ?_) (fun g11 => ?_)
           · skip
             exfalso
             omega
           refine TK (t := 70) rfl (congrArg Value.bool (decide_eq_false g11)) <| Op1.fieldAddr fld29_1 rfl <| TK (t := 70) rfl (congrArg Value.bool (decide_eq_false g11)) <| Op1.load1 (v := .int .i64 _) ty3 rfl rfl (hst.cellL (.head _) rfl) <| TK (t := 70) rfl (congrArg Value.bool (decide_eq_false g11)) <| Op1.move (v := .int .i64 _) rfl <| TK (t := 70) rfl (congrArg Value.bool (decide_eq_false g11)) <| Op1.neq rfl rfl <| TK (t := 66) rfl (congrArg Value.bool (decide_eq_true g10)) <| Op1.pickF (u := .bool _) (congrArg Value.bool (decide_eq_false g11)) rfl <| CN <| Op1.pickT (u := .bool _) (congrArg Value.bool (decide_eq_true g10)) rfl <| NL <| Run.forget [(1, .pointer (some ⟨_, _, none⟩)), (5, .int .i64 _), (76, .bool _)] ⟨rfl, rfl, rfl, trivial⟩ fun f => run_cond_dec rfl (fun g12 => ?_) (fun g12 => ?_)
           · skip
             exfalso
             omega
           refine run_skip <| run_inBlock <| RG <| MI rfl <| CN <| Op1.addN rfl rfl rfl (wrap_i64 (by omega) (by omega)) <| AI rfl <| NL <| run_inLoop ?_
           replace hst := hst.pick (.cons (.there (.there (.there (.here)))) (.cons (.there (.there (.there (.here)))) (.cons (.there (.there (.there (.here)))) .nil)))
           exact ih8 (n + 1) _ w (by omega) hst (by omega) ⟨rfl, trivial⟩ ⟨(congrArg (Value.int .i64) (by omega)), trivial⟩
         refine OM (t := 66) rfl (congrArg Value.bool (decide_eq_false g10)) rfl <| OM (t := 66) rfl (congrArg Value.bool (decide_eq_false g10)) rfl <| OM (t := 66) rfl (congrArg Value.bool (decide_eq_false g10)) rfl <| OM (t := 66) rfl (congrArg Value.bool (decide_eq_false g10)) rfl <| RunL.omitU (t := 70) rfl rfl <| RunL.omitU (t := 70) rfl rfl <| RunL.omitU (t := 70) rfl rfl <| RunL.omitU (t := 70) rfl rfl <| OM (t := 66) rfl (congrArg Value.bool (decide_eq_false g10)) rfl <| CN <| Op1.pickF (u := .bool _) (congrArg Value.bool (decide_eq_false g10)) rfl <| NL <| Run.forget [(1, .pointer (some ⟨_, _, none⟩)), (5, .int .i64 _), (76, .bool _)] ⟨rfl, rfl, rfl, trivial⟩ fun f => run_cond_false (congrArg Value.bool (rfl : false = _)) <| run_skip <| run_inBlock ?_
         refine RG <| MI rfl <| CN <| Op1.addN rfl rfl rfl (wrap_i64 (by omega) (by omega)) <| AI rfl <| NL <| run_inLoop ?_
         replace hst := hst.pick (.cons (.there (.there (.there (.here)))) (.cons (.there (.there (.there (.here)))) (.cons (.there (.there (.there (.here)))) .nil)))
         exact ih8 (n + 1) _ w (by omega) hst (by omega) ⟨rfl, trivial⟩ ⟨(congrArg (Value.int .i64) (by omega)), trivial⟩
       refine run_exit (id := 0) rfl ?_
       exact cut4 (()) _ w (hst) (trivial) trivial trivial
     refine TK (t := 42) rfl (congrArg Value.bool (decide_eq_false g7)) <| Op1.fieldAddr fld29_0 rfl <| TK (t := 42) rfl (congrArg Value.bool (decide_eq_false g7)) <| Op1.load1 (v := .int .i64 _) ty27 rfl rfl (hst.cellL (.head _) rfl) <| TK (t := 42) rfl (congrArg Value.bool (decide_eq_false g7)) <| Op1.eql rfl rfl <| CN <| Op1.pickF (u := .bool _) (congrArg Value.bool (decide_eq_false g7)) rfl <| NL <| run_cond_dec rfl (fun g13 => ?_) (fun g13 => ?_)
     · skip
       have he : e = 0 ∨ e = 51 := by omega
       refine SR <| AI rfl <| NL <| run_block <| run_loop <| Run.indW [(1, .pointer (some ⟨_, _, none⟩))] ⟨rfl, trivial⟩ (fun (n : Nat) => [(5, .int .i64 (n : Int))]) (fun (n : Nat) => []) (fun (n : Nat) => n ≤ l.length) (fun (n : Nat) => l.length - n) (0) hst (Nat.zero_le _) ⟨rfl, trivial⟩ ?_
       intro n f w hst hJ ih14
       refine SQ <| SR <| MI rfl <| CN <| Op1.fieldAddr fld25_2 rfl <| CN <| Op1.load1 (v := .slice _ _ _) ty23 rfl rfl (hst.cellL (.tail _ (.tail _ (.head _))) rfl) <| CN <| Op1.lenSl (rest := []) ty23 rfl <| CN <| Op1.lss rfl rfl <| NL <| run_cond_dec rfl (fun g15 => ?_) (fun g15 => ?_)
       · skip
         refine run_skip <| SQ <| run_block <| SR <| CN <| Op1.loadA (vs := [.int .u32 _, .int .u32 _, .slice _ _ _]) ty25 rfl rfl rfl (cells_of_obj (n := 3) (hst.objL (.tail _ (.tail _ (.head _)))) _ rfl) <| CN (Op1.call1 (v1 := .agg #[.int .u32 _, .int .u32 _, .slice _ _ _]) ent9 rfl rfl ((R5md_CopyModule _ _ l _ _ _ (hst.hD _ (.head _)) hs.lenC hs.laC).mono fun v w hp => ?_))
         obtain ⟨bM3, dM3, rfl, hdM3, hp⟩ := hp
         replace hst : St _ _ (_ :: _) _ _ := hst.call0 hp
         clear hp
         refine CN <| Op1.alloc hst ty25 fun w b6 hst => CN (SO (v := .agg #[.int .u32 _, .int .u32 _, .slice _ _ _]) hst ty25 rfl rfl (.here) fun w hst => ?_)
         refine NL <| SQ ?_
         have hn3 := insts_len hdM3
         refine RG <| CN <| Op1.fieldAddr fld25_2 rfl <| CN <| Op1.load1 (v := .slice _ _ _) ty23 rfl rfl (hst.cellL (.head _) rfl) <| MI rfl <| CN <| Op1.sliceSlT (hi := n) ty23 ty39 rfl rfl (by omega) (by omega) <| CN <| Op1.fieldAddr fld25_2 rfl <| CN (SO (v := .slice _ _ _) hst ty23 rfl rfl (.here) fun w hst => ?_)
         refine NL <| SQ ?_
         obtain ⟨te, ta, hCt, htt⟩ : ∃ te ta, checkF ba ((l.map InstP.L).take n) = (te, ta) ∧ (te = 0 ∨ (te = 51 ∧ ta = (n : Int))) := (check_begin hC he (n := n) (by omega)).elim (fun h => ⟨0, 0, h, .inl rfl⟩) (fun h => ⟨51, _, h, .inr ⟨rfl, rfl⟩⟩)
         refine RG <| CN <| Op1.loadA (vs := [.int .u32 _, .int .u32 _, .slice _ _ _]) ty25 rfl rfl rfl (cells_of_obj (n := 3) (hst.objL (.head _)) _ rfl) <| CN <| Op1.call1 (v1 := .agg #[.int .u32 _, .int .u32 _, .slice _ _ _]) ent10 rfl rfl <| Ret.det (R5ly_CheckN (e := te) (a := ta) (l := dM3.take (n)) (by rw [take_len (by omega)]; rfl) (by rw [List.map_take, hdM3]; exact hCt) _ _ _ (rmod_take (Res.rmod_of_omod (hst.hL _ (.tail _ (.head _)))) (by omega) (Nat.le_refl _)) ((Small.of hdM3 hs).take _)) hst fun w hst => CN <| Op1.alloc hst ty29 fun w b7 hst => CN (SO (v := .agg #[.int .i64 _, .int .i64 _]) hst ty29 rfl rfl (.here) fun w hst => ?_)
         refine NSR <| CN <| Op1.fieldAddr fld29_0 rfl <| CN <| Op1.load1 (v := .int .i64 _) ty27 rfl rfl (hst.cellL (.head _) rfl) <| CN <| Op1.neq rfl rfl <| MB rfl <| RunL.splitD (d := 66) rfl (fun g16 => ?_) (fun g16 => ?_)
         · skip
           refine TK (t := 66) rfl (congrArg Value.bool (decide_eq_true g16)) <| Op1.fieldAddr fld29_0 rfl <| TK (t := 66) rfl (congrArg Value.bool (decide_eq_true g16)) <| Op1.load1 (v := .int .i64 _) ty27 rfl rfl (hst.cellL (.head _) rfl) <| TK (t := 66) rfl (congrArg Value.bool (decide_eq_true g16)) <| Op1.neq rfl rfl <| TK (t := 66) rfl (congrArg Value.bool (decide_eq_true g16)) <| Op1.move (v := .bool _) rfl <| RunL.splitD (d := 70) rfl (fun g17 => ?_) (fun g17 => ?_)
           · skip
             exfalso
             omega
           refine TK (t := 70) rfl (congrArg Value.bool (decide_eq_false g17)) <| Op1.fieldAddr fld29_1 rfl <| TK (t := 70) rfl (congrArg Value.bool (decide_eq_false g17)) <| Op1.load1 (v := .int .i64 _) ty3 rfl rfl (hst.cellL (.head _) rfl) <| TK (t := 70) rfl (congrArg Value.bool (decide_eq_false g17)) <| Op1.move (v := .int .i64 _) rfl <| TK (t := 70) rfl (congrArg Value.bool (decide_eq_false g17)) <| Op1.neq rfl rfl <| TK (t := 66) rfl (congrArg Value.bool (decide_eq_true g16)) <| Op1.pickF (u := .bool _) (congrArg Value.bool (decide_eq_false g17)) rfl <| CN <| Op1.pickT (u := .bool _) (congrArg Value.bool (decide_eq_true g16)) rfl <| NL <| Run.forget [(1, .pointer (some ⟨_, _, none⟩)), (5, .int .i64 _), (76, .bool _)] ⟨rfl, rfl, rfl, trivial⟩ fun f => run_cond_dec rfl (fun g18 => ?_) (fun g18 => ?_)
           · skip
             exfalso
             omega
           refine run_skip <| run_inBlock <| RG <| MI rfl <| CN <| Op1.addN rfl rfl rfl (wrap_i64 (by omega) (by omega)) <| AI rfl <| NL <| run_inLoop ?_
           replace hst := hst.pick (.cons (.there (.there (.there (.here)))) (.cons (.there (.there (.there (.here)))) (.cons (.there (.there (.there (.here)))) .nil)))
           exact ih14 (n + 1) _ w (by omega) hst (by omega) ⟨rfl, trivial⟩ ⟨(congrArg (Value.int .i64) (by omega)), trivial⟩
         refine OM (t := 66) rfl (congrArg Value.bool (decide_eq_false g16)) rfl <| OM (t := 66) rfl (congrArg Value.bool (decide_eq_false g16)) rfl <| OM (t := 66) rfl (congrArg Value.bool (decide_eq_false g16)) rfl <| OM (t := 66) rfl (congrArg Value.bool (decide_eq_false g16)) rfl <| RunL.omitU (t := 70) rfl rfl <| RunL.omitU (t := 70) rfl rfl <| RunL.omitU (t := 70) rfl rfl <| RunL.omitU (t := 70) rfl rfl <| OM (t := 66) rfl (congrArg Value.bool (decide_eq_false g16)) rfl <| CN <| Op1.pickF (u := .bool _) (congrArg Value.bool (decide_eq_false g16)) rfl <| NL <| Run.forget [(1, .pointer (some ⟨_, _, none⟩)), (5, .int .i64 _), (76, .bool _)] ⟨rfl, rfl, rfl, trivial⟩ fun f => run_cond_false (congrArg Value.bool (rfl : false = _)) <| run_skip <| run_inBlock ?_
         refine RG <| MI rfl <| CN <| Op1.addN rfl rfl rfl (wrap_i64 (by omega) (by omega)) <| AI rfl <| NL <| run_inLoop ?_
         replace hst := hst.pick (.cons (.there (.there (.there (.here)))) (.cons (.there (.there (.there (.here)))) (.cons (.there (.there (.there (.here)))) .nil)))
         exact ih14 (n + 1) _ w (by omega) hst (by omega) ⟨rfl, trivial⟩ ⟨(congrArg (Value.int .i64) (by omega)), trivial⟩
       refine run_exit (id := 0) rfl ?_
       exact cut4 (()) _ w (hst) (trivial) trivial trivial
     refine run_skip ?_
     exact cut4 (()) _ w (hst) (trivial) trivial trivial
 · skip
   refine SR <| CN <| Op1.fieldAddr fld29_0 rfl <| CN <| Op1.load1 (v := .int .i64 _) ty27 rfl rfl (hst.cellL (.head _) rfl) <| CN <| Op1.eql rfl rfl <| NL <| run_cond_dec rfl (fun g19 => ?_) (fun g19 => ?_)
   · skip
     have he : e = 50 := g19
     subst he
     obtain ⟨j, hjl, haj, hck⟩ := check_50 hC
     subst haj
     refine SQ <| SR <| CN <| Op1.fieldAddr fld29_1 rfl <| CN <| Op1.load1 (v := .int .i64 _) ty3 rfl rfl (hst.cellL (.head _) rfl) <| CN <| Op1.lss rfl rfl <| MB rfl <| RunL.splitD (d := 18) rfl (fun g20 => ?_) (fun g20 => ?_)
     · skip
       exfalso
       omega
     refine TK (t := 18) rfl (congrArg Value.bool (decide_eq_false g20)) <| Op1.fieldAddr fld29_1 rfl <| TK (t := 18) rfl (congrArg Value.bool (decide_eq_false g20)) <| Op1.load1 (v := .int .i64 _) ty3 rfl rfl (hst.cellL (.head _) rfl) <| TK (t := 18) rfl (congrArg Value.bool (decide_eq_false g20)) <| Op1.fieldAddr fld25_2 rfl <| TK (t := 18) rfl (congrArg Value.bool (decide_eq_false g20)) <| Op1.load1 (v := .slice _ _ _) ty23 rfl rfl (hst.cellL (.tail _ (.tail _ (.head _))) rfl) <| TK (t := 18) rfl (congrArg Value.bool (decide_eq_false g20)) <| Op1.lenSl (rest := []) ty23 rfl <| TK (t := 18) rfl (congrArg Value.bool (decide_eq_false g20)) <| Op1.geq rfl rfl <| CN <| Op1.pickF (u := .bool _) (congrArg Value.bool (decide_eq_false g20)) rfl <| NL <| Run.forget [(1, .pointer (some ⟨_, _, none⟩)), (3, .pointer (some ⟨_, _, none⟩)), (25, .bool _)] ⟨rfl, rfl, rfl, trivial⟩ fun f => run_cond_dec rfl (fun g21 => ?_) (fun g21 => ?_)
     · skip
       exfalso
       omega
     refine run_skip <| SR <| CN <| Op1.loadA (vs := [.int .u32 _, .int .u32 _, .slice _ _ _]) ty25 rfl rfl rfl (cells_of_obj (n := 3) (hst.objL (.tail _ (.tail _ (.head _)))) _ rfl) <| CN (Op1.call1 (v1 := .agg #[.int .u32 _, .int .u32 _, .slice _ _ _]) ent9 rfl rfl ((R5md_CopyModule _ _ l _ _ _ (hst.hD _ (.head _)) hs.lenC hs.laC).mono fun v w hp => ?_))
     obtain ⟨bM2, dM2, rfl, hdM2, hp⟩ := hp
     replace hst : St _ _ (_ :: _) _ _ := hst.call0 hp
     clear hp
     refine CN <| Op1.alloc hst ty25 fun w b4 hst => CN (SO (v := .agg #[.int .u32 _, .int .u32 _, .slice _ _ _]) hst ty25 rfl rfl (.here) fun w hst => ?_)
     refine NL <| SQ ?_
     have hn2 := insts_len hdM2
     refine RG <| CN <| Op1.fieldAddr fld25_2 rfl <| CN <| Op1.load1 (v := .slice _ _ _) ty23 rfl rfl (hst.cellL (.head _) rfl) <| CN <| Op1.fieldAddr fld29_1 rfl <| CN <| Op1.load1 (v := .int .i64 _) ty3 rfl rfl (hst.cellL (.tail _ (.tail _ (.head _))) rfl) <| CN <| Op1.addN rfl rfl rfl (wrap_i64 (by omega) (by omega)) <| CN <| Op1.sliceSlT (hi := j + 1) ty23 ty39 rfl rfl (by omega) (by omega) <| CN <| Op1.fieldAddr fld25_2 rfl <| CN (SO (v := .slice _ _ _) hst ty23 rfl rfl (.here) fun w hst => ?_)
     refine NL <| SQ <| RunD.start [] hst (bs := [0, 1, 0, 7]) (ds := [some 35, some 36, some 37, some 38]) ⟨by kernel_rfl, by kernel_rfl, by kernel_rfl⟩ (fun tab22 => ?_)
     refine RunD.op (det _) tab22 1 (fun f' L' w' hc => Op1.loadA (vs := [.int .u32 _, .int .u32 _, .slice _ _ _]) ty25 rfl (hc.old (v := .pointer (some ⟨_, _, none⟩)) rfl rfl rfl) rfl (cells_of_obj (n := 3) (hc.st.objL (List.mem_append_right _ (.head _))) _ rfl) ⟨[], ⟨rfl, rfl⟩, hc.st⟩) <| RunD.op (det _) tab22 2 (fun f' L' w' hc => Op1.call1 (v1 := .agg #[.int .u32 _, .int .u32 _, .slice _ _ _]) ent10 rfl (hc.det (j := 0) rfl rfl rfl rfl) ((R5ly_CheckN (e := 50) (a := (j : Int)) (l := dM2.take (j + 1)) (by rw [take_len (by omega)]; rfl) (by rw [List.map_take, hdM2]; exact hck) _ _ _ (rmod_take (Res.rmod_of_omod (hc.st.hL _ (List.mem_append_right _ (.tail _ (.head _))))) (by omega) (Nat.le_refl _)) ((Small.of hdM2 hs).take _)).mono fun v w hp => ⟨[], ⟨hp.1, rfl⟩, hc.st.keepc hp.2⟩)) <| RunD.op (det _) tab22 3 (fun f' L' w' hc => Op1.loadA (vs := [.int .i64 _, .int .i64 _]) ty29 rfl (hc.old (v := .pointer (some ⟨_, _, none⟩)) rfl rfl rfl) rfl (cells_of_obj (n := 2) (hc.st.objL (List.mem_append_right _ (.tail _ (.tail _ (.head _))))) _ rfl) ⟨[], ⟨rfl, rfl⟩, hc.st⟩) <| RunD.fin followsMixed tab22 hst rfl (fun f23 w R26 hs24 hd25 hr27 hst => ?_)
     obtain ⟨h35_, r0⟩ := hd25 0 35 rfl rfl
     obtain ⟨h36_, r1⟩ := hd25 1 36 rfl rfl
     obtain ⟨h37_, r2⟩ := hd25 2 37 rfl rfl
     simp only [show List.range 3 = [0, 1, 2] from rfl, List.flatMap_cons, List.flatMap_nil, List.map_cons, List.map_nil, r0, r1, r2, List.nil_append, List.append_nil, List.cons_append] at hst
     refine RunL.slots (sl := [(1, .pointer (some ⟨_, _, none⟩)), (3, .pointer (some ⟨_, _, none⟩)), (36, .agg #[.int .i64 _, .int .i64 _]), (37, .agg #[.int .i64 _, .int .i64 _])]) ⟨(hs24 1 rfl).trans rfl, (hs24 3 rfl).trans rfl, h36_, h37_, trivial⟩ ?_
     clear hs24 hd25 hr27 tab22
     refine CN <| Op1.neqA (xs := [.int .i64 _, .int .i64 _]) (ys := [.int .i64 _, .int .i64 _]) rfl rfl (by kernel_rfl) (EqOk.struct Try.underlying29 (by kernel_rfl) (.cons (by decide) (PartOk.one ty27 rfl rfl) (PartOk.one ty27 rfl rfl) (EqOk.int ty27) (.cons (by decide) (PartOk.one ty3 rfl rfl) (PartOk.one ty3 rfl rfl) (EqOk.int ty3) .nil))) <| NL <| run_cond_split rfl (fun g28 => ?_) (fun g28 => ?_)
     · skip
       exfalso
       simp at g28
     refine run_skip ?_
     replace hst := hst.pick (.cons (.there (.there (.here))) (.cons (.there (.there (.here))) (.cons (.there (.there (.here))) .nil)))
     exact cut1 (()) _ w (hst) (trivial) ⟨rfl, rfl, trivial⟩ trivial
   refine run_skip ?_
   exact cut1 (()) _ w (hst) (trivial) ⟨rfl, rfl, trivial⟩ trivial
end Go.SK
