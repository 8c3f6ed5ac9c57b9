/-
  Steps of functions, plain law, and walks of functions: what the laws rest on.
-/
import Derived.Test.YtalnjboddfedjaaDoorSkG0b
import Derived.Test.YtalnjboddfedjaaDoorSkG1a
import Derived.Test.YtalnjboddfedjaaDoorSkG2a
import Derived.Test.YtalnjboddfedjaaDoorSkG4a
import Derived.Test.YtalnjboddfedjaaDoorSkG5a
import Derived.Test.YtalnjboddfedjaaDoorSkG6a
import Derived.Test.YtalnjboddfedjaaDoorSkG8a
import Derived.Test.YtalnjboddfedjaaDoorSkG10a
import Derived.Test.YtalnjboddfedjaaDoorSkG14a
import Derived.Test.YtalnjboddfedjaaDoorSkG17a
import Derived.Test.YtalnjboddfedjaaDoorSkG19a
import Derived.Test.YtalnjboddfedjaaDoorSkG21a
set_option linter.unusedVariables false
set_option linter.unusedSimpArgs false
set_option linter.unusedSectionVars false
namespace Go.SK
open Go.RowKit
section
variable {P : Program} {ty : TypeId} {ρ : Operand → Value} {w0 w : World} {C : Value → World → Prop} {M : Nat → Prop} {L L' D : List Res}
variable {T e : TypeId} {de : TypeDesc} {d : TypeDesc} {sz bytes es eb : Nat} {zs ez : List Value} {ao : Option Addr} {n cap : Nat} {xs : List Value}
theorem Op1.makeSl {x y : Operand} {z0 : List Value} {kl kc : IntKind} {k : Nat} (hst : St w0 M L D w) (hT : TyF P T (.slice e) sz bytes zs) (he : TyF P e de es eb ez) (hx : ρ x = .int kl k) (hy : ρ y = .int kc k) (hk : Nat.ble (eb * k) 281474976710656 = true) (hk2 : Nat.ble k 9223372036854775807 = true)
    (hz : (Array.range (k * es)).map (fun j => ez.toArray[j % ez.toArray.size]!) = z0.toArray)
    (h : ∀ (w' : World) (b : Nat), St w0 M (Res.row b e z0 :: L) D w' → C (.slice (some ⟨b, 0, none⟩) k k) w') : Op1 P (.makeSlice T x y) ty ρ w C := by
  obtain ⟨i, z, h1, h2, h3, h4, h5⟩ := he.info
  have hk' := Nat.le_of_ble_eq_true hk
  have hk2' := Nat.le_of_ble_eq_true hk2
  have hbb : (i.bytes : Int) * (k : Int) ≤ 281474976710656 := by
    rw [h3]
    have h : ((eb * k : Nat) : Int) ≤ 281474976710656 := by omega
    simpa using h
  have hr := run_make (P := P) w T e i z hT.und h1 h4 kl kc (k : Int) (k : Int) (by omega) (by omega) hbb (by omega)
  refine Inv.value (v := .slice (some ⟨w.heap.size, 0, none⟩) k k) (w' := w.alloc (.cells z0.toArray e)) ?_ (h _ _ ?_)
  · simp only [execOp, hx, hy, Sem.run_bind, hr, Result.andThen]
    have : madeCells z.cells ((k : Int).toNat * i.size) = z0.toArray := by rw [← hz, h2, h5]; rfl
    rw [this]; rfl
  · refine hst.push (Kept.alloc _ _ _) ?_ ?_
    · simp only [Res.obj]; rw [alloc_new]
    · intro b hb; exact Nat.le_of_eq hb.symm
end
end Go.SK
namespace Go.SK
theorem wr_some {l : List TokL} {x : Tx} (h : wrF l = some x) : ∃ o, wrL l = some o ∧ x = Lib.join o [32] := by
  rw [wrF_join] at h
  cases e : wrL l with
  | none => rw [e] at h; cases h
  | some o => rw [e] at h; cases h; exact ⟨o, rfl, rfl⟩
end Go.SK
namespace Go.SK
theorem wrE_no {l : List TokL} (h : wrE l ≠ 0) : wrF l = none := by
  unfold wrE at h
  cases hw : wrF l with
  | none => rfl
  | some x => rw [hw] at h; exact absurd rfl h
theorem wrE_yes {l : List TokL} (h : wrE l = 0) : ∃ o, wrL l = some o ∧ wrF l = some (Lib.join o [32]) ∧ wrS l = Lib.join o [32] := by
  unfold wrE at h
  cases hw : wrF l with
  | none => rw [hw] at h; cases h
  | some x =>
    obtain ⟨o, ho, rfl⟩ := wr_some hw
    exact ⟨o, ho, rfl, (wrSE_some hw).1⟩
theorem join_at : ∀ (o : List Tx) (i : Nat), i < o.length → (Lib.join o [32]).drop (osz (o.take i)) = Lib.join (o.drop i) [32] ∧ osz (o.take i) + (o.getD i []).length ≤ (Lib.join o [32]).length
  | [], i, h => by simp at h
  | [x], i, h => by
    obtain rfl : i = 0 := by simp at h; omega
    rw [join_one']; exact ⟨by simp [osz, join_one'], by simp [osz]⟩
  | x :: y :: r, 0, _ => by
    rw [join_cons]; exact ⟨by simp [osz, join_cons], by simp [osz]⟩
  | x :: y :: r, i + 1, h => by
    have := join_at (y :: r) i (by simpa using h)
    rw [join_cons, List.take_succ_cons, osz, List.drop_succ_cons]
    refine ⟨?_, ?_⟩
    · rw [← this.1, show x.length + 1 + osz ((y :: r).take i) = x.length + (1 + osz ((y :: r).take i)) by omega, ← List.drop_drop, List.drop_left, Nat.add_comm 1, List.drop_succ_cons]
    · rw [List.length_append, List.length_cons]
      have h2 := this.2
      show x.length + 1 + osz ((y :: r).take i) + ((y :: r).getD i []).length ≤ _
      omega
theorem join_sub {o : List Tx} {i : Nat} (h : i < o.length) : ((Lib.join o [32]).drop (osz (o.take i))).take (o.getD i []).length = o.getD i [] := by
  rw [(join_at o i h).1]
  have e : o.drop i = o.getD i [] :: o.drop (i + 1) := by
    rw [List.drop_eq_getElem_cons h]; simp [List.getD, h]
  rw [e]
  cases o.drop (i + 1) with
  | nil => rw [join_one', List.take_length]
  | cons y r => rw [join_cons, List.take_left]
theorem osz_join {o : List Tx} (h : 0 < o.length) : osz o = (Lib.join o [32]).length + 1 := by
  induction o with
  | nil => simp at h
  | cons x r ih =>
    cases r with
    | nil => rw [join_one']; rfl
    | cons y q =>
      have := ih (by simp)
      rw [osz, this, join_cons, List.length_append, List.length_cons]; omega
theorem osz_take {o : List Tx} {i : Nat} (h : i < o.length) : osz (o.take (i + 1)) = osz (o.take i) + (o.getD i []).length + 1 := by
  have : o.take (i + 1) = o.take i ++ [o.getD i []] := by rw [List.take_add_one]; simp [List.getD, h]
  rw [this, osz_app, osz, osz]; omega
end Go.SK
namespace Go.SK
theorem wrF_one {t : TokL} {x : Tx} (h : wrT t = some x) : wrF [t] = some x := by
  have : wrL [t] = some [x] := by rw [wrL, h]; rfl
  rw [wrF_of this, join_one']
end Go.SK
namespace Go.SK
theorem wsz_mem {l : List TokL} {i : Nat} (h : i < l.length) : 4 * (l.getD i tok0).text.length + 3 ≤ wsz l := by
  induction l generalizing i with
  | nil => simp at h
  | cons t r ih =>
    cases i with
    | zero => show 4 * t.text.length + 3 ≤ _; rw [wsz]; omega
    | succ i =>
      have := ih (i := i) (by simpa using h)
      show 4 * (r.getD i tok0).text.length + 3 ≤ _
      rw [wsz]; omega
end Go.SK
namespace Go.SK
open Go Go.Proofs
open Go.RowKit
theorem R4law_LexForth (l : List TokL) (ao : Option Addr) (cp : Nat) (w : World) (hG : LxG.holds w) (hA0 : (Res.rs ao l.length 3 (l.flatMap tokC)).holds w) (hl : l.length ≤ 1099511627776) (hw : wsz l ≤ 1099511627776) : Ret Tryd.prog 9 #[.slice ao l.length cp] w (fun v w' => v = .bool true ∧ St w NoM [] [] w') := by
 refine Ret.enter (args := [.slice ao l.length cp]) Tryd.func9 rfl rfl rfl ?_
 have hst : St w NoM [] [LxG, Res.rs ao l.length 3 (l.flatMap tokC)] w := St.init_Ds (by simp only [List.forall_mem_cons]; exact ⟨hG, hA0, fun _ h => absurd h List.not_mem_nil⟩)
 refine SR <| AB rfl <| NSR <| ML rfl <| CN <| Op1.call1 (v1 := .slice _ _ _) ent23 rfl rfl <| Ret.det (R4lx_lWrite l _ _ _ (hst.hD _ (.head _)) (hst.hD _ (.tail _ (.head _))) hl hw) hst fun w hst => CN <| Op1.move (v := .tuple #[str _, .int .i64 _]) rfl <| CN <| Op1.extract (v := str _) rfl rfl <| CN <| Op1.extract (v := .int .i64 _) rfl rfl <| AS rfl <| AI rfl <| NL <| SQ ?_
 refine SR <| MI rfl <| CN <| Op1.neq rfl rfl <| NL <| run_cond_dec rfl (fun g1 => ?_) (fun g1 => ?_)
 · skip
   have hwn := wrSE_none (wrE_no g1)
   refine SR <| MS rfl <| CN <| Op1.eqlS rfl rfl <| MB rfl <| RunL.splitD (d := 21) rfl (fun g2 => ?_) (fun g2 => ?_)
   · skip
     refine TK (t := 21) rfl (congrArg Value.bool (decide_eq_true g2)) <| Op1.move (v := .int .i64 _) rfl <| TK (t := 21) rfl (congrArg Value.bool (decide_eq_true g2)) <| Op1.eql rfl rfl <| CN <| Op1.pickT (u := .bool _) (congrArg Value.bool (decide_eq_true g2)) rfl <| MB rfl <| RunL.splitD (d := 25) rfl (fun g3 => ?_) (fun g3 => ?_)
     · skip
       refine TK (t := 25) rfl (congrArg Value.bool (decide_eq_true g3)) (Op1.call0  ent17 rfl  ((R4lx_awake _ (hst.hD _ (.head _))).mono fun v w hp => ?_))
       obtain ⟨rfl, hp⟩ := hp
       replace hst := hst.keepc hp
       clear hp
       refine CN <| Op1.pickT (u := .bool _) (congrArg Value.bool (decide_eq_true g3)) rfl <| AB rfl <| NL <| run_ret1 Tryd.func9 rfl (TP (v := .bool _) rfl) ?_
       exact ⟨rfl, hst.pure⟩
     exfalso
     exact g3 hwn.2
   exfalso
   exact g2 hwn.1
 obtain ⟨o, ho, hwo, hso⟩ := wrE_yes (l := l) (by omega)
 have hol := (retok_len l o 0 ho).2
 have hrl := (retok_len l o 0 ho).1
 have hwl := wrF_len hwo
 have hsl : (wrS l).length = (Lib.join o [32]).length := by rw [hso]
 refine run_skip <| SR <| MS rfl <| CN (Op1.call1 (v1 := str _) ent15 rfl rfl ((R4lx_TokE (wrS l) (retok l o 0) 0 0 (by rw [hso]; exact forth_toks ho) _ (hst.hD _ (.head _)) (by omega)).mono fun v w hp => ?_))
 obtain ⟨ao_x1, cp_x1, rfl, hp⟩ := hp
 replace hst := hst.call0 hp
 clear hp
 refine CN <| Op1.move (v := .tuple #[.slice _ _ _, .agg #[.int .i64 _, .int .i64 _]]) rfl <| CN <| Op1.extract (v := .slice _ _ _) rfl rfl <| CN <| Op1.extract (v := .agg #[.int .i64 _, .int .i64 _]) rfl rfl <| CN <| Op1.alloc hst ty25 fun w b6 hst => AL rfl <| CN (SO (v := .agg #[.int .i64 _, .int .i64 _]) hst ty25 rfl rfl (.here) fun w hst => ?_)
 refine NL <| SQ <| SR <| CN <| Op1.fieldAddr fld25_0 rfl <| CN <| Op1.load1 (v := .int .i64 _) ty23 rfl rfl (hst.cellL (.head _) rfl) <| CN <| Op1.neq rfl rfl <| MB rfl <| RunL.splitD (d := 36) rfl (fun g4 => ?_) (fun g4 => ?_)
 · skip
   exfalso
   exact g4 rfl
 refine TK (t := 36) rfl (congrArg Value.bool (decide_eq_false g4)) <| Op1.move (v := .slice _ _ _) rfl <| TK (t := 36) rfl (congrArg Value.bool (decide_eq_false g4)) <| Op1.move (v := .slice _ _ _) rfl <| TK (t := 36) rfl (congrArg Value.bool (decide_eq_false g4)) (Op1.call2 (v1 := .slice _ _ _) (v2 := .slice _ _ _) ent24 rfl rfl rfl ((R4lx_alike _ _ _ _ _ _ _ (Res.rs_of_sl (hst.hL _ (.tail _ (.head _)))) (hst.hD _ (.tail _ (.head _))) (by omega)).mono fun v w hp => ?_))
 obtain ⟨rfl, hp⟩ := hp
 replace hst := hst.keepc hp
 clear hp
 refine TK (t := 36) rfl (congrArg Value.bool (decide_eq_false g4)) <| Op1.not rfl <| CN <| Op1.pickF (u := .bool _) (congrArg Value.bool (decide_eq_false g4)) rfl <| NL <| Run.forget [(0, .slice _ _ _), (3, str _), (5, .slice _ _ _), (41, .bool _)] ⟨rfl, rfl, rfl, rfl, trivial⟩ fun f => run_cond_split rfl (fun g5 => ?_) (fun g5 => ?_)
 · skip
   exfalso
   rw [retok_like 0 ho] at g5; cases g5
 refine run_skip <| SR <| AI rfl <| NL <| SQ <| SR <| AI rfl <| NL <| run_block <| run_loop <| Run.indW [(0, .slice _ _ _), (3, str _), (5, .slice _ _ _)] ⟨rfl, rfl, rfl, trivial⟩ (fun (qq : Nat) => [(7, .int .i64 ((osz (o.take qq) : Nat) : Int)), (8, .int .i64 (qq : Int))]) (fun (qq : Nat) => []) (fun (qq : Nat) => qq ≤ l.length) (fun (qq : Nat) => l.length - qq) (0) hst (Nat.zero_le _) ⟨rfl, rfl, trivial⟩ ?_
 intro i f w hst hJ ih6
 replace hst : St _ _ ([] ++ [_, _]) _ _ := hst
 replace hJ : i ≤ l.length := hJ
 refine Run.slots (sl := [(7, .int .i64 ((osz (o.take i) : Nat) : Int)), (8, .int .i64 (i : Int))]) ⟨rfl, rfl, trivial⟩ <| SQ <| SR <| MI rfl <| ML rfl <| CN <| Op1.lenSl (rest := []) ty22 rfl <| CN <| Op1.lss rfl rfl <| NL <| run_cond_dec rfl (fun g7 => ?_) (fun g7 => ?_)
 · skip
   have hrg := retok_get l o 0 i ho (by omega)
   have hja := (join_at o i (by omega)).2
   have hjs := join_sub (o := o) (i := i) (by omega)
   have hot := osz_take (o := o) (i := i) (by omega)
   have hwt := wr_len hrg.2
   have hone := wrF_one hrg.2
   have hws1 : wsz [l.getD i tok0] = 4 * (l.getD i tok0).text.length + 3 := rfl
   have hws2 : 4 * (l.getD i tok0).text.length + 3 ≤ wsz l := wsz_mem (by omega)
   refine run_skip <| SQ <| run_block <| SR <| CN <| Op1.makeSl (k := 1) (z0 := [.int .u8 0, str [], .int .i64 0]) hst ty22 ty30 rfl rfl rfl rfl (by kernel_rfl) fun w b48 hst => AL rfl <| NSR <| ML rfl <| ML rfl <| MI rfl <| CN <| Op1.indexRs ty22 ty30 (hst.hD _ (.tail _ (.head _))) rfl rfl (by omega) (by omega) <| CN (Op1.loadA (vs := [.int .u8 _, str _, .int .i64 _]) ty30 rfl rfl rfl (Res.rs2_cells (m := 3) (hst.hD _ (.tail _ (.head _))) _ (flat_seg (g := tokC) (d := tok0) tokC_len _ _ (by omega))) ?_)
   refine CN <| Op1.indexSl ty22 ty30 rfl rfl (by omega) (by omega) <| CN (SO (v := .agg #[.int .u8 _, str _, .int .i64 _]) hst ty30 rfl rfl (.here) fun w hst => ?_)
   refine NSR <| ML rfl <| CN <| Op1.call1 (v1 := .slice _ _ _) ent23 rfl rfl <| Ret.det (R4lx_WrE [l.getD i tok0] (o.getD i []) hone 1 rfl (some ⟨b48, 0, none⟩) 1 _ (hst.hD _ (.head _)) (Res.rs_of_row (n := 1) (es := 3) (hst.hL _ (.head _)) rfl) (by omega) (by omega)) hst fun w hst => CN <| Op1.move (v := .tuple #[str _, .int .i64 _]) rfl <| CN <| Op1.extract (v := str _) rfl rfl <| CN <| Op1.extract (v := .int .i64 _) rfl rfl <| AS rfl <| AI rfl <| NL <| Run.forget [(0, .slice _ _ _), (3, str _), (5, .slice _ _ _), (7, .int .i64 _), (8, .int .i64 _), (10, str _), (11, .int .i64 _)] ⟨rfl, rfl, rfl, rfl, rfl, rfl, rfl, trivial⟩ fun f => SQ <| SQ <| RG ?_
   refine MI rfl <| CN <| Op1.neq rfl rfl <| MB rfl <| RunL.splitD (d := 62) rfl (fun g8 => ?_) (fun g8 => ?_)
   · skip
     exfalso
     exact g8 rfl
   refine TK (t := 62) rfl (congrArg Value.bool (decide_eq_false g8)) <| Op1.move (v := .slice _ _ _) rfl <| TK (t := 62) rfl (congrArg Value.bool (decide_eq_false g8)) <| Op1.move (v := .int .i64 _) rfl <| TK (t := 62) rfl (congrArg Value.bool (decide_eq_false g8)) <| Op1.indexRs ty22 ty30 ((Res.rs_of_sl (hst.hL _ (.tail _ (.tail _ (.head _)))))) rfl rfl (by omega) (by omega) <| TK (t := 62) rfl (congrArg Value.bool (decide_eq_false g8)) <| Op1.fieldAddr fld30_2 rfl <| TK (t := 62) rfl (congrArg Value.bool (decide_eq_false g8)) <| Op1.load1 (v := .int .i64 _) ty3 rfl rfl (Res.rs2_cellF ((Res.rs_of_sl (hst.hL _ (.tail _ (.tail _ (.head _)))))) (flat_cell (g := tokC) (d := tok0) tokC_len rfl (by omega))) <| TK (t := 62) rfl (congrArg Value.bool (decide_eq_false g8)) <| Op1.move (v := .int .i64 _) rfl <| TK (t := 62) rfl (congrArg Value.bool (decide_eq_false g8)) <| Op1.neq rfl rfl <| CN <| Op1.pickF (u := .bool _) (congrArg Value.bool (decide_eq_false g8)) rfl <| MB rfl <| RunL.splitD (d := 71) rfl (fun g9 => ?_) (fun g9 => ?_)
   · skip
     exfalso
     exact g9 (by rw [show ((retok l o 0).getD ((i : Int).toNat) tok0) = _ from hrg.1]; simp)
   refine TK (t := 71) rfl (congrArg Value.bool (decide_eq_false g9)) <| Op1.move (v := str _) rfl <| TK (t := 71) rfl (congrArg Value.bool (decide_eq_false g9)) <| Op1.lenS (rest := []) ty9 rfl <| TK (t := 71) rfl (congrArg Value.bool (decide_eq_false g9)) <| Op1.move (v := .int .i64 _) rfl <| TK (t := 71) rfl (congrArg Value.bool (decide_eq_false g9)) <| Op1.move (v := str _) rfl <| TK (t := 71) rfl (congrArg Value.bool (decide_eq_false g9)) <| Op1.lenS (rest := []) ty9 rfl <| TK (t := 71) rfl (congrArg Value.bool (decide_eq_false g9)) <| Op1.addN rfl rfl rfl (wrap_i64 (by omega) (by omega)) <| TK (t := 71) rfl (congrArg Value.bool (decide_eq_false g9)) <| Op1.lss rfl rfl <| CN <| Op1.pickF (u := .bool _) (congrArg Value.bool (decide_eq_false g9)) rfl <| MB rfl <| RunL.splitD (d := 80) rfl (fun g10 => ?_) (fun g10 => ?_)
   · skip
     exfalso
     omega
   refine TK (t := 80) rfl (congrArg Value.bool (decide_eq_false g10)) <| Op1.move (v := str _) rfl <| TK (t := 80) rfl (congrArg Value.bool (decide_eq_false g10)) <| Op1.move (v := .int .i64 _) rfl <| TK (t := 80) rfl (congrArg Value.bool (decide_eq_false g10)) <| Op1.move (v := .int .i64 _) rfl <| TK (t := 80) rfl (congrArg Value.bool (decide_eq_false g10)) <| Op1.move (v := str _) rfl <| TK (t := 80) rfl (congrArg Value.bool (decide_eq_false g10)) <| Op1.lenS (rest := []) ty9 rfl <| TK (t := 80) rfl (congrArg Value.bool (decide_eq_false g10)) <| Op1.addN rfl rfl rfl (wrap_i64 (by omega) (by omega)) <| TK (t := 80) rfl (congrArg Value.bool (decide_eq_false g10)) <| Op1.sliceMid ty9 rfl rfl rfl (by omega) (by omega) (by omega) <| TK (t := 80) rfl (congrArg Value.bool (decide_eq_false g10)) <| Op1.move (v := str _) rfl <| TK (t := 80) rfl (congrArg Value.bool (decide_eq_false g10)) <| Op1.neqS rfl rfl <| CN <| Op1.pickF (u := .bool _) (congrArg Value.bool (decide_eq_false g10)) rfl <| NL <| Run.forget [(0, .slice _ _ _), (3, str _), (5, .slice _ _ _), (7, .int .i64 _), (8, .int .i64 _), (10, str _), (90, .bool _)] ⟨rfl, rfl, rfl, rfl, rfl, rfl, rfl, trivial⟩ fun f => run_cond_dec rfl (fun g11 => ?_) (fun g11 => ?_)
   · skip
     exfalso
     exact g11 (by rw [hso]; exact (congrArg (fun k => List.take k _) (by omega)).trans hjs)
   refine run_skip <| RG <| MI rfl <| MS rfl <| CN <| Op1.lenS (rest := []) ty9 rfl <| CN <| Op1.addN rfl rfl rfl (wrap_i64 (by omega) (by omega)) <| CN <| Op1.addN rfl rfl rfl (wrap_i64 (by omega) (by omega)) <| AI rfl <| NL <| run_inBlock <| RG <| MI rfl <| CN <| Op1.addN rfl rfl rfl (wrap_i64 (by omega) (by omega)) <| AI rfl <| NL ?_
   refine run_inLoop ?_
   replace hst := hst.pick (.cons (.there (.here)) (.cons (.there (.here)) .nil))
   exact ih6 (i + 1) _ w ((by omega)) hst ((by omega)) ⟨rfl, rfl, rfl, trivial⟩ ⟨(congrArg (Value.int .i64) (by omega)), (congrArg (Value.int .i64) (by omega)), trivial⟩
 have hfin : osz (o.take i) = osz o := by rw [List.take_of_length_le (by omega)]
 refine run_exit (id := 0) rfl <| SR <| ML rfl <| CN <| Op1.lenSl (rest := []) ty22 rfl <| CN <| Op1.eql rfl rfl <| MB rfl <| RunL.splitD (d := 99) rfl (fun g12 => ?_) (fun g12 => ?_)
 · skip
   refine TK (t := 99) rfl (congrArg Value.bool (decide_eq_true g12)) <| Op1.move (v := str _) rfl <| TK (t := 99) rfl (congrArg Value.bool (decide_eq_true g12)) <| Op1.eqlS rfl rfl <| CN <| Op1.pickT (u := .bool _) (congrArg Value.bool (decide_eq_true g12)) rfl <| MB rfl <| RunL.splitD (d := 103) rfl (fun g13 => ?_) (fun g13 => ?_)
   · skip
     refine OM (t := 103) rfl (congrArg Value.bool (decide_eq_true g13)) rfl <| OM (t := 103) rfl (congrArg Value.bool (decide_eq_true g13)) rfl <| OM (t := 103) rfl (congrArg Value.bool (decide_eq_true g13)) rfl <| OM (t := 103) rfl (congrArg Value.bool (decide_eq_true g13)) rfl <| OM (t := 103) rfl (congrArg Value.bool (decide_eq_true g13)) rfl <| CN <| Op1.pickT (u := .bool _) (congrArg Value.bool (decide_eq_true g13)) rfl <| MB rfl <| TK (t := 110) rfl (congrArg Value.bool (rfl : true = _)) (Op1.call0  ent17 rfl  ((R4lx_awake _ (hst.hD _ (.head _))).mono fun v w hp => ?_))
     obtain ⟨rfl, hp⟩ := hp
     replace hst := hst.keepc hp
     clear hp
     refine CN <| Op1.pickT (u := .bool _) (congrArg Value.bool (rfl : true = _)) rfl <| AB rfl <| NL <| run_ret1 Tryd.func9 rfl (TP (v := .bool _) rfl) ?_
     exact ⟨rfl, hst.pure⟩
   exfalso
   exact g13 (by rw [hso, List.length_eq_zero_iff.1 (show o.length = 0 by omega)]; rfl)
 refine OM (t := 99) rfl (congrArg Value.bool (decide_eq_false g12)) rfl <| OM (t := 99) rfl (congrArg Value.bool (decide_eq_false g12)) rfl <| CN <| Op1.pickF (u := .bool _) (congrArg Value.bool (decide_eq_false g12)) rfl <| MB rfl <| TK (t := 103) rfl (congrArg Value.bool (rfl : false = _)) <| Op1.move (v := .int .i64 _) rfl <| TK (t := 103) rfl (congrArg Value.bool (rfl : false = _)) <| Op1.move (v := str _) rfl <| TK (t := 103) rfl (congrArg Value.bool (rfl : false = _)) <| Op1.lenS (rest := []) ty9 rfl <| TK (t := 103) rfl (congrArg Value.bool (rfl : false = _)) <| Op1.addN rfl rfl rfl (wrap_i64 (by omega) (by omega)) <| TK (t := 103) rfl (congrArg Value.bool (rfl : false = _)) <| Op1.eql rfl rfl <| CN <| Op1.pickF (u := .bool _) (congrArg Value.bool (rfl : false = _)) rfl <| MB rfl <| RunL.splitD (d := 110) rfl (fun g14 => ?_) (fun g14 => ?_)
 · skip
   refine TK (t := 110) rfl (congrArg Value.bool (decide_eq_true g14)) (Op1.call0  ent17 rfl  ((R4lx_awake _ (hst.hD _ (.head _))).mono fun v w hp => ?_))
   obtain ⟨rfl, hp⟩ := hp
   replace hst := hst.keepc hp
   clear hp
   refine CN <| Op1.pickT (u := .bool _) (congrArg Value.bool (decide_eq_true g14)) rfl <| AB rfl <| NL <| run_ret1 Tryd.func9 rfl (TP (v := .bool _) rfl) ?_
   exact ⟨rfl, hst.pure⟩
 exfalso
 have hoj := osz_join (o := o) (by omega); omega
end Go.SK
