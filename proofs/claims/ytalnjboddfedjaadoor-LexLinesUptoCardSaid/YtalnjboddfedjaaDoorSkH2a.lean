/-
  Steps of functions, plain law, and walks of functions: what the laws rest on.
-/
import Derived.Test.YtalnjboddfedjaaDoorSkH0b
set_option linter.unusedVariables false
set_option linter.unusedSimpArgs false
set_option linter.unusedSectionVars false
namespace Go.SK
open Go.RowKit
section
variable {P : Program} {ty : TypeId} {ρ : Operand → Value} {w : World} {C : Value → World → Prop} {g : FuncId} {tys : Array TypeId}
variable {a1 a2 a3 a4 a5 : Operand} {v1 v2 v3 v4 v5 : Value}
variable {T : TypeId} {d : TypeDesc} {sz bytes : Nat} {zs : List Value} {k : IntKind} {a b : Int}
theorem Op1.sliceMid {x y z : Operand} {s : List UInt8} {k2 : IntKind} {a b : Int} (hT : TyF P T .string sz bytes zs) (hx : ρ x = str s) (hy : ρ y = .int k a) (hz : ρ z = .int k2 b) (h0 : 0 ≤ a) (h1 : a ≤ b) (h2 : b ≤ s.length)
    (hc : C (str ((s.drop a.toNat).take (b.toNat - a.toNat))) w) : Op1 P (.slice T x (some y) (some z) none) ty ρ w C := by
  refine Op1.of (v := str ((s.drop a.toNat).take (b.toNat - a.toNat))) (w' := w) ?_ hc
  have hs : (ByteArray.mk s.toArray).size = s.length := by simp [ByteArray.size]
  have h3 : 0 ≤ b := by omega
  have h4 : max b 0 = b := by omega
  simp [execOp, Instr.sliceAt, Instr.slice, Instr.sliceBounds, Instr.sliceBound, asIntOf, hx, hy, hz, str, Sem.run_bind, hT.run_und, Result.andThen, hs, extract_mk, h0, h1, h2, h3, h4]
end
end Go.SK
namespace Go.SK
open Go.RowKit Go.ChangeShapes Go.WideShapes Go.ChangeAt
theorem cell_int {P : Program} {w : World} {r : Reach} {base : Nat} {u : TypeId} {v : Value} {k : IntKind} (h : Cell.okWide P w r base u v) (hu : P.underlying u = some (.int k)) : ∃ n, v = .int k n ∧ k.has n := by
  simp only [Cell.okWide, hu] at h
  cases v <;> simp [Cell.ok, hu] at h
  obtain ⟨rfl, h⟩ := h
  exact ⟨_, rfl, h⟩
theorem val_cell {P : Program} {w : World} {r : Reach} {base : Nat} {u : TypeId} {v : Value} {d : TypeDesc} (h : Value.okWide P w r base u v) (hu : P.underlying u = some d) (hd : aggB d = false) : Cell.okWide P w r base u v := by
  simp only [Value.okWide, hu] at h
  cases d <;> simp [aggB] at hd <;> exact h
theorem has_i64 {n : Int} (h : IntKind.i64.has n) : -9223372036854775808 ≤ n ∧ n ≤ 9223372036854775807 := by
  simpa [IntKind.has, IntKind.min, IntKind.max, IntKind.signed, IntKind.bits] using h
end Go.SK
namespace Go.SK
open Go.RowKit
section
variable {P : Program} {fn n l : Nat} {k : List Item} {f : Nat → Value} {w0 w : World} {M : Nat → Prop} {L L' D : List Res} {C : Value → World → Prop} {lp : Loop}
theorem run_roundExit {id : Nat} (hx : exitTo id k = none) (hst : St w0 M L D w) (hs : Sel (Res.obj l (.loop lp)) (Res.obj l (.loop { lp with state := .done, pending := some (.exit id) })) L L') (h : ∀ w', St w0 M L' D w' → C (.bool false) w') :
    Run P (rbase fn n l) (.code (.exit id) :: k) f w (EndsRound P C) := fun cs => by
  have hh := hst.hL _ hs.mem
  simp only [Res.obj] at hh
  have hrun : (Instr.endRound l (some (.exit id))).run P w = .ok (.bool false) { w with heap := w.heap.setIfInBounds l (.loop { lp with state := .done, pending := some (.exit id) }) } := by
    simp only [Instr.endRound, Sem.run_bind, getLoop_run hh, Result.andThen, setObj_run hh (by simp)]
    rfl
  refine ⟨_, w, Steps.refl _ _, .bool false, _, h _ (hst.upd hs (Kept.put _ _ _) (by simpa [Res.obj] using putObj_get hh) (fun b hb => .inl hb)), fun caller cs => step_lone_go ?_⟩
  simp only [stepG, stepG.exec, Base.fr, rbase, hx, Option.elim, Sem.runT_eq, hrun, GStep.bare_after, doReturn]
  rfl
end
section
variable {P : Program} {fn n l : Nat} {k : List Item} {f : Nat → Value} {w0 w : World} {M : Nat → Prop} {L L' D : List Res} {C : Value → World → Prop} {lp : Loop} {fid n2 : Nat} {f2 : Nat → Value} {ps : List Tmp} {assign body : Code}
theorem run_exitR {id : Nat} (hx : exitTo id k = none) (hst : St w0 M L D w) (hs : Sel (Res.obj l (.loop (busyLp lp))) (Res.obj l (.loop (doneLp lp (.exit id)))) L L') (h : ∀ w', St w0 M L' D w' → C (.bool false) w') :
    Run P (rbase fn n l) (.code (.exit id) :: k) f w (EndsRound P C) := run_roundExit hx hst hs h
end
end Go.SK
namespace Go.SK
theorem St.addProp {w0 w : World} {M : Nat → Prop} {L D : List Res} {p : Prop} (h : St w0 M L D w) (hp : p) : St w0 M (Res.prop p :: L) D w :=
  h.push (Kept.refl _ _) hp (fun _ hf => hf.elim)
end Go.SK
namespace Go.SK
theorem strC_len (s : Tx) : (strC s).length = 1 := rfl
end Go.SK
namespace Go.SK
def lnI (t : Tx) (i k : Nat) (o : List Tx) : Prop := k ≤ i ∧ i ≤ t.length ∧ (∀ j, k ≤ j → j < i → (t.getD j 0).toNat ≠ 10) ∧ o.length ≤ i ∧ lnF t = o ++ lnF (t.drop k)
theorem lnI_start (t : Tx) : lnI t 0 0 [] := ⟨Nat.le_refl _, Nat.zero_le _, fun j _ h => absurd h (Nat.not_lt_zero _), Nat.le_refl _, rfl⟩
theorem lnI_line {t : Tx} {i k : Nat} {o : List Tx} (h : lnI t i k o) (hi : i < t.length) (h10 : (t.getD i 0).toNat = 10) : lnI t (i + 1) (i + 1) (o ++ [(t.drop k).take (i - k)]) := by
  refine ⟨Nat.le_refl _, hi, fun j h1 h2 => by omega, by rw [List.length_append, List.length_singleton]; have := h.2.2.2.1; omega, ?_⟩
  have hk := h.1
  have hc := cut_at (r := t.drop k) (k := i - k) (by rw [List.length_drop]; omega) (fun j hj => by rw [getD_drop]; exact h.2.2.1 _ (by omega) (by omega)) (by rw [getD_drop, show k + (i - k) = i by omega]; exact h10)
  rw [h.2.2.2.2, lnF_cons (by rw [List.length_drop]; omega), hc.1, hc.2, List.drop_drop, show k + (i - k + 1) = i + 1 by omega, List.append_assoc]; rfl
theorem lnI_next {t : Tx} {i k : Nat} {o : List Tx} (h : lnI t i k o) (hi : i < t.length) (h10 : ¬ (t.getD i 0).toNat = 10) : lnI t (i + 1) k o := by
  refine ⟨by have := h.1; omega, hi, fun j h1 h2 => ?_, by have := h.2.2.2.1; omega, h.2.2.2.2⟩
  rcases Nat.lt_or_ge j i with hj | hj
  · exact h.2.2.1 j h1 hj
  · obtain rfl : j = i := by omega
    exact h10
theorem lnI_last {t : Tx} {i k : Nat} {o : List Tx} (h : lnI t i k o) (hi : t.length ≤ i) (hk : k < t.length) : lnF t = o ++ [t.drop k] := by
  have hi2 := h.2.1
  have hc := cut_all (r := t.drop k) (fun j hj => by rw [List.length_drop] at hj; rw [getD_drop]; exact h.2.2.1 _ (by omega) (by omega))
  rw [h.2.2.2.2, lnF_cons (by rw [List.length_drop]; omega), hc.1, hc.2]; rfl
theorem lnI_end {t : Tx} {i k : Nat} {o : List Tx} (h : lnI t i k o) (hk : t.length ≤ k) : lnF t = o := by
  rw [h.2.2.2.2, lnF_nil (by rw [List.length_drop]; omega), List.append_nil]
end Go.SK
namespace Go.SK
open Go Go.Proofs
theorem ent28 : Enters Tryd.prog 28 := ⟨Tryd.f28, _, Tryd.func28, by kernel_rfl, rfl⟩
end Go.SK
namespace Go.SK
open Go Go.Proofs
open Go.RowKit
theorem R4lx_rLines (t : Tx) (w : World) (hl : t.length ≤ 1099511627776) : Ret Tryd.prog 28 #[str t] w (fun v w' => ∃ ao cp, v = .slice ao (lnF t).length cp ∧ St w NoM [Res.sl ao (lnF t).length cp 9 1 ((lnF t).flatMap strC)] [] w') := by
 refine Ret.enter (args := [str t]) Tryd.func28 rfl rfl rfl ?_
 have hst := St.init w
 refine SR <| AL rfl <| NSR <| AL rfl <| NSR <| AI rfl <| NL <| SQ <| SQ <| RG ?_
 refine AI rfl <| NL <| run_block <| run_loop ?_
 replace hst := hst.pushNil 9 1
 refine Run.indW [(0, str _)] ⟨rfl, trivial⟩ (fun (qq : Nat × Nat × List Tx × Option Addr × Nat) => [(3, .slice qq.2.2.2.1 qq.2.2.1.length qq.2.2.2.2), (4, .int .i64 (qq.2.1 : Int)), (5, .int .i64 (qq.1 : Int))]) (fun (qq : Nat × Nat × List Tx × Option Addr × Nat) => [Res.sl qq.2.2.2.1 qq.2.2.1.length qq.2.2.2.2 9 1 (qq.2.2.1.flatMap strC)]) (fun (qq : Nat × Nat × List Tx × Option Addr × Nat) => lnI t qq.1 qq.2.1 qq.2.2.1) (fun (qq : Nat × Nat × List Tx × Option Addr × Nat) => t.length - qq.1) ((0, 0, [], none, 0)) hst (lnI_start t) ⟨rfl, rfl, rfl, trivial⟩ ?_
 intro ⟨i, k, o, aq, cq⟩ f w hst hJ ih1
 replace hst : St _ _ ([Res.sl aq o.length cq 9 1 (o.flatMap strC)] ++ []) _ _ := hst
 replace hJ : lnI t i k o := hJ
 refine Run.slots (sl := [(3, .slice aq o.length cq), (4, .int .i64 (k : Int)), (5, .int .i64 (i : Int))]) ⟨rfl, rfl, rfl, trivial⟩ ?_
 have hidx : (t.getD ((i : Int).toNat) 0).toNat = (t.getD i 0).toNat := rfl
 have hj1 := hJ.1
 have hj2 := hJ.2.1
 have hj4 := hJ.2.2.2.1
 refine SQ <| SR <| MI rfl <| MS rfl <| CN <| Op1.lenS (rest := []) ty9 rfl <| CN <| Op1.lss rfl rfl <| NL <| run_cond_dec rfl (fun g2 => ?_) (fun g2 => ?_)
 · skip
   refine run_skip <| SQ <| run_block <| SR <| MS rfl <| MI rfl <| CN <| Op1.indexS ty9 rfl rfl (by omega) (by omega) <| CN <| Op1.eql rfl rfl <| NL <| run_cond_dec rfl (fun g3 => ?_) (fun g3 => ?_)
   · skip
     refine SR <| ML rfl <| MS rfl <| MI rfl <| MI rfl <| CN <| Op1.sliceMid ty9 rfl rfl rfl (by omega) (by omega) (by omega) <| CN (Op1.buildSl (z0 := [str []]) hst ty41 ty9 rfl rfl (by kernel_rfl) (.c (v := str _) rfl (h := .nil)) fun w b21 hst => ?_)
     refine CN (Op1.append (news := strC ((t.drop k).take (i - k))) hst ty41 ty9 rfl rfl (.there (.here)) rfl rfl rfl (cells_of_obj (n := 1) (hst.objL (.head _)) _ rfl) rfl rfl (by omega) fun w ao4 cp5 hst => ?_)
     replace hst := hst.drop (.there (.here))
     refine AL rfl <| NR <| MI rfl <| CN <| Op1.addN rfl rfl rfl (wrap_i64 (by omega) (by omega)) <| AI rfl <| NL <| run_inBlock <| Run.forget [(0, str _), (3, .slice _ _ _), (4, .int .i64 _), (5, .int .i64 _)] ⟨rfl, rfl, rfl, rfl, trivial⟩ fun f => RG <| MI rfl <| CN <| Op1.addN rfl rfl rfl (wrap_i64 (by omega) (by omega)) <| AI rfl <| NL <| run_inLoop ?_
     have hI := lnI_line hJ (by omega) (by omega)
     exact ih1 ((i + 1, i + 1, o ++ [(t.drop k).take (i - k)], ao4, cp5)) _ w ((by (try dsimp only); omega)) (by rw [List.length_append, List.flatMap_append]; exact hst) (hI) ⟨rfl, trivial⟩ ⟨(by simp only [List.length_append]; rfl), (congrArg (Value.int .i64) (by (try dsimp only); omega)), (congrArg (Value.int .i64) (by (try dsimp only); omega)), trivial⟩
   refine run_skip <| run_inBlock <| RG <| MI rfl <| CN <| Op1.addN rfl rfl rfl (wrap_i64 (by omega) (by omega)) <| AI rfl <| NL <| run_inLoop ?_
   have hI := lnI_next hJ (by omega) (by omega)
   exact ih1 ((i + 1, k, o, aq, cq)) _ w ((by (try dsimp only); omega)) hst (hI) ⟨rfl, trivial⟩ ⟨rfl, rfl, (congrArg (Value.int .i64) (by (try dsimp only); omega)), trivial⟩
 refine run_exit (id := 0) rfl <| SQ <| SR <| MI rfl <| MS rfl <| CN <| Op1.lenS (rest := []) ty9 rfl <| CN <| Op1.lss rfl rfl <| NL <| run_cond_dec rfl (fun g6 => ?_) (fun g6 => ?_)
 · skip
   refine RG <| ML rfl <| MS rfl <| MI rfl <| CN <| Op1.sliceFrom ty9 rfl rfl (by omega) (by omega) <| CN (Op1.buildSl (z0 := [str []]) hst ty41 ty9 rfl rfl (by kernel_rfl) (.c (v := str _) rfl (h := .nil)) fun w b33 hst => ?_)
   refine CN (Op1.append (news := strC (t.drop k)) hst ty41 ty9 rfl rfl (.there (.here)) rfl rfl rfl (cells_of_obj (n := 1) (hst.objL (.head _)) _ rfl) rfl rfl (by omega) fun w ao7 cp8 hst => ?_)
   replace hst := hst.drop (.there (.here))
   refine AL rfl <| NSR <| ML rfl <| AL rfl <| NL <| run_ret1 Tryd.func28 rfl (TP (v := .slice _ _ _) rfl) ?_
   replace hst := hst.pick (.cons (.here) .nil)
   rw [lnI_last hJ (by omega) (by omega)]
   exact ⟨ao7, cp8, (by simp only [List.length_append]; rfl), (by rw [List.length_append, List.flatMap_append]; exact hst.noD)⟩
 refine run_skip <| SR <| ML rfl <| AL rfl <| NL <| run_ret1 Tryd.func28 rfl (TP (v := .slice _ _ _) rfl) ?_
 replace hst := hst.pick (.cons (.here) .nil)
 rw [lnI_end hJ (by omega)]
 exact ⟨aq, cq, rfl, hst.noD⟩
theorem R4law_LexLines (s : Tx) (x : Int) (hx : -9223372036854775808 ≤ x ∧ x ≤ 9223372036854775807) (w : World) (hG : LxG.holds w) (hl : s.length ≤ 274877906943) : Ret Tryd.prog 12 #[str s, .int .i64 x] w (fun v w' => v = .bool true ∧ St w NoM [] [] w') := by
 refine Ret.enter (args := [str s, .int .i64 x]) Tryd.func12 rfl rfl rfl ?_
 have hst : St w NoM [] [LxG] w := St.init_Ds (by simp only [List.forall_mem_cons]; exact ⟨hG, fun _ h => absurd h List.not_mem_nil⟩)
 have hlnl := lines_len s
 refine SR <| CN <| Op1.box (v := .int .i64 _) hst rfl rfl fun w b3 hst => CN <| Op1.alloc hst ty4 fun w b4 hst => NSR <| MS rfl <| CN (Op1.call1 (v1 := str _) ent28 rfl rfl ((R4lx_rLines s _ (by omega)).mono fun v w hp => ?_))
 obtain ⟨ao_slX, cp_slX, rfl, hp⟩ := hp
 replace hst := hst.call0 hp
 clear hp
 refine CN <| Op1.alloc hst ty41 fun w b5 hst => CN (SO (v := .slice _ _ _) hst ty41 rfl rfl (.here) fun w hst => ?_)
 refine NSR <| MS rfl <| CN (Op1.call1 (v1 := str _) ent29 rfl rfl ((R4lx_lLines s _).mono fun v w hp => ?_))
 obtain ⟨bc, rfl, hp⟩ := hp
 replace hst := hst.call0 hp
 clear hp
 refine CN <| Op1.assign (v := .func _ _ _) rfl <| NL <| SQ <| SR <| CN <| Op1.move (v := .func _ _ _) rfl <| CN <| Op1.eqlFn (fn := _) (a := _) (b := _) ty48 rfl rfl <| NL <| run_cond_false (congrArg Value.bool (rfl : false = _)) <| run_skip <| SR <| CN <| Op1.alloc hst ty3 fun w b7 hst => CN (SO (v := .int .i64 _) hst ty3 rfl rfl (.here) fun w hst => ?_)
 refine NL <| SQ <| SR <| CN <| Op1.move (v := .func _ _ _) rfl <| NL <| run_block ?_
 replace hst := hst.addProp (p := (x ≤ 0 ∨ ((0 : Nat) : Int) < x)) (by omega)
 replace hst := hst.pick (.cons (.here) (.cons (.here) (.cons (.here) (.cons (.here) (.cons (.here) (.cons (.here) (.cons (.here) .nil)))))))
 refine run_rangeIter (L1 := [_, _]) (L2 := [_, _, _, _, _]) (item := (fun j => [.int .i64 ((j : Int) + 1), str ((lnF s).getD j [])])) (FD := (· = bc)) (fun i => [Res.prop (x ≤ 0 ∨ (i : Int) < x), Res.row b7 3 [.int .i64 (i : Int)]]) (fun i => [Res.prop ((i : Int) + 1 = x), Res.row b7 3 [.int .i64 ((i : Int) + 1)]]) (fun _ => .exit 0) hst rfl rfl ent46 (fun b hb => .inl (by subst hb; exact ⟨_, (.head _), rfl⟩)) (fun w1 hw1 => R4lx_lines_iter s (by omega) bc w1 (hw1.hL _ (.tail _ (.tail _ (.head _))))) (fun _ _ => rfl) ?_ ?_ ?_
 · intro i hi w bl br lp hlp hst hk
   have hprop : (x ≤ 0 ∨ (i : Int) < x) := hst.hL _ (.tail _ (.tail _ (.head _)))
   refine SR <| AI rfl <| NR <| AS rfl <| NL <| run_beginR hlp hst (.here) fun w hst => run_block <| SQ <| SR <| CN <| Op1.load1 (v := .int .i64 _) ty3 rfl rfl (hst.cellL (.tail _ (.tail _ (.tail _ (.head _)))) rfl) <| CN <| Op1.load1 (v := .slice _ _ _) ty41 rfl rfl (hst.cellD (.tail _ (.head _)) rfl) <| CN (Op1.lenSl (rest := []) ty41 rfl ?_)
   refine CN <| Op1.geq rfl rfl <| MB rfl <| RunL.splitD (d := 25) rfl (fun g1 => ?_) (fun g1 => ?_)
   · skip
     exfalso
     omega
   refine TK (t := 25) rfl (congrArg Value.bool (decide_eq_false g1)) <| Op1.move (v := .int .i64 _) rfl <| TK (t := 25) rfl (congrArg Value.bool (decide_eq_false g1)) <| Op1.load1 (v := .int .i64 _) ty3 rfl rfl (hst.cellL (.tail _ (.tail _ (.tail _ (.head _)))) rfl) <| TK (t := 25) rfl (congrArg Value.bool (decide_eq_false g1)) <| Op1.addN rfl rfl rfl (wrap_i64 (by omega) (by omega)) <| TK (t := 25) rfl (congrArg Value.bool (decide_eq_false g1)) <| Op1.neq rfl rfl <| CN <| Op1.pickF (u := .bool _) (congrArg Value.bool (decide_eq_false g1)) rfl <| MB rfl <| RunL.splitD (d := 31) rfl (fun g2 => ?_) (fun g2 => ?_)
   · skip
     exfalso
     exact g2 rfl
   refine TK (t := 31) rfl (congrArg Value.bool (decide_eq_false g2)) <| Op1.move (v := str _) rfl <| TK (t := 31) rfl (congrArg Value.bool (decide_eq_false g2)) <| Op1.load1 (v := .slice _ _ _) ty41 rfl rfl (hst.cellD (.tail _ (.head _)) rfl) <| TK (t := 31) rfl (congrArg Value.bool (decide_eq_false g2)) (Op1.load1 (v := .int .i64 _) ty3 rfl rfl (hst.cellL (.tail _ (.tail _ (.tail _ (.head _)))) rfl) ?_)
   obtain ⟨bs3, rfl⟩ := Res.sl_some (hst.hD _ (.tail _ (.tail _ (.head _)))) (by omega)
   refine TK (t := 31) rfl (congrArg Value.bool (decide_eq_false g2)) <| Op1.indexSl ty41 ty9 rfl rfl (by omega) (by omega) <| TK (t := 31) rfl (congrArg Value.bool (decide_eq_false g2)) <| Op1.load1 (v := str _) ty9 rfl rfl (Res.sl_cell (hst.hD _ (.tail _ (.tail _ (.head _)))) (flat_cell0 (g := strC) (d := []) strC_len rfl (by omega))) <| TK (t := 31) rfl (congrArg Value.bool (decide_eq_false g2)) <| Op1.neqS rfl rfl <| CN <| Op1.pickF (u := .bool _) (congrArg Value.bool (decide_eq_false g2)) rfl <| NL <| Run.forget [(3, .pointer (some ⟨_, _, none⟩)), (4, .pointer (some ⟨_, _, none⟩)), (7, .pointer (some ⟨_, _, none⟩)), (38, .bool _)] ⟨rfl, rfl, rfl, rfl, trivial⟩ fun f => run_cond_dec rfl (fun g4 => ?_) (fun g4 => ?_)
   · skip
     exfalso
     exact g4 rfl
   refine run_skip <| SR <| CN <| Op1.load1 (v := .int .i64 _) ty3 rfl rfl (hst.cellL (.tail _ (.tail _ (.tail _ (.head _)))) rfl) <| CN <| Op1.addN rfl rfl rfl (wrap_i64 (by omega) (by omega)) <| CN (SO (v := .int .i64 _) hst ty3 rfl rfl (.there (.there (.there (.here)))) fun w hst => ?_)
   refine NSR <| CN <| Op1.load1 (v := .int .i64 _) ty3 rfl rfl (hst.cellL (.tail _ (.tail _ (.tail _ (.head _)))) rfl) <| CN <| Op1.load1 (v := .int .i64 _) ty3 rfl rfl (hst.cellD (.tail _ (.tail _ (.tail _ (.tail _ (.head _))))) rfl) <| CN <| Op1.eql rfl rfl <| NL <| run_cond_dec rfl (fun g5 => ?_) (fun g5 => ?_)
   · skip
     refine run_exitR rfl hst (.here) fun w hst => ?_
     replace hst := hst.addProp (p := (i : Int) + 1 = x) (by omega)
     replace hst := hst.pick (.cons (.there (.here)) (.cons (.there (.here)) (.cons (.here) (.cons (.there (.here)) .nil))))
     exact .inr ⟨rfl, _, hst⟩
   refine run_skip <| run_inBlock <| run_endR hlp hst (.here) fun w hst => ?_
   replace hst := hst.addProp (p := (x ≤ 0 ∨ (((i + 1 : Nat) : Int) : Int) < x)) (by omega)
   replace hst := hst.pick (.cons (.there (.here)) (.cons (.there (.here)) (.cons (.here) (.cons (.there (.here)) .nil))))
   exact .inl ⟨rfl, _, hst⟩
 · intro w bl br lp hst
   have hall : (x ≤ 0 ∨ ((lnF s).length : Int) < x) := hst.hL _ (.tail _ (.tail _ (.head _)))
   refine run_inBlock <| SQ <| SR <| CN <| Op1.load1 (v := .int .i64 _) ty3 rfl rfl (hst.cellL (.tail _ (.tail _ (.tail _ (.head _)))) rfl) <| CN <| Op1.load1 (v := .slice _ _ _) ty41 rfl rfl (hst.cellL (.tail _ (.tail _ (.tail _ (.tail _ (.tail _ (.head _)))))) rfl) <| CN <| Op1.lenSl (rest := []) ty41 rfl <| CN <| Op1.neq rfl rfl <| MB rfl <| RunL.splitD (d := 48) rfl (fun g6 => ?_) (fun g6 => ?_)
   · skip
     refine TK (t := 48) rfl (congrArg Value.bool (decide_eq_true g6)) <| Op1.load1 (v := .int .i64 _) ty3 rfl rfl (hst.cellL (.tail _ (.tail _ (.tail _ (.head _)))) rfl) <| TK (t := 48) rfl (congrArg Value.bool (decide_eq_true g6)) <| Op1.load1 (v := .int .i64 _) ty3 rfl rfl (hst.cellL (.tail _ (.tail _ (.tail _ (.tail _ (.tail _ (.tail _ (.tail _ (.tail _ (.head _))))))))) rfl) <| TK (t := 48) rfl (congrArg Value.bool (decide_eq_true g6)) <| Op1.neq rfl rfl <| CN <| Op1.pickT (u := .bool _) (congrArg Value.bool (decide_eq_true g6)) rfl <| NL <| Run.forget [(4, .pointer (some ⟨_, _, none⟩)), (5, .pointer (some ⟨_, _, none⟩)), (6, .func _ _ _), (7, .pointer (some ⟨_, _, none⟩)), (52, .bool _)] ⟨rfl, rfl, rfl, rfl, rfl, trivial⟩ fun f => run_cond_dec rfl (fun g7 => ?_) (fun g7 => ?_)
     · skip
       exfalso
       omega
     refine run_skip <| SR <| CN (SO (v := .int .i64 _) hst ty3 rfl rfl (.there (.there (.there (.here)))) fun w hst => ?_)
     refine NL <| SQ <| SR <| CN <| Op1.move (v := .func _ _ _) rfl <| NL <| run_block ?_
     replace hst := hst.pick (.cons (.there (.there (.there (.here)))) (.cons (.here) (.cons (.here) (.cons (.here) (.cons (.here) (.cons (.here) (.cons (.here) (.cons (.here) (.cons (.here) .nil)))))))))
     refine run_rangeIter (L1 := [_]) (L2 := [_, _, _, _, _, _, _, _]) (item := (fun j => [.int .i64 ((j : Int) + 1), str ((lnF s).getD j [])])) (FD := (· = bc)) (fun i => [Res.row b7 3 [.int .i64 (i : Int)]]) (fun _ => [Res.prop False]) (fun _ => .exit 2) hst rfl rfl ent46 (fun b hb => .inl (by subst hb; exact ⟨_, (.tail _ (.tail _ (.tail _ (.head _)))), rfl⟩)) (fun w1 hw1 => R4lx_lines_iter s (by omega) bc w1 (hw1.hL _ (.tail _ (.tail _ (.tail _ (.tail _ (.head _))))))) (fun _ _ => rfl) ?_ ?_ ?_
     · intro j hj w bl2 br2 lp hlp hst hk
       refine SR <| AI rfl <| NR <| AS rfl <| NL <| run_beginR hlp hst (.here) fun w hst => run_block <| SQ <| SR <| CN <| Op1.load1 (v := .int .i64 _) ty3 rfl rfl (hst.cellL (.tail _ (.tail _ (.head _))) rfl) <| CN <| Op1.load1 (v := .slice _ _ _) ty41 rfl rfl (hst.cellD (.tail _ (.tail _ (.tail _ (.tail _ (.head _))))) rfl) <| CN (Op1.lenSl (rest := []) ty41 rfl ?_)
       refine CN <| Op1.geq rfl rfl <| MB rfl <| RunL.splitD (d := 60) rfl (fun g8 => ?_) (fun g8 => ?_)
       · skip
         exfalso
         omega
       refine TK (t := 60) rfl (congrArg Value.bool (decide_eq_false g8)) <| Op1.move (v := .int .i64 _) rfl <| TK (t := 60) rfl (congrArg Value.bool (decide_eq_false g8)) <| Op1.load1 (v := .int .i64 _) ty3 rfl rfl (hst.cellL (.tail _ (.tail _ (.head _))) rfl) <| TK (t := 60) rfl (congrArg Value.bool (decide_eq_false g8)) <| Op1.addN rfl rfl rfl (wrap_i64 (by omega) (by omega)) <| TK (t := 60) rfl (congrArg Value.bool (decide_eq_false g8)) <| Op1.neq rfl rfl <| CN <| Op1.pickF (u := .bool _) (congrArg Value.bool (decide_eq_false g8)) rfl <| MB rfl <| RunL.splitD (d := 66) rfl (fun g9 => ?_) (fun g9 => ?_)
       · skip
         exfalso
         exact g9 rfl
       refine TK (t := 66) rfl (congrArg Value.bool (decide_eq_false g9)) <| Op1.move (v := str _) rfl <| TK (t := 66) rfl (congrArg Value.bool (decide_eq_false g9)) <| Op1.load1 (v := .slice _ _ _) ty41 rfl rfl (hst.cellD (.tail _ (.tail _ (.tail _ (.tail _ (.head _))))) rfl) <| TK (t := 66) rfl (congrArg Value.bool (decide_eq_false g9)) (Op1.load1 (v := .int .i64 _) ty3 rfl rfl (hst.cellL (.tail _ (.tail _ (.head _))) rfl) ?_)
       obtain ⟨bs10, rfl⟩ := Res.sl_some (hst.hD _ (.tail _ (.tail _ (.tail _ (.tail _ (.tail _ (.head _))))))) (by omega)
       refine TK (t := 66) rfl (congrArg Value.bool (decide_eq_false g9)) <| Op1.indexSl ty41 ty9 rfl rfl (by omega) (by omega) <| TK (t := 66) rfl (congrArg Value.bool (decide_eq_false g9)) <| Op1.load1 (v := str _) ty9 rfl rfl (Res.sl_cell (hst.hD _ (.tail _ (.tail _ (.tail _ (.tail _ (.tail _ (.head _))))))) (flat_cell0 (g := strC) (d := []) strC_len rfl (by omega))) <| TK (t := 66) rfl (congrArg Value.bool (decide_eq_false g9)) <| Op1.neqS rfl rfl <| CN <| Op1.pickF (u := .bool _) (congrArg Value.bool (decide_eq_false g9)) rfl <| NL <| Run.forget [(4, .pointer (some ⟨_, _, none⟩)), (7, .pointer (some ⟨_, _, none⟩)), (73, .bool _)] ⟨rfl, rfl, rfl, trivial⟩ fun f => run_cond_dec rfl (fun g11 => ?_) (fun g11 => ?_)
       · skip
         exfalso
         exact g11 rfl
       refine run_skip <| RG <| CN <| Op1.load1 (v := .int .i64 _) ty3 rfl rfl (hst.cellL (.tail _ (.tail _ (.head _))) rfl) <| CN <| Op1.addN rfl rfl rfl (wrap_i64 (by omega) (by omega)) <| CN (SO (v := .int .i64 _) hst ty3 rfl rfl (.there (.there (.here))) fun w hst => ?_)
       refine NL <| run_inBlock <| run_endR hlp hst (.here) fun w hst => ?_
       replace hst := hst.pick (.cons (.here) (.cons (.here) (.cons (.here) .nil)))
       exact .inl ⟨rfl, _, hst⟩
     · intro w bl2 br2 lp hst
       refine run_inBlock <| SR <| CN <| Op1.load1 (v := .int .i64 _) ty3 rfl rfl (hst.cellL (.tail _ (.tail _ (.head _))) rfl) <| CN <| Op1.load1 (v := .slice _ _ _) ty41 rfl rfl (hst.cellL (.tail _ (.tail _ (.tail _ (.tail _ (.tail _ (.tail _ (.tail _ (.head _)))))))) rfl) <| CN <| Op1.lenSl (rest := []) ty41 rfl <| CN <| Op1.eql rfl rfl <| MB rfl <| RunL.splitD (d := 80) rfl (fun g12 => ?_) (fun g12 => ?_)
       · skip
         refine TK (t := 80) rfl (congrArg Value.bool (decide_eq_true g12)) (Op1.call0  ent17 rfl  ((R4lx_awake _ (hst.hD _ (.head _))).mono fun v w hp => ?_))
         obtain ⟨rfl, hp⟩ := hp
         replace hst := hst.keepc hp
         clear hp
         refine CN <| Op1.pickT (u := .bool _) (congrArg Value.bool (decide_eq_true g12)) rfl <| CN (SO (v := .bool _) hst ty4 rfl rfl (.there (.there (.there (.there (.there (.there (.there (.there (.there (.here)))))))))) fun w hst => ?_)
         refine NL ?_
         replace hst := hst.pick (.cons (.there (.here)) (.cons (.there (.there (.there (.here)))) (.cons (.here) (.cons (.here) (.cons (.here) (.cons (.here) (.cons (.here) (.cons (.here) (.cons (.here) (.cons (.here) (.cons (.here) .nil)))))))))))
         refine run_ret_marks [br2, br] Tryd.func12 hst fun w hst => ⟨_, res1 rfl (RV.cell1 (v := .bool _) rfl ty4 rfl (hst.cellL (.tail _ (.tail _ (.tail _ (.tail _ (.tail _ (.tail _ (.tail _ (.head _)))))))) rfl)), ?_⟩
         exact ⟨rfl, hst.pure⟩
       exfalso
       exact g12 rfl
     · intro j hj w bl2 br2 lp hst
       exact (hst.hL _ (.tail _ (.tail _ (.head _))) : False).elim
   refine OM (t := 48) rfl (congrArg Value.bool (decide_eq_false g6)) rfl <| OM (t := 48) rfl (congrArg Value.bool (decide_eq_false g6)) rfl <| OM (t := 48) rfl (congrArg Value.bool (decide_eq_false g6)) rfl <| CN <| Op1.pickF (u := .bool _) (congrArg Value.bool (decide_eq_false g6)) rfl <| NL <| run_cond_false (congrArg Value.bool (rfl : false = _)) <| run_skip <| SR <| CN (SO (v := .int .i64 _) hst ty3 rfl rfl (.there (.there (.there (.here)))) fun w hst => ?_)
   refine NL <| SQ <| SR <| CN <| Op1.move (v := .func _ _ _) rfl <| NL <| run_block ?_
   replace hst := hst.pick (.cons (.there (.there (.there (.here)))) (.cons (.here) (.cons (.here) (.cons (.here) (.cons (.here) (.cons (.here) (.cons (.here) (.cons (.here) (.cons (.here) .nil)))))))))
   refine run_rangeIter (L1 := [_]) (L2 := [_, _, _, _, _, _, _, _]) (item := (fun j => [.int .i64 ((j : Int) + 1), str ((lnF s).getD j [])])) (FD := (· = bc)) (fun i => [Res.row b7 3 [.int .i64 (i : Int)]]) (fun _ => [Res.prop False]) (fun _ => .exit 2) hst rfl rfl ent46 (fun b hb => .inl (by subst hb; exact ⟨_, (.tail _ (.tail _ (.tail _ (.head _)))), rfl⟩)) (fun w1 hw1 => R4lx_lines_iter s (by omega) bc w1 (hw1.hL _ (.tail _ (.tail _ (.tail _ (.tail _ (.head _))))))) (fun _ _ => rfl) ?_ ?_ ?_
   · intro j hj w bl2 br2 lp hlp hst hk
     refine Run.forget [(4, .pointer (some ⟨_, _, none⟩)), (5, .pointer (some ⟨_, _, none⟩)), (7, .pointer (some ⟨_, _, none⟩)), (54, .int .i64 _), (55, str _)] ⟨rfl, rfl, rfl, rfl, rfl, trivial⟩ fun f => SR <| AI rfl <| NR <| AS rfl <| NL <| run_beginR hlp hst (.here) fun w hst => run_block <| SQ <| SR <| CN <| Op1.load1 (v := .int .i64 _) ty3 rfl rfl (hst.cellL (.tail _ (.tail _ (.head _))) rfl) <| CN (Op1.load1 (v := .slice _ _ _) ty41 rfl rfl (hst.cellD (.tail _ (.tail _ (.tail _ (.tail _ (.head _))))) rfl) ?_)
     refine CN <| Op1.lenSl (rest := []) ty41 rfl <| CN <| Op1.geq rfl rfl <| MB rfl <| RunL.splitD (d := 60) rfl (fun g13 => ?_) (fun g13 => ?_)
     · skip
       exfalso
       omega
     refine TK (t := 60) rfl (congrArg Value.bool (decide_eq_false g13)) <| Op1.move (v := .int .i64 _) rfl <| TK (t := 60) rfl (congrArg Value.bool (decide_eq_false g13)) <| Op1.load1 (v := .int .i64 _) ty3 rfl rfl (hst.cellL (.tail _ (.tail _ (.head _))) rfl) <| TK (t := 60) rfl (congrArg Value.bool (decide_eq_false g13)) <| Op1.addN rfl rfl rfl (wrap_i64 (by omega) (by omega)) <| TK (t := 60) rfl (congrArg Value.bool (decide_eq_false g13)) <| Op1.neq rfl rfl <| CN <| Op1.pickF (u := .bool _) (congrArg Value.bool (decide_eq_false g13)) rfl <| MB rfl <| RunL.splitD (d := 66) rfl (fun g14 => ?_) (fun g14 => ?_)
     · skip
       exfalso
       exact g14 rfl
     refine TK (t := 66) rfl (congrArg Value.bool (decide_eq_false g14)) <| Op1.move (v := str _) rfl <| TK (t := 66) rfl (congrArg Value.bool (decide_eq_false g14)) <| Op1.load1 (v := .slice _ _ _) ty41 rfl rfl (hst.cellD (.tail _ (.tail _ (.tail _ (.tail _ (.head _))))) rfl) <| TK (t := 66) rfl (congrArg Value.bool (decide_eq_false g14)) (Op1.load1 (v := .int .i64 _) ty3 rfl rfl (hst.cellL (.tail _ (.tail _ (.head _))) rfl) ?_)
     obtain ⟨bs15, rfl⟩ := Res.sl_some (hst.hD _ (.tail _ (.tail _ (.tail _ (.tail _ (.tail _ (.head _))))))) (by omega)
     refine TK (t := 66) rfl (congrArg Value.bool (decide_eq_false g14)) <| Op1.indexSl ty41 ty9 rfl rfl (by omega) (by omega) <| TK (t := 66) rfl (congrArg Value.bool (decide_eq_false g14)) <| Op1.load1 (v := str _) ty9 rfl rfl (Res.sl_cell (hst.hD _ (.tail _ (.tail _ (.tail _ (.tail _ (.tail _ (.head _))))))) (flat_cell0 (g := strC) (d := []) strC_len rfl (by omega))) <| TK (t := 66) rfl (congrArg Value.bool (decide_eq_false g14)) <| Op1.neqS rfl rfl <| CN <| Op1.pickF (u := .bool _) (congrArg Value.bool (decide_eq_false g14)) rfl <| NL <| Run.forget [(4, .pointer (some ⟨_, _, none⟩)), (7, .pointer (some ⟨_, _, none⟩)), (73, .bool _)] ⟨rfl, rfl, rfl, trivial⟩ fun f => run_cond_dec rfl (fun g16 => ?_) (fun g16 => ?_)
     · skip
       exfalso
       exact g16 rfl
     refine run_skip <| RG <| CN <| Op1.load1 (v := .int .i64 _) ty3 rfl rfl (hst.cellL (.tail _ (.tail _ (.head _))) rfl) <| CN <| Op1.addN rfl rfl rfl (wrap_i64 (by omega) (by omega)) <| CN (SO (v := .int .i64 _) hst ty3 rfl rfl (.there (.there (.here))) fun w hst => ?_)
     refine NL <| run_inBlock <| run_endR hlp hst (.here) fun w hst => ?_
     replace hst := hst.pick (.cons (.here) (.cons (.here) (.cons (.here) .nil)))
     exact .inl ⟨rfl, _, hst⟩
   · intro w bl2 br2 lp hst
     refine run_inBlock <| Run.forget [(4, .pointer (some ⟨_, _, none⟩)), (5, .pointer (some ⟨_, _, none⟩)), (7, .pointer (some ⟨_, _, none⟩))] ⟨rfl, rfl, rfl, trivial⟩ fun f => SR <| CN <| Op1.load1 (v := .int .i64 _) ty3 rfl rfl (hst.cellL (.tail _ (.tail _ (.head _))) rfl) <| CN <| Op1.load1 (v := .slice _ _ _) ty41 rfl rfl (hst.cellL (.tail _ (.tail _ (.tail _ (.tail _ (.tail _ (.tail _ (.tail _ (.head _)))))))) rfl) <| CN <| Op1.lenSl (rest := []) ty41 rfl <| CN <| Op1.eql rfl rfl <| MB rfl <| RunL.splitD (d := 80) rfl (fun g17 => ?_) (fun g17 => ?_)
     · skip
       refine TK (t := 80) rfl (congrArg Value.bool (decide_eq_true g17)) (Op1.call0  ent17 rfl  ((R4lx_awake _ (hst.hD _ (.head _))).mono fun v w hp => ?_))
       obtain ⟨rfl, hp⟩ := hp
       replace hst := hst.keepc hp
       clear hp
       refine CN <| Op1.pickT (u := .bool _) (congrArg Value.bool (decide_eq_true g17)) rfl <| CN (SO (v := .bool _) hst ty4 rfl rfl (.there (.there (.there (.there (.there (.there (.there (.there (.there (.here)))))))))) fun w hst => ?_)
       refine NL ?_
       replace hst := hst.pick (.cons (.there (.here)) (.cons (.there (.there (.there (.here)))) (.cons (.here) (.cons (.here) (.cons (.here) (.cons (.here) (.cons (.here) (.cons (.here) (.cons (.here) (.cons (.here) (.cons (.here) .nil)))))))))))
       refine run_ret_marks [br2, br] Tryd.func12 hst fun w hst => ⟨_, res1 rfl (RV.cell1 (v := .bool _) rfl ty4 rfl (hst.cellL (.tail _ (.tail _ (.tail _ (.tail _ (.tail _ (.tail _ (.tail _ (.head _)))))))) rfl)), ?_⟩
       exact ⟨rfl, hst.pure⟩
     exfalso
     exact g17 rfl
   · intro j hj w bl2 br2 lp hst
     exact (hst.hL _ (.tail _ (.tail _ (.head _))) : False).elim
 · intro i hi w bl br lp hst
   have hs : (i : Int) + 1 = x := hst.hL _ (.tail _ (.tail _ (.head _)))
   refine run_exit (id := 0) rfl <| SQ <| SR <| CN <| Op1.load1 (v := .int .i64 _) ty3 rfl rfl (hst.cellL (.tail _ (.tail _ (.tail _ (.head _)))) rfl) <| CN <| Op1.load1 (v := .slice _ _ _) ty41 rfl rfl (hst.cellL (.tail _ (.tail _ (.tail _ (.tail _ (.tail _ (.head _)))))) rfl) <| CN <| Op1.lenSl (rest := []) ty41 rfl <| CN <| Op1.neq rfl rfl <| MB rfl <| RunL.splitD (d := 48) rfl (fun g18 => ?_) (fun g18 => ?_)
   · skip
     refine TK (t := 48) rfl (congrArg Value.bool (decide_eq_true g18)) <| Op1.load1 (v := .int .i64 _) ty3 rfl rfl (hst.cellL (.tail _ (.tail _ (.tail _ (.head _)))) rfl) <| TK (t := 48) rfl (congrArg Value.bool (decide_eq_true g18)) <| Op1.load1 (v := .int .i64 _) ty3 rfl rfl (hst.cellL (.tail _ (.tail _ (.tail _ (.tail _ (.tail _ (.tail _ (.tail _ (.tail _ (.head _))))))))) rfl) <| TK (t := 48) rfl (congrArg Value.bool (decide_eq_true g18)) <| Op1.neq rfl rfl <| CN <| Op1.pickT (u := .bool _) (congrArg Value.bool (decide_eq_true g18)) rfl <| NL <| Run.forget [(4, .pointer (some ⟨_, _, none⟩)), (5, .pointer (some ⟨_, _, none⟩)), (6, .func _ _ _), (7, .pointer (some ⟨_, _, none⟩)), (52, .bool _)] ⟨rfl, rfl, rfl, rfl, rfl, trivial⟩ fun f => run_cond_dec rfl (fun g19 => ?_) (fun g19 => ?_)
     · skip
       exfalso
       omega
     refine run_skip <| SR <| CN (SO (v := .int .i64 _) hst ty3 rfl rfl (.there (.there (.there (.here)))) fun w hst => ?_)
     refine NL <| SQ <| SR <| CN <| Op1.move (v := .func _ _ _) rfl <| NL <| run_block ?_
     replace hst := hst.pick (.cons (.there (.there (.there (.here)))) (.cons (.here) (.cons (.here) (.cons (.here) (.cons (.here) (.cons (.here) (.cons (.here) (.cons (.here) (.cons (.here) .nil)))))))))
     refine run_rangeIter (L1 := [_]) (L2 := [_, _, _, _, _, _, _, _]) (item := (fun j => [.int .i64 ((j : Int) + 1), str ((lnF s).getD j [])])) (FD := (· = bc)) (fun i => [Res.row b7 3 [.int .i64 (i : Int)]]) (fun _ => [Res.prop False]) (fun _ => .exit 2) hst rfl rfl ent46 (fun b hb => .inl (by subst hb; exact ⟨_, (.tail _ (.tail _ (.tail _ (.head _)))), rfl⟩)) (fun w1 hw1 => R4lx_lines_iter s (by omega) bc w1 (hw1.hL _ (.tail _ (.tail _ (.tail _ (.tail _ (.head _))))))) (fun _ _ => rfl) ?_ ?_ ?_
     · intro j hj w bl2 br2 lp hlp hst hk
       refine SR <| AI rfl <| NR <| AS rfl <| NL <| run_beginR hlp hst (.here) fun w hst => run_block <| SQ <| SR <| CN <| Op1.load1 (v := .int .i64 _) ty3 rfl rfl (hst.cellL (.tail _ (.tail _ (.head _))) rfl) <| CN <| Op1.load1 (v := .slice _ _ _) ty41 rfl rfl (hst.cellD (.tail _ (.tail _ (.tail _ (.tail _ (.head _))))) rfl) <| CN (Op1.lenSl (rest := []) ty41 rfl ?_)
       refine CN <| Op1.geq rfl rfl <| MB rfl <| RunL.splitD (d := 60) rfl (fun g20 => ?_) (fun g20 => ?_)
       · skip
         exfalso
         omega
       refine TK (t := 60) rfl (congrArg Value.bool (decide_eq_false g20)) <| Op1.move (v := .int .i64 _) rfl <| TK (t := 60) rfl (congrArg Value.bool (decide_eq_false g20)) <| Op1.load1 (v := .int .i64 _) ty3 rfl rfl (hst.cellL (.tail _ (.tail _ (.head _))) rfl) <| TK (t := 60) rfl (congrArg Value.bool (decide_eq_false g20)) <| Op1.addN rfl rfl rfl (wrap_i64 (by omega) (by omega)) <| TK (t := 60) rfl (congrArg Value.bool (decide_eq_false g20)) <| Op1.neq rfl rfl <| CN <| Op1.pickF (u := .bool _) (congrArg Value.bool (decide_eq_false g20)) rfl <| MB rfl <| RunL.splitD (d := 66) rfl (fun g21 => ?_) (fun g21 => ?_)
       · skip
         exfalso
         exact g21 rfl
       refine TK (t := 66) rfl (congrArg Value.bool (decide_eq_false g21)) <| Op1.move (v := str _) rfl <| TK (t := 66) rfl (congrArg Value.bool (decide_eq_false g21)) <| Op1.load1 (v := .slice _ _ _) ty41 rfl rfl (hst.cellD (.tail _ (.tail _ (.tail _ (.tail _ (.head _))))) rfl) <| TK (t := 66) rfl (congrArg Value.bool (decide_eq_false g21)) (Op1.load1 (v := .int .i64 _) ty3 rfl rfl (hst.cellL (.tail _ (.tail _ (.head _))) rfl) ?_)
       obtain ⟨bs22, rfl⟩ := Res.sl_some (hst.hD _ (.tail _ (.tail _ (.tail _ (.tail _ (.tail _ (.head _))))))) (by omega)
       refine TK (t := 66) rfl (congrArg Value.bool (decide_eq_false g21)) <| Op1.indexSl ty41 ty9 rfl rfl (by omega) (by omega) <| TK (t := 66) rfl (congrArg Value.bool (decide_eq_false g21)) <| Op1.load1 (v := str _) ty9 rfl rfl (Res.sl_cell (hst.hD _ (.tail _ (.tail _ (.tail _ (.tail _ (.tail _ (.head _))))))) (flat_cell0 (g := strC) (d := []) strC_len rfl (by omega))) <| TK (t := 66) rfl (congrArg Value.bool (decide_eq_false g21)) <| Op1.neqS rfl rfl <| CN <| Op1.pickF (u := .bool _) (congrArg Value.bool (decide_eq_false g21)) rfl <| NL <| Run.forget [(4, .pointer (some ⟨_, _, none⟩)), (7, .pointer (some ⟨_, _, none⟩)), (73, .bool _)] ⟨rfl, rfl, rfl, trivial⟩ fun f => run_cond_dec rfl (fun g23 => ?_) (fun g23 => ?_)
       · skip
         exfalso
         exact g23 rfl
       refine run_skip <| RG <| CN <| Op1.load1 (v := .int .i64 _) ty3 rfl rfl (hst.cellL (.tail _ (.tail _ (.head _))) rfl) <| CN <| Op1.addN rfl rfl rfl (wrap_i64 (by omega) (by omega)) <| CN (SO (v := .int .i64 _) hst ty3 rfl rfl (.there (.there (.here))) fun w hst => ?_)
       refine NL <| run_inBlock <| run_endR hlp hst (.here) fun w hst => ?_
       replace hst := hst.pick (.cons (.here) (.cons (.here) (.cons (.here) .nil)))
       exact .inl ⟨rfl, _, hst⟩
     · intro w bl2 br2 lp hst
       refine run_inBlock <| SR <| CN <| Op1.load1 (v := .int .i64 _) ty3 rfl rfl (hst.cellL (.tail _ (.tail _ (.head _))) rfl) <| CN <| Op1.load1 (v := .slice _ _ _) ty41 rfl rfl (hst.cellL (.tail _ (.tail _ (.tail _ (.tail _ (.tail _ (.tail _ (.tail _ (.head _)))))))) rfl) <| CN <| Op1.lenSl (rest := []) ty41 rfl <| CN <| Op1.eql rfl rfl <| MB rfl <| RunL.splitD (d := 80) rfl (fun g24 => ?_) (fun g24 => ?_)
       · skip
         refine TK (t := 80) rfl (congrArg Value.bool (decide_eq_true g24)) (Op1.call0  ent17 rfl  ((R4lx_awake _ (hst.hD _ (.head _))).mono fun v w hp => ?_))
         obtain ⟨rfl, hp⟩ := hp
         replace hst := hst.keepc hp
         clear hp
         refine CN <| Op1.pickT (u := .bool _) (congrArg Value.bool (decide_eq_true g24)) rfl <| CN (SO (v := .bool _) hst ty4 rfl rfl (.there (.there (.there (.there (.there (.there (.there (.there (.there (.here)))))))))) fun w hst => ?_)
         refine NL ?_
         replace hst := hst.pick (.cons (.there (.here)) (.cons (.there (.there (.there (.here)))) (.cons (.here) (.cons (.here) (.cons (.here) (.cons (.here) (.cons (.here) (.cons (.here) (.cons (.here) (.cons (.here) (.cons (.here) .nil)))))))))))
         refine run_ret_marks [br2, br] Tryd.func12 hst fun w hst => ⟨_, res1 rfl (RV.cell1 (v := .bool _) rfl ty4 rfl (hst.cellL (.tail _ (.tail _ (.tail _ (.tail _ (.tail _ (.tail _ (.tail _ (.head _)))))))) rfl)), ?_⟩
         exact ⟨rfl, hst.pure⟩
       exfalso
       exact g24 rfl
     · intro j hj w bl2 br2 lp hst
       exact (hst.hL _ (.tail _ (.tail _ (.head _))) : False).elim
   refine OM (t := 48) rfl (congrArg Value.bool (decide_eq_false g18)) rfl <| OM (t := 48) rfl (congrArg Value.bool (decide_eq_false g18)) rfl <| OM (t := 48) rfl (congrArg Value.bool (decide_eq_false g18)) rfl <| CN <| Op1.pickF (u := .bool _) (congrArg Value.bool (decide_eq_false g18)) rfl <| NL <| run_cond_false (congrArg Value.bool (rfl : false = _)) <| run_skip <| SR <| CN (SO (v := .int .i64 _) hst ty3 rfl rfl (.there (.there (.there (.here)))) fun w hst => ?_)
   refine NL <| SQ <| SR <| CN <| Op1.move (v := .func _ _ _) rfl <| NL <| run_block ?_
   replace hst := hst.pick (.cons (.there (.there (.there (.here)))) (.cons (.here) (.cons (.here) (.cons (.here) (.cons (.here) (.cons (.here) (.cons (.here) (.cons (.here) (.cons (.here) .nil)))))))))
   refine run_rangeIter (L1 := [_]) (L2 := [_, _, _, _, _, _, _, _]) (item := (fun j => [.int .i64 ((j : Int) + 1), str ((lnF s).getD j [])])) (FD := (· = bc)) (fun i => [Res.row b7 3 [.int .i64 (i : Int)]]) (fun _ => [Res.prop False]) (fun _ => .exit 2) hst rfl rfl ent46 (fun b hb => .inl (by subst hb; exact ⟨_, (.tail _ (.tail _ (.tail _ (.head _)))), rfl⟩)) (fun w1 hw1 => R4lx_lines_iter s (by omega) bc w1 (hw1.hL _ (.tail _ (.tail _ (.tail _ (.tail _ (.head _))))))) (fun _ _ => rfl) ?_ ?_ ?_
   · intro j hj w bl2 br2 lp hlp hst hk
     refine Run.forget [(4, .pointer (some ⟨_, _, none⟩)), (5, .pointer (some ⟨_, _, none⟩)), (7, .pointer (some ⟨_, _, none⟩)), (54, .int .i64 _), (55, str _)] ⟨rfl, rfl, rfl, rfl, rfl, trivial⟩ fun f => SR <| AI rfl <| NR <| AS rfl <| NL <| run_beginR hlp hst (.here) fun w hst => run_block <| SQ <| SR <| CN <| Op1.load1 (v := .int .i64 _) ty3 rfl rfl (hst.cellL (.tail _ (.tail _ (.head _))) rfl) <| CN (Op1.load1 (v := .slice _ _ _) ty41 rfl rfl (hst.cellD (.tail _ (.tail _ (.tail _ (.tail _ (.head _))))) rfl) ?_)
     refine CN <| Op1.lenSl (rest := []) ty41 rfl <| CN <| Op1.geq rfl rfl <| MB rfl <| RunL.splitD (d := 60) rfl (fun g25 => ?_) (fun g25 => ?_)
     · skip
       exfalso
       omega
     refine TK (t := 60) rfl (congrArg Value.bool (decide_eq_false g25)) <| Op1.move (v := .int .i64 _) rfl <| TK (t := 60) rfl (congrArg Value.bool (decide_eq_false g25)) <| Op1.load1 (v := .int .i64 _) ty3 rfl rfl (hst.cellL (.tail _ (.tail _ (.head _))) rfl) <| TK (t := 60) rfl (congrArg Value.bool (decide_eq_false g25)) <| Op1.addN rfl rfl rfl (wrap_i64 (by omega) (by omega)) <| TK (t := 60) rfl (congrArg Value.bool (decide_eq_false g25)) <| Op1.neq rfl rfl <| CN <| Op1.pickF (u := .bool _) (congrArg Value.bool (decide_eq_false g25)) rfl <| MB rfl <| RunL.splitD (d := 66) rfl (fun g26 => ?_) (fun g26 => ?_)
     · skip
       exfalso
       exact g26 rfl
     refine TK (t := 66) rfl (congrArg Value.bool (decide_eq_false g26)) <| Op1.move (v := str _) rfl <| TK (t := 66) rfl (congrArg Value.bool (decide_eq_false g26)) <| Op1.load1 (v := .slice _ _ _) ty41 rfl rfl (hst.cellD (.tail _ (.tail _ (.tail _ (.tail _ (.head _))))) rfl) <| TK (t := 66) rfl (congrArg Value.bool (decide_eq_false g26)) (Op1.load1 (v := .int .i64 _) ty3 rfl rfl (hst.cellL (.tail _ (.tail _ (.head _))) rfl) ?_)
     obtain ⟨bs27, rfl⟩ := Res.sl_some (hst.hD _ (.tail _ (.tail _ (.tail _ (.tail _ (.tail _ (.head _))))))) (by omega)
     refine TK (t := 66) rfl (congrArg Value.bool (decide_eq_false g26)) <| Op1.indexSl ty41 ty9 rfl rfl (by omega) (by omega) <| TK (t := 66) rfl (congrArg Value.bool (decide_eq_false g26)) <| Op1.load1 (v := str _) ty9 rfl rfl (Res.sl_cell (hst.hD _ (.tail _ (.tail _ (.tail _ (.tail _ (.tail _ (.head _))))))) (flat_cell0 (g := strC) (d := []) strC_len rfl (by omega))) <| TK (t := 66) rfl (congrArg Value.bool (decide_eq_false g26)) <| Op1.neqS rfl rfl <| CN <| Op1.pickF (u := .bool _) (congrArg Value.bool (decide_eq_false g26)) rfl <| NL <| Run.forget [(4, .pointer (some ⟨_, _, none⟩)), (7, .pointer (some ⟨_, _, none⟩)), (73, .bool _)] ⟨rfl, rfl, rfl, trivial⟩ fun f => run_cond_dec rfl (fun g28 => ?_) (fun g28 => ?_)
     · skip
       exfalso
       exact g28 rfl
     refine run_skip <| RG <| CN <| Op1.load1 (v := .int .i64 _) ty3 rfl rfl (hst.cellL (.tail _ (.tail _ (.head _))) rfl) <| CN <| Op1.addN rfl rfl rfl (wrap_i64 (by omega) (by omega)) <| CN (SO (v := .int .i64 _) hst ty3 rfl rfl (.there (.there (.here))) fun w hst => ?_)
     refine NL <| run_inBlock <| run_endR hlp hst (.here) fun w hst => ?_
     replace hst := hst.pick (.cons (.here) (.cons (.here) (.cons (.here) .nil)))
     exact .inl ⟨rfl, _, hst⟩
   · intro w bl2 br2 lp hst
     refine run_inBlock <| Run.forget [(4, .pointer (some ⟨_, _, none⟩)), (5, .pointer (some ⟨_, _, none⟩)), (7, .pointer (some ⟨_, _, none⟩))] ⟨rfl, rfl, rfl, trivial⟩ fun f => SR <| CN <| Op1.load1 (v := .int .i64 _) ty3 rfl rfl (hst.cellL (.tail _ (.tail _ (.head _))) rfl) <| CN <| Op1.load1 (v := .slice _ _ _) ty41 rfl rfl (hst.cellL (.tail _ (.tail _ (.tail _ (.tail _ (.tail _ (.tail _ (.tail _ (.head _)))))))) rfl) <| CN <| Op1.lenSl (rest := []) ty41 rfl <| CN <| Op1.eql rfl rfl <| MB rfl <| RunL.splitD (d := 80) rfl (fun g29 => ?_) (fun g29 => ?_)
     · skip
       refine TK (t := 80) rfl (congrArg Value.bool (decide_eq_true g29)) (Op1.call0  ent17 rfl  ((R4lx_awake _ (hst.hD _ (.head _))).mono fun v w hp => ?_))
       obtain ⟨rfl, hp⟩ := hp
       replace hst := hst.keepc hp
       clear hp
       refine CN <| Op1.pickT (u := .bool _) (congrArg Value.bool (decide_eq_true g29)) rfl <| CN (SO (v := .bool _) hst ty4 rfl rfl (.there (.there (.there (.there (.there (.there (.there (.there (.there (.here)))))))))) fun w hst => ?_)
       refine NL ?_
       replace hst := hst.pick (.cons (.there (.here)) (.cons (.there (.there (.there (.here)))) (.cons (.here) (.cons (.here) (.cons (.here) (.cons (.here) (.cons (.here) (.cons (.here) (.cons (.here) (.cons (.here) (.cons (.here) .nil)))))))))))
       refine run_ret_marks [br2, br] Tryd.func12 hst fun w hst => ⟨_, res1 rfl (RV.cell1 (v := .bool _) rfl ty4 rfl (hst.cellL (.tail _ (.tail _ (.tail _ (.tail _ (.tail _ (.tail _ (.tail _ (.head _)))))))) rfl)), ?_⟩
       exact ⟨rfl, hst.pure⟩
     exfalso
     exact g29 rfl
   · intro j hj w bl2 br2 lp hst
     exact (hst.hL _ (.tail _ (.tail _ (.head _))) : False).elim
end Go.SK
