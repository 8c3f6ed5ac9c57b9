/-
  Steps of functions, plain law, and walks of functions: what the laws rest on.
-/
import Derived.Test.YtglmmdpeenckbaaGreatDoorSkH0c
import Derived.Test.YtglmmdpeenckbaaGreatDoorSkH1a
import Derived.Test.YtglmmdpeenckbaaGreatDoorSkH4a
set_option linter.unusedVariables false
set_option linter.unusedSimpArgs false
set_option linter.unusedSectionVars false
namespace Go.SK
open Go.RowKit
section
variable {P : Program} {ty : TypeId} {ρ : Operand → Value} {w : World} {C : Value → World → Prop} {T T2 : TypeId} {x y : Operand} {k : Nat} {xs ys : List Value} {b : Bool}
theorem zm0 (hx : ρ x = .agg xs.toArray) (hy : ρ y = .agg ys.toArray) (hg : P.eqGuardType P.depth T = false) (h : EqOk P k T (.agg xs.toArray) (.agg ys.toArray) b) (hc : C (.bool (!b)) w) (hk : Nat.ble k 10000 = true := by rfl) : Op1 P (.binOp .neq T x y T2) ty ρ w C := by
  refine zco (v := .bool (!b)) (w' := w) ?_ hc
  have hp : (program : Sem Program).run P w = .ok P w := rfl
  simp only [execOp, hx, hy, eqGuard, binOp]
  simp [Sem.run_bind, hp, hg, Result.andThen, zof h hk]
end
end Go.SK
namespace Go.SK
open Go.RowKit Go.ChangeShapes Go.WideShapes Go.ChangeAt
theorem InstP.L_eq {i j : InstP} : i.L = j.L ↔ i.op = j.op ∧ i.ty = j.ty ∧ i.res = j.res ∧ i.args = j.args := by
  simp [InstP.L]
theorem zck {p : Nat → Prop} {i : Nat} (h : ∀ j, j < i → p j) (hi : p i) : ∀ j, j < i + 1 → p j := fun j hj => by
  by_cases e : j = i
  · rw [e]; exact hi
  · exact h j Om
theorem zxr {a b : ArgP} : [decide (a.kind = b.kind), decide (a.n = b.n), decide (a.s = b.s)].all id = decide (a = b) := by
  cases a; cases b
  simp [ArgP.mk.injEq, Bool.and_assoc]
end Go.SK
namespace Go.SK
open Go Go.Proofs
theorem ent34 : zaN Tryz.prog 34 := ⟨Tryz.f34, _, Tryz.func34, Kr, rfl⟩
end Go.SK
namespace Go.SK
open Go Go.Proofs
open Go.RowKit
theorem zoM (p q : InstP) (w : World) (hA : (Res.rargs p).holds w) (hB : (Res.rargs q).holds w) (hl : p.args.length ≤ 9000000000000000000) : Ret Tryz.prog 34 #[.agg #[.int .u16 p.op, .int .u32 p.ty, .int .u32 p.res, .slice p.ao p.args.length p.cap], .agg #[.int .u16 q.op, .int .u32 q.ty, .int .u32 q.res, .slice q.ao q.args.length q.cap]] w (fun v w' => v = .bool (decide (p.L = q.L)) ∧ St w NoM [] [] w') := by
 refine zav (args := [.agg #[.int .u16 p.op, .int .u32 p.ty, .int .u32 p.res, .slice p.ao p.args.length p.cap], .agg #[.int .u16 q.op, .int .u32 q.ty, .int .u32 q.res, .slice q.ao q.args.length q.cap]]) Tryz.func34 rfl rfl rfl ?_
 have hst : St w NoM [] [Res.rargs p, Res.rargs q] w := St.init_Ds (fun d hd => by cases hd with | head => exact hA | tail _ hd => cases hd with | head => exact hB | tail _ h => cases h)
 clear hA hB
 refine SR <| CN <| zbi (v := zbb _ _ _ _ _ _) hst rfl rfl fun w b2 hst => CN <| zbi (v := zbb _ _ _ _ _ _) hst rfl rfl fun w b3 hst => AB rfl <| NL <| SQ <| SR <| CN <| zaa zdj rfl <| CN <| zae (v := .int .u16 _) zi4 rfl rfl (hst.cellL Q1 rfl) <| CN <| zaa zdj rfl <| CN <| zae (v := .int .u16 _) zi4 rfl rfl (hst.cellL Q0 rfl) <| CN <| zaW rfl rfl <| MB rfl ?_
 refine zan (d := 11) rfl (fun g1 => ?_) (fun g1 => ?_)
 ·refine OM (t := 11) rfl (Vb (Dt g1)) rfl <| OM (t := 11) rfl (Vb (Dt g1)) rfl <| OM (t := 11) rfl (Vb (Dt g1)) rfl <| OM (t := 11) rfl (Vb (Dt g1)) rfl <| OM (t := 11) rfl (Vb (Dt g1)) rfl <| CN <| zap (u := .bool _) (Vb (Dt g1)) rfl <| MB rfl <| OM (t := 18) rfl (Vb (rfl : true = _)) rfl <| OM (t := 18) rfl (Vb (rfl : true = _)) rfl <| OM (t := 18) rfl (Vb (rfl : true = _)) rfl <| OM (t := 18) rfl (Vb (rfl : true = _)) rfl <| OM (t := 18) rfl (Vb (rfl : true = _)) rfl <| CN <| zap (u := .bool _) (Vb (rfl : true = _)) rfl <| MB rfl <| OM (t := 25) rfl (Vb (rfl : true = _)) rfl ?_
  refine OM (t := 25) rfl (Vb (rfl : true = _)) rfl <| OM (t := 25) rfl (Vb (rfl : true = _)) rfl <| OM (t := 25) rfl (Vb (rfl : true = _)) rfl <| OM (t := 25) rfl (Vb (rfl : true = _)) rfl <| OM (t := 25) rfl (Vb (rfl : true = _)) rfl <| OM (t := 25) rfl (Vb (rfl : true = _)) rfl <| CN <| zap (u := .bool _) (Vb (rfl : true = _)) rfl <| NL <| zax (Vb (rfl : true = _)) <| SR <| AB rfl <| NL <| zah Tryz.func34 rfl (TP (v := .bool _) rfl) ?_
  exact ⟨Vb (Df (fun h => by obtain ⟨h1, h2, h3, h4⟩ := InstP.L_eq.1 h; exact g1 h1)).symm, hst.pure⟩
 refine TK (t := 11) rfl (Vb (Df g1)) <| zaa zdK rfl <| TK (t := 11) rfl (Vb (Df g1)) <| zae (v := .int .u32 _) zbt rfl rfl (hst.cellL Q1 rfl) <| TK (t := 11) rfl (Vb (Df g1)) <| zaa zdK rfl <| TK (t := 11) rfl (Vb (Df g1)) <| zae (v := .int .u32 _) zbt rfl rfl (hst.cellL Q0 rfl) <| TK (t := 11) rfl (Vb (Df g1)) <| zaW rfl rfl <| CN <| zaq (u := .bool _) (Vb (Df g1)) rfl <| MB rfl <| zan (d := 18) rfl (fun g2 => ?_) (fun g2 => ?_)
 ·refine OM (t := 18) rfl (Vb (Dt g2)) rfl <| OM (t := 18) rfl (Vb (Dt g2)) rfl <| OM (t := 18) rfl (Vb (Dt g2)) rfl <| OM (t := 18) rfl (Vb (Dt g2)) rfl <| OM (t := 18) rfl (Vb (Dt g2)) rfl <| CN <| zap (u := .bool _) (Vb (Dt g2)) rfl <| MB rfl <| OM (t := 25) rfl (Vb (rfl : true = _)) rfl <| OM (t := 25) rfl (Vb (rfl : true = _)) rfl <| OM (t := 25) rfl (Vb (rfl : true = _)) rfl <| OM (t := 25) rfl (Vb (rfl : true = _)) rfl <| OM (t := 25) rfl (Vb (rfl : true = _)) rfl <| OM (t := 25) rfl (Vb (rfl : true = _)) rfl <| OM (t := 25) rfl (Vb (rfl : true = _)) rfl <| CN (zap (u := .bool _) (Vb (rfl : true = _)) rfl ?_)
  refine NL <| zaj [(2, Pp _ _), (3, Pp _ _), (33, .bool _)] E3 fun f => zax (Vb (rfl : true = _)) <| SR <| AB rfl <| NL <| zah Tryz.func34 rfl (TP (v := .bool _) rfl) ?_
  exact ⟨Vb (Df (fun h => by obtain ⟨h1, h2, h3, h4⟩ := InstP.L_eq.1 h; exact g2 h2)).symm, hst.pure⟩
 refine TK (t := 18) rfl (Vb (Df g2)) <| zaa zeb rfl <| TK (t := 18) rfl (Vb (Df g2)) <| zae (v := .int .u32 _) zbt rfl rfl (hst.cellL Q1 rfl) <| TK (t := 18) rfl (Vb (Df g2)) <| zaa zeb rfl <| TK (t := 18) rfl (Vb (Df g2)) <| zae (v := .int .u32 _) zbt rfl rfl (hst.cellL Q0 rfl) <| TK (t := 18) rfl (Vb (Df g2)) <| zaW rfl rfl <| CN <| zaq (u := .bool _) (Vb (Df g2)) rfl <| MB rfl <| zan (d := 25) rfl (fun g3 => ?_) (fun g3 => ?_)
 ·refine OM (t := 25) rfl (Vb (Dt g3)) rfl <| OM (t := 25) rfl (Vb (Dt g3)) rfl <| OM (t := 25) rfl (Vb (Dt g3)) rfl <| OM (t := 25) rfl (Vb (Dt g3)) rfl <| OM (t := 25) rfl (Vb (Dt g3)) rfl <| OM (t := 25) rfl (Vb (Dt g3)) rfl <| OM (t := 25) rfl (Vb (Dt g3)) rfl <| CN <| zap (u := .bool _) (Vb (Dt g3)) rfl <| NL <| zaj [(2, Pp _ _), (3, Pp _ _), (33, .bool _)] E3 fun f => zax (Vb (rfl : true = _)) <| SR <| AB rfl <| NL ?_
  refine zah Tryz.func34 rfl (TP (v := .bool _) rfl) ?_
  exact ⟨Vb (Df (fun h => by obtain ⟨h1, h2, h3, h4⟩ := InstP.L_eq.1 h; exact g3 h3)).symm, hst.pure⟩
 refine TK (t := 25) rfl (Vb (Df g3)) <| zaa zbR rfl <| TK (t := 25) rfl (Vb (Df g3)) <| zae (v := .slice _ _ _) zdb rfl rfl (hst.cellL Q1 rfl) <| TK (t := 25) rfl (Vb (Df g3)) <| zaQ (rest := []) zdb rfl <| TK (t := 25) rfl (Vb (Df g3)) <| zaa zbR rfl <| TK (t := 25) rfl (Vb (Df g3)) <| zae (v := .slice _ _ _) zdb rfl rfl (hst.cellL Q0 rfl) <| TK (t := 25) rfl (Vb (Df g3)) <| zaQ (rest := []) zdb rfl <| TK (t := 25) rfl (Vb (Df g3)) <| zaW rfl rfl <| CN <| zaq (u := .bool _) (Vb (Df g3)) rfl <| NL <| zaj [(2, Pp _ _), (3, Pp _ _), (33, .bool _)] E3 fun f => zab rfl (fun g4 => ?_) (fun g4 => ?_)
 ·refine SR <| AB rfl <| NL <| zah Tryz.func34 rfl (TP (v := .bool _) rfl) ?_
  exact ⟨Vb (Df (fun h => by obtain ⟨h1, h2, h3, h4⟩ := InstP.L_eq.1 h; have := congrArg List.length h4; omega)).symm, hst.pure⟩
 refine zaf <| SQ <| SR <| AI rfl <| NL <| zao <| zaV <| zaU [(2, Pp _ _), (3, Pp _ _)] E2 (fun (i : Nat) => [(5, .int .i64 (i : Int))]) (fun (i : Nat) => []) (fun (i : Nat) => i ≤ p.args.length ∧ ∀ j, j < i → p.args.getD j zeroA = q.args.getD j zeroA) (fun (i : Nat) => p.args.length - i) (0) hst ⟨Nat.zero_le _, fun j hj => absurd hj Om⟩ ⟨rfl, trivial⟩ ?_
 intro i f w hst hJ ih5
 refine SQ <| SR <| MI rfl <| CN <| zaa zbR rfl <| CN <| zae (v := .slice _ _ _) zdb rfl rfl (hst.cellL Q1 rfl) <| CN <| zaQ (rest := []) zdb rfl <| CN <| zaS rfl rfl <| NL <| zab rfl (fun g6 => ?_) (fun g6 => ?_)
 ·refine zaf <| SQ <| zao <| SQ <| RunD.start [] hst (bs := [0, 1, 0, 7, 15, 0, 32, 0, 224, 480, 1023]) (ds := [some 41, some 42, some 43, some 44, some 45, some 46, some 47, some 48, some 49, some 50, some 51]) ⟨Kr, Kr, Kr⟩ (fun tab7 => ?_)
  refine DO tab7 1 (fun f' L' w' hc=> zaa zbR (hc.old (v := Pp _ _) rfl rfl rfl) hc.z) <| DO tab7 2 (fun f' L' w' hc=> zae (v := .slice _ _ _) zdb rfl (hc.d 0 rfl rfl rfl rfl) (hc.st.cellL (List.mem_append_right _ Q1) rfl) hc.z) <| DO tab7 3 (fun f' L' w' hc=> zad (v := .int .i64 _) (hc.old rfl rfl rfl) hc.z) <| DO tab7 4 (fun f' L' w' hc=> zaO zdb za9 (hc.st.hD _ Q0) (hc.d 1 rfl rfl rfl rfl) (hc.d 2 rfl rfl rfl rfl) Om Om hc.z) <| DO tab7 5 (fun f' L' w' hc=> zar (vs := zcX _ _ _) za9 rfl (hc.d 3 rfl rfl rfl rfl) rfl (Res.rs2_cells (m := 3) (hc.st.hD _ Q0) _ (zbG (g := zff) (d := zeroA) zcL _ _ Om)) hc.z) <| DO tab7 6 (fun f' L' w' hc=> zaa zbR (hc.old (v := Pp _ _) rfl rfl rfl) hc.z) <| DO tab7 7 (fun f' L' w' hc=> zae (v := .slice _ _ _) zdb rfl (hc.d 5 rfl rfl rfl rfl) (hc.st.cellL (List.mem_append_right _ Q0) rfl) hc.z) <| DO tab7 8 (fun f' L' w' hc=> zad (v := .int .i64 _) (hc.old rfl rfl rfl) hc.z) <| DO tab7 9 (fun f' L' w' hc=> zaO zdb za9 (hc.st.hD _ Q1) (hc.d 6 rfl rfl rfl rfl) (hc.d 7 rfl rfl rfl rfl) Om Om hc.z) <| DO tab7 10 (fun _ _ _ hc => zar (vs := zcX _ _ _) za9 rfl (hc.d 8 rfl rfl rfl rfl) rfl (Res.rs2_cells (m := 3) (hc.st.hD _ Q1) _ (zbG (g := zff) (d := zeroA) zcL _ _ Om)) hc.z) <| RunD.fin zaw tab7 hst rfl (fun f8 w R11 hs9 hd10 hr12 hst => ?_)
  obtain ⟨h41_, r0⟩ := hd10 0 41 rfl rfl
  obtain ⟨h42_, r1⟩ := hd10 1 42 rfl rfl
  obtain ⟨h43_, r2⟩ := hd10 2 43 rfl rfl
  obtain ⟨h44_, r3⟩ := hd10 3 44 rfl rfl
  obtain ⟨h45_, r4⟩ := hd10 4 45 rfl rfl
  obtain ⟨h46_, r5⟩ := hd10 5 46 rfl rfl
  obtain ⟨h47_, r6⟩ := hd10 6 47 rfl rfl
  obtain ⟨h48_, r7⟩ := hd10 7 48 rfl rfl
  obtain ⟨h49_, r8⟩ := hd10 8 49 rfl rfl
  obtain ⟨h50_, r9⟩ := hd10 9 50 rfl rfl
  simp only [zyh, Fc, Fn, Mc, Mn, r0, r1, r2, r3, r4, r5, r6, r7, r8, r9, Na, An, Ca] at hst
  refine zaD (sl := [(2, Pp _ _), (3, Pp _ _), (5, .int .i64 _), (45, zcy _ _ _), (50, zcy _ _ _)]) ⟨(hs9 2 rfl).trans rfl, (hs9 3 rfl).trans rfl, (hs9 5 rfl).trans rfl, h45_, h50_, trivial⟩ ?_
  clear hs9 hd10 hr12 tab7
  refine CN <| zm0 (xs := (zcX _ _ _)) (ys := (zcX _ _ _)) rfl rfl Kr (zcb Tryz.underlying110 Kr (.cons De (PartOk.one ty5 rfl rfl) (PartOk.one ty5 rfl rfl) (zbQ ty5) (.cons De (PartOk.one zbt rfl rfl) (PartOk.one zbt rfl rfl) (zbQ zbt) (.cons De (PartOk.one ty9 rfl rfl) (PartOk.one ty9 rfl rfl) (EqOk.str ty9) .nil)))) <| NL <| zaA rfl (fun g13 => ?_) (fun g13 => ?_)
  ·refine SR <| AB rfl <| NL <| zah Tryz.func34 rfl (TP (v := .bool _) rfl) ?_
   exact ⟨Vb (Df (fun h => by obtain ⟨h1, h2, h3, h4⟩ := InstP.L_eq.1 h; have hg := g13; rw [zxr, h4] at hg; simp at hg)).symm, hst.pure⟩
  refine zaf <| zam <| RG <| MI rfl <| CN <| zas rfl rfl rfl zbe <| AI rfl <| NL <| zay ?_
  exact ih5 (i + 1) _ w (by omega) hst (⟨by omega, zck hJ.2 (by have hg := g13; rw [zxr] at hg; simpa using hg)⟩) E2 ⟨(Vi (by omega)), trivial⟩
 refine zaJ (id := 0) rfl <| SR <| AB rfl <| NL <| zah Tryz.func34 rfl (TP (v := .bool _) rfl) ?_
 exact ⟨Vb (Dt (InstP.L_eq.2 ⟨Nn g1, Nn g2, Nn g3, zdS zeroA Om (fun j hj => hJ.2 j Om)⟩)).symm, hst.pure⟩
end Go.SK
