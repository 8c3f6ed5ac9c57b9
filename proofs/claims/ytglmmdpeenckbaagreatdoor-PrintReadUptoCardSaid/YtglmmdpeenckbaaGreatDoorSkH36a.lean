/-
  Steps of functions, plain law, and walks of functions: what the laws rest on.
-/
import Derived.Test.YtglmmdpeenckbaaGreatDoorSkH0c
import Derived.Test.YtglmmdpeenckbaaGreatDoorSkH1a
import Derived.Test.YtglmmdpeenckbaaGreatDoorSkH2a
import Derived.Test.YtglmmdpeenckbaaGreatDoorSkH3a
import Derived.Test.YtglmmdpeenckbaaGreatDoorSkH4a
import Derived.Test.YtglmmdpeenckbaaGreatDoorSkH5a
import Derived.Test.YtglmmdpeenckbaaGreatDoorSkH6a
import Derived.Test.YtglmmdpeenckbaaGreatDoorSkH7a
import Derived.Test.YtglmmdpeenckbaaGreatDoorSkH8a
import Derived.Test.YtglmmdpeenckbaaGreatDoorSkH9a
import Derived.Test.YtglmmdpeenckbaaGreatDoorSkH10a
import Derived.Test.YtglmmdpeenckbaaGreatDoorSkH11a
import Derived.Test.YtglmmdpeenckbaaGreatDoorSkH12a
import Derived.Test.YtglmmdpeenckbaaGreatDoorSkH13a
import Derived.Test.YtglmmdpeenckbaaGreatDoorSkH14a
import Derived.Test.YtglmmdpeenckbaaGreatDoorSkH16a
import Derived.Test.YtglmmdpeenckbaaGreatDoorSkH17a
import Derived.Test.YtglmmdpeenckbaaGreatDoorSkH23a
import Derived.Test.YtglmmdpeenckbaaGreatDoorSkH25a
set_option linter.unusedVariables false
set_option linter.unusedSimpArgs false
set_option linter.unusedSectionVars false
namespace Go.SK
theorem zsS {P : Program} {ty : TypeId} {ρ : Operand → Value} {w : World} {C : Value → World → Prop} {S i : Nat} {x : Operand} {fs : Array Field} {fd : Field} {cs : List Value} {v : Value} (hu : P.underlying S = some (.struct fs)) (hf : fs[i]? = some fd) (hx : ρ x = .agg cs.toArray) (hp : PartOk P fd.type cs fd.offset v) (h : C v w) : Op1 P (.field S x i) ty ρ w C := by
  refine Inv.value (v := v) (w' := w) ?_ h
  simp only [execOp, Instr.field, hx, Sem.run_bind, run_underlying hu, Result.andThen, hf]
  have := hp w
  simp [asAgg, Sem.run_bind, this, Result.andThen]
end Go.SK
namespace Go.SK
open Go Go.Proofs
open Go.RowKit
theorem zuR (gn bd : Int) (l : List InstP) (ao : Option Addr) (cp : Nat) (w : World) (hG : LxG.holds w) (hA0 : (Res.rmod ao l).holds w) (hs : Small l) (hu : ∀ x ∈ l, x.L.U32) (hgn : 0 ≤ gn ∧ gn < 4294967296) (hbd : 0 ≤ bd ∧ bd < 4294967296) : Ret Tryz.prog 14 #[.agg #[.int .u32 gn, .int .u32 bd, .slice ao l.length cp]] w (fun v w' => v = .bool true ∧ St w NoM [] [] w') := by
 refine zav (args := [.agg #[.int .u32 gn, .int .u32 bd, .slice ao l.length cp]]) Tryz.func14 rfl rfl rfl ?_
 have hst : St w NoM [] [LxG, Res.rmod ao l] w := St.init_Ds (by simp only [List.forall_mem_cons]; exact ⟨hG, hA0, fun _ h => absurd h List.not_mem_nil⟩)
 obtain ⟨tx, se, sa, hT⟩ : ∃ tx se sa, zc9 gn bd (l.map InstP.L) = (tx, (se, sa)) := ⟨_, _, _, rfl⟩
 obtain ⟨sv, sw, hS⟩ : ∃ sv sw, zbz bd (l.map InstP.L) = (sv, sw) := ⟨_, _, rfl⟩
 refine SR <| CN <| zbi (v := zb2 _ _ _ _ _) hst rfl rfl fun w b1 hst => AB rfl <| NSR <| CN <| zar (vs := zdH _ _ _ _ _) zb3 rfl rfl rfl (zac (n := 3) (hst.objL Q0) _ rfl) <| CN (Op1.call1 (v1 := zb2 _ _ _ _ _) zkY rfl rfl ((zbL _ _ l _ _ _ (hst.hD _ Q1) hs.lenC hs.laC).mono fun v w hp => ?_))
 obtain ⟨bM1, dM1, rfl, hdM1, hp⟩ := hp
 replace hst : St _ _ (_ :: _) _ _ := hst.call0 hp
 clear hp
 refine CN <| Op1.call1 (v1 := zb2 _ _ _ _ _) zoh rfl rfl <| Ret.det (zdm (x := tx) (se := se) (sa := sa) (by rw [hdM1]; exact hT) _ _ _ (hst.hD _ Q0) (Res.rmod_of_omod (hst.hL _ Q0)) (Small.of hdM1 hs) (ziS hdM1 (mapU hu)) hgn hbd) hst fun w hst => CN <| zad (v := .tuple #[str _, gII _ _]) rfl <| CN <| Ex (str _) rfl rfl <| CN <| Ex (gII _ _) rfl rfl <| CN <| Op1.alloc hst za0 fun w b4 hst => AS rfl <| CN (SO (v := gII _ _) hst za0 rfl rfl .u0 fun w hst => ?_)
 refine NL <| SQ <| SR <| CN <| zar (vs := zdH _ _ _ _ _) zb3 rfl rfl rfl (zac (n := 3) (hst.objL Q2) _ rfl) <| CN (Op1.call1 (v1 := zb2 _ _ _ _ _) zkY rfl rfl ((zbL _ _ l _ _ _ (hst.hD _ Q1) hs.lenC hs.laC).mono fun v w hp => ?_))
 obtain ⟨bM2, dM2, rfl, hdM2, hp⟩ := hp
 replace hst : St _ _ (_ :: _) _ _ := hst.call0 hp
 clear hp
 refine CN <| Op1.call1 (v1 := zb2 _ _ _ _ _) zui rfl rfl <| Ret.det (zf3 (se := sv) (sa := sw) (by rw [hdM2]; exact hS) _ _ _ (Res.rmod_of_omod (hst.hL _ Q0)) (Small.of hdM2 hs)) hst fun w hst => CN <| zsS (v := .int .i64 _) Tryz.underlying28 rfl rfl (PartOk.one zcO rfl rfl) <| CN <| zaW rfl rfl <| NL <| zab rfl (fun g1 => ?_) (fun g1 => ?_)
 ·have hz := zma (gn := gn) (bd := bd) (l := l.map InstP.L) (by rw [hS]; exact g1)
  rw [hT, hS] at hz
  simp only [Prod.mk.injEq] at hz
  obtain ⟨hz1, hz2, hz3⟩ := hz
  subst hz1
  subst hz2
  subst hz3
  refine SQ <| RunD.start [] hst (bs := [0, 1, 3, 7, 7, 23, 55, 127, 255, 511, 1023, 2047, 4095]) (ds := [some 18, some 19, some 20, some 21, some 22, some 23, some 24, some 25, some 26, some 27, some 28, some 29, some 2]) ⟨Kr, Kr, Kr⟩ (fun tab2 => ?_)
  refine DO tab2 1 (fun f' L' w' hc=> zad (v := str _) (hc.old rfl rfl rfl) hc.z) <| DO tab2 2 (fun f' L' w' hc=> zbV (hc.d 0 rfl rfl rfl rfl) rfl hc.z) <| DO tab2 3 (fun _ _ _ hc => zad (v := .bool _) (hc.d 1 rfl rfl rfl rfl) hc.z) <| zcM (j := 2) rfl (fun g3 => ?_) (fun g3 => ?_)
  ·refine RunD.take (det _) tab2 4 rfl (fun f' L' w' hc=> (hc.d 2 rfl rfl rfl rfl).trans (Vb (Dt g3))) (fun f' L' w' hc=> zar (vs := lII _ _) za0 rfl (hc.old (v := Pp _ _) rfl rfl rfl) rfl (zac (n := 2) (hc.st.objL (List.mem_append_right _ Q1)) _ rfl) hc.z) <| RunD.take (det _) tab2 5 rfl (fun f' L' w' hc=> (hc.d 2 rfl rfl rfl rfl).trans (Vb (Dt g3))) (fun f' L' w' hc=> zar (vs := zdH _ _ _ _ _) zb3 rfl (hc.old (v := Pp _ _) rfl rfl rfl) rfl (zac (n := 3) (hc.st.objL (List.mem_append_right _ Q3)) _ rfl) hc.z) <| RunD.take (fun v rs => ∃ bE lE, v = .agg #[.int .u32 gn, .int .u32 bd, .slice (some ⟨bE, 0, none⟩) lE.length lE.length] ∧ lE.map InstP.L = l.map InstP.L ∧ rs = [Res.omod 44 110 (some ⟨bE, 0, none⟩) lE.length lE]) tab2 6 rfl (fun f' L' w' hc=> (hc.d 2 rfl rfl rfl rfl).trans (Vb (Dt g3))) (fun f' L' w' hc=> Op1.call1 (v1 := zb2 _ _ _ _ _) zkY rfl (hc.d 4 rfl rfl rfl rfl) ((zbL _ _ _ _ _ _ (hc.st.hD _ Q1) hs.lenC hs.laC).mono fun v w hp => (by obtain ⟨bE, lE, rfl, hdE, hp⟩ := hp; exact ⟨_, ⟨bE, lE, rfl, hdE, rfl⟩, hc.st.call0 hp⟩))) <| RunD.take (det (.agg #[.int .i64 se, .int .i64 sa])) tab2 7 rfl (fun f' L' w' hc=> (hc.d 2 rfl rfl rfl rfl).trans (Vb (Dt g3))) (fun _ _ _ hc => by obtain ⟨_, rs, ⟨bE, lE, h23, hd, hrs⟩, _, hm⟩ := hc.dep 5 23 rfl rfl; subst hrs; exact Op1.call1 (v1 := zb2 _ _ _ _ _) zui rfl (evs h23 rfl) ((zf3 (se := se) (sa := sa) (by rw [hd]; exact hS) _ _ _ (Res.rmod_of_omod (hc.st.hL _ (List.mem_append_left _ (hm rfl _ Q0)))) (Small.of hd hs)).mono fun v w hp => ⟨[], ⟨hp.1, rfl⟩, hc.st.keepc hp.2⟩)) <| RunD.fin zaw tab2 hst rfl (fun f4 w R7 hs5 hd6 hr8 hst => ?_)
   obtain ⟨h18_, r0⟩ := hd6 0 18 rfl rfl
   obtain ⟨h19_, r1⟩ := hd6 1 19 rfl rfl
   obtain ⟨h20_, r2⟩ := hd6 2 20 rfl rfl
   obtain ⟨h21_, r3⟩ := hd6 3 21 rfl rfl
   obtain ⟨h22_, r4⟩ := hd6 4 22 rfl rfl
   obtain ⟨bE, lE, h23_, hdE, r5⟩ := hd6 5 23 rfl rfl
   obtain ⟨h24_, r6⟩ := hd6 6 24 rfl rfl
   simp only [rg7, Fc, Fn, Mc, Mn, r0, r1, r2, r3, r4, r5, r6, Na, An, Ca] at hst
   refine zaD (sl := [(20, .bool _), (21, gII _ _), (24, gII _ _)]) ⟨h20_, h21_, h24_, trivial⟩ ?_
   clear hs5 hd6 hr8 tab2
   refine TK (t := 20) rfl (Vb (Dt g3)) <| zem (xs := (lII _ _)) (ys := (lII _ _)) rfl rfl Kr (zcb Tryz.underlying28 Kr (.cons De (PartOk.one zcO rfl rfl) (PartOk.one zcO rfl rfl) (zbQ zcO) (.cons De (PartOk.one ty3 rfl rfl) (PartOk.one ty3 rfl rfl) (zbQ ty3) .nil))) <| CN <| zap (u := .bool _) (Vb (Dt g3)) rfl <| MB rfl <| zbH (d := 27) rfl (fun g9 => ?_) (fun g9 => ?_)
   ·refine TK (t := 27) rfl (Vb g9) (Op1.call0  ziK rfl  ((zcg _ (hst.hD _ Q0)).mono fun v w hp => ?_))
    obtain ⟨rfl, hp⟩ := hp
    replace hst := hst.keepc hp
    clear hp
    refine CN <| zap (u := .bool _) (Vb g9) rfl <| AB rfl <| NL <| zah Tryz.func14 rfl (TP (v := .bool _) rfl) ?_
    exact ⟨rfl, hst.pure⟩
   exfalso
   first | exact g9 rfl | (simp at g9; done) | omega
  exfalso
  first | exact g3 rfl | (simp at g3; done) | omega
 have hs0 : (zbz bd (l.map InstP.L)).1 = 0 := by rw [hS]; exact Nn g1
 obtain ⟨rfl, rfl, htl, hpx⟩ := zlf hT hs0 hgn hbd.1 hu
 refine zaf <| SR <| MS rfl <| CN (Op1.call1 (v1 := str _) zkZ rfl rfl ((zc1 hpx _ (hst.hD _ Q0) Om).mono fun v w hp => ?_))
 obtain ⟨aO3, cO3, dO3, hdO3, rfl, hsO3, hp⟩ := hp
 replace hst : St _ _ (_ :: _) _ _ := hst.call0 hp
 clear hp
 refine CN <| zad (v := .tuple #[zb2 _ _ _ _ _, gII _ _]) rfl <| CN <| Ex (zb2 _ _ _ _ _) rfl rfl <| CN <| Ex (gII _ _) rfl rfl <| CN <| Op1.alloc hst zb3 fun w b5 hst => CN <| Op1.alloc hst za0 fun w b6 hst => CN (SO (v := zb2 _ _ _ _ _) hst zb3 rfl rfl .u1 fun w hst => ?_)
 refine CN (SO (v := gII _ _) hst za0 rfl rfl .u0 fun w hst => ?_)
 refine NL <| zaj [(1, Pp _ _), (3, str _), (4, Pp _ _), (5, Pp _ _), (6, Pp _ _)] E5 fun f => SR <| CN <| zaa zbr rfl <| CN <| zae (v := .int .i64 _) zcO rfl rfl (hst.cellL Q4 rfl) <| CN <| zak rfl rfl <| MB rfl <| zan (d := 38) rfl (fun g10 => ?_) (fun g10 => ?_)
 ·refine TK (t := 38) rfl (Vb (Dt g10)) <| zad (v := str _) rfl <| TK (t := 38) rfl (Vb (Dt g10)) <| zaL (rest := []) ty9 rfl <| TK (t := 38) rfl (Vb (Dt g10)) <| zbI rfl rfl <| CN <| zap (u := .bool _) (Vb (Dt g10)) rfl <| MB rfl <| zan (d := 43) rfl (fun g11 => ?_) (fun g11 => ?_)
  ·refine TK (t := 43) rfl (Vb (Dt g11)) <| zaa zbr rfl <| TK (t := 43) rfl (Vb (Dt g11)) <| zae (v := .int .i64 _) zcO rfl rfl (hst.cellL Q0 rfl) <| TK (t := 43) rfl (Vb (Dt g11)) <| zak rfl rfl <| CN <| zap (u := .bool _) (Vb (Dt g11)) rfl <| MB rfl <| zan (d := 48) rfl (fun g12 => ?_) (fun g12 => ?_)
   ·refine TK (t := 48) rfl (Vb (Dt g12)) <| zar (vs := zdH _ _ _ _ _) zb3 rfl rfl rfl (zac (n := 3) (hst.objL Q1) _ rfl) <| TK (t := 48) rfl (Vb (Dt g12)) <| zar (vs := zdH _ _ _ _ _) zb3 rfl rfl rfl (zac (n := 3) (hst.objL Q6) _ rfl) <| TK (t := 48) rfl (Vb (Dt g12)) (zaz (v1 := zb2 _ _ _ _ _) (v2 := zb2 _ _ _ _ _) zuh rfl rfl rfl ((zeK _ _ _ _ dO3 l _ _ _ _ _ (Res.rmod_of_omod (hst.hL _ Q2)) (hst.hD _ Q1) (by have := hsO3.1; omega) (fun i hi => (hsO3.2 i hi).len9)).mono fun v w hp => ?_))
    obtain ⟨he, hp⟩ := hp
    replace he := he.trans (Vb (zfj hdO3))
    subst he
    replace hst := hst.keepc hp
    clear hp
    refine CN <| zap (u := .bool _) (Vb (Dt g12)) rfl <| MB rfl <| TK (t := 53) rfl (Vb (rfl : true = _)) (Op1.call0  ziK rfl  ((zcg _ (hst.hD _ Q0)).mono fun v w hp => ?_))
    obtain ⟨rfl, hp⟩ := hp
    replace hst := hst.keepc hp
    clear hp
    refine CN <| zap (u := .bool _) (Vb (rfl : true = _)) rfl <| AB rfl <| NL <| zah Tryz.func14 rfl (TP (v := .bool _) rfl) ?_
    exact ⟨rfl, hst.pure⟩
   exfalso
   first | exact g12 rfl | (simp at g12; done) | omega
  exfalso
  first | exact g11 rfl | (simp at g11; done) | omega
 exfalso
 first | exact g10 rfl | (simp at g10; done) | omega
end Go.SK
