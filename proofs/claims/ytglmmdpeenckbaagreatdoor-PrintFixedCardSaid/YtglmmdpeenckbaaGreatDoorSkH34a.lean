/-
  Steps of functions, plain law, and walks of functions: what the laws rest on.
-/
import Derived.Test.YtglmmdpeenckbaaGreatDoorSkH0c
import Derived.Test.YtglmmdpeenckbaaGreatDoorSkH1a
import Derived.Test.YtglmmdpeenckbaaGreatDoorSkH2a
import Derived.Test.YtglmmdpeenckbaaGreatDoorSkH3a
import Derived.Test.YtglmmdpeenckbaaGreatDoorSkH4a
import Derived.Test.YtglmmdpeenckbaaGreatDoorSkH5a
import Derived.Test.YtglmmdpeenckbaaGreatDoorSkH6a
import Derived.Test.YtglmmdpeenckbaaGreatDoorSkH7a
import Derived.Test.YtglmmdpeenckbaaGreatDoorSkH8a
import Derived.Test.YtglmmdpeenckbaaGreatDoorSkH9a
import Derived.Test.YtglmmdpeenckbaaGreatDoorSkH11a
import Derived.Test.YtglmmdpeenckbaaGreatDoorSkH12a
import Derived.Test.YtglmmdpeenckbaaGreatDoorSkH13a
import Derived.Test.YtglmmdpeenckbaaGreatDoorSkH15a
import Derived.Test.YtglmmdpeenckbaaGreatDoorSkH16a
import Derived.Test.YtglmmdpeenckbaaGreatDoorSkH17a
import Derived.Test.YtglmmdpeenckbaaGreatDoorSkH20a
import Derived.Test.YtglmmdpeenckbaaGreatDoorSkH28a
set_option linter.unusedVariables false
set_option linter.unusedSimpArgs false
set_option linter.unusedSectionVars false
namespace Go.SK
open Go Go.Proofs
open Go.RowKit
theorem zsZ (s : Tx) (w : World) (hG : LxG.holds w) (hl : s.length ≤ 140737488355328) : Ret Tryz.prog 15 #[str s] w (fun v w' => v = .bool true ∧ St w NoM [] [] w') := by
 refine zav (args := [str s]) Tryz.func15 rfl rfl rfl ?_
 have hst : St w NoM [] [LxG] w := St.init_Ds (by simp only [List.forall_mem_cons]; exact ⟨hG, fun _ h => absurd h List.not_mem_nil⟩)
 obtain ⟨⟨⟨gn, bd, il⟩, e, a⟩, hP⟩ : ∃ r, zbc s = r := ⟨_, rfl⟩
 refine SR <| AB rfl <| NSR <| MS rfl <| CN (Op1.call1 (v1 := str _) zkZ rfl rfl ((zc1 hP _ (hst.hD _ Q0) Om).mono fun v w hp => ?_))
 obtain ⟨aO2, cO2, dO2, hdO2, rfl, hsO2, hp⟩ := hp
 replace hst : St _ _ (_ :: _) _ _ := hst.call0 hp
 clear hp
 refine CN <| zad (v := .tuple #[zb2 _ _ _ _ _, gII _ _]) rfl <| CN <| Ex (zb2 _ _ _ _ _) rfl rfl <| CN <| Ex (gII _ _) rfl rfl <| CN <| Op1.alloc hst zb3 fun w b3 hst => CN <| Op1.alloc hst za0 fun w b4 hst => CN (SO (v := zb2 _ _ _ _ _) hst zb3 rfl rfl .u1 fun w hst => ?_)
 refine CN (SO (v := gII _ _) hst za0 rfl rfl .u0 fun w hst => ?_)
 refine NL <| SQ <| SR <| CN <| zaa zbr rfl <| CN <| zae (v := .int .i64 _) zcO rfl rfl (hst.cellL Q0 rfl) <| CN <| zaW rfl rfl <| NL <| zab rfl (fun g1 => ?_) (fun g1 => ?_)
 ·obtain ⟨rfl, rfl, rfl⟩ := (zfL hP).1 g1
  have hz0 : dO2.length = 0 := by simpa using congrArg List.length hdO2
  refine SR <| CN <| zar (vs := zdH _ _ _ _ _) zb3 rfl rfl rfl (zac (n := 3) (hst.objL Q1) _ rfl) <| CN <| Op1.call1 (v1 := zb2 _ _ _ _ _) zuk rfl rfl <| zf0 (zfC 0 0 dO2.length _ _ _) (Vb (Dt ⟨rfl, rfl, hz0⟩)) hst fun w hst => MB rfl <| TK (t := 21) rfl (Vb (rfl : true = _)) (Op1.call0  ziK rfl  ((zcg _ (hst.hD _ Q0)).mono fun v w hp => ?_))
  obtain ⟨rfl, hp⟩ := hp
  replace hst := hst.keepc hp
  clear hp
  refine CN <| zap (u := .bool _) (Vb (rfl : true = _)) rfl <| AB rfl <| NL <| zah Tryz.func15 rfl (TP (v := .bool _) rfl) ?_
  exact ⟨rfl, hst.pure⟩
 have he0 : e = 0 := Nn g1
 obtain ⟨ha0, hSh, hgn, hbd, hui⟩ := (zfL hP).2 he0
 have hgb : 0 ≤ bd ∧ bd < 4294967296 := by omega
 obtain ⟨tx, hT, htl, hpx⟩ := zjN hSh hgn hgb.1 hui
 have hsm := Small.ofSm hsO2.1 hsO2.2
 refine zaf <| SR <| CN <| zar (vs := zdH _ _ _ _ _) zb3 rfl rfl rfl (zac (n := 3) (hst.objL Q1) _ rfl) <| CN (Op1.call1 (v1 := zb2 _ _ _ _ _) zkY rfl rfl ((zbL _ _ dO2 _ _ _ (Res.rmod_of_omod (hst.hL _ Q2)) hsm.lenC hsm.laC).mono fun v w hp => ?_))
 obtain ⟨bM1, dM1, rfl, hdM1, hp⟩ := hp
 replace hst : St _ _ (_ :: _) _ _ := hst.call0 hp
 clear hp
 refine CN <| Op1.call1 (v1 := zb2 _ _ _ _ _) zoh rfl rfl <| Ret.det (zdm (x := tx) (se := 0) (sa := 0) (by rw [hdM1, hdO2]; exact hT) _ _ _ (hst.hD _ Q0) (Res.rmod_of_omod (hst.hL _ Q0)) (Small.of hdM1 hsm) (ziS (hdM1.trans hdO2) hui) hgn hgb) hst fun w hst => CN <| zad (v := .tuple #[str _, gII _ _]) rfl <| CN <| Ex (str _) rfl rfl <| CN <| Ex (gII _ _) rfl rfl <| CN <| Op1.alloc hst za0 fun w b6 hst => AS rfl <| CN (SO (v := gII _ _) hst za0 rfl rfl .u0 fun w hst => ?_)
 refine NL <| zaj [(3, Pp _ _), (5, str _), (6, Pp _ _)] E3 fun f => SR <| MS rfl <| CN (Op1.call1 (v1 := str _) zkZ rfl rfl ((zc1 hpx _ (hst.hD _ Q0) Om).mono fun v w hp => ?_))
 obtain ⟨aO3, cO3, dO3, hdO3, rfl, hsO3, hp⟩ := hp
 replace hst : St _ _ (_ :: _) _ _ := hst.call0 hp
 clear hp
 refine CN <| zad (v := .tuple #[zb2 _ _ _ _ _, gII _ _]) rfl <| CN <| Ex (zb2 _ _ _ _ _) rfl rfl <| CN <| Ex (gII _ _) rfl rfl <| CN <| Op1.alloc hst zb3 fun w b7 hst => CN <| Op1.alloc hst za0 fun w b8 hst => CN (SO (v := zb2 _ _ _ _ _) hst zb3 rfl rfl .u1 fun w hst => ?_)
 refine CN (SO (v := gII _ _) hst za0 rfl rfl .u0 fun w hst => ?_)
 refine NSR <| CN <| zar (vs := zdH _ _ _ _ _) zb3 rfl rfl rfl (zac (n := 3) (hst.objL Q1) _ rfl) <| CN (Op1.call1 (v1 := zb2 _ _ _ _ _) zkY rfl rfl ((zbL _ _ dO3 _ _ _ (Res.rmod_of_omod (hst.hL _ Q2)) (Small.ofSm hsO3.1 hsO3.2).lenC (Small.ofSm hsO3.1 hsO3.2).laC).mono fun v w hp => ?_))
 obtain ⟨bM2, dM2, rfl, hdM2, hp⟩ := hp
 replace hst : St _ _ (_ :: _) _ _ := hst.call0 hp
 clear hp
 refine CN <| Op1.call1 (v1 := zb2 _ _ _ _ _) zoh rfl rfl <| Ret.det (zdm (x := tx) (se := 0) (sa := 0) (by rw [hdM2, hdO3]; exact hT) _ _ _ (hst.hD _ Q0) (Res.rmod_of_omod (hst.hL _ Q0)) (Small.of hdM2 (Small.ofSm hsO3.1 hsO3.2)) (ziS (hdM2.trans hdO3) hui) hgn hgb) hst fun w hst => CN <| zad (v := .tuple #[str _, gII _ _]) rfl <| CN <| Ex (str _) rfl rfl <| CN <| Ex (gII _ _) rfl rfl <| CN <| Op1.alloc hst za0 fun w b10 hst => AS rfl <| CN (SO (v := gII _ _) hst za0 rfl rfl .u0 fun w hst => ?_)
 refine NSR <| CN <| zaa zbr rfl <| CN <| zae (v := .int .i64 _) zcO rfl rfl (hst.cellL Q5 rfl) <| CN <| zak rfl rfl <| MB rfl <| zan (d := 44) rfl (fun g2 => ?_) (fun g2 => ?_)
 ·refine TK (t := 44) rfl (Vb (Dt g2)) <| zaa zbr rfl <| TK (t := 44) rfl (Vb (Dt g2)) <| zae (v := .int .i64 _) zcO rfl rfl (hst.cellL Q2 rfl) <| TK (t := 44) rfl (Vb (Dt g2)) <| zak rfl rfl <| CN <| zap (u := .bool _) (Vb (Dt g2)) rfl <| MB rfl <| zan (d := 49) rfl (fun g3 => ?_) (fun g3 => ?_)
  ·refine TK (t := 49) rfl (Vb (Dt g3)) <| zar (vs := zdH _ _ _ _ _) zb3 rfl rfl rfl (zac (n := 3) (hst.objL Q3) _ rfl) <| TK (t := 49) rfl (Vb (Dt g3)) <| zar (vs := zdH _ _ _ _ _) zb3 rfl rfl rfl (zac (n := 3) (hst.objL Q8) _ rfl) <| TK (t := 49) rfl (Vb (Dt g3)) (zaz (v1 := zb2 _ _ _ _ _) (v2 := zb2 _ _ _ _ _) zuh rfl rfl rfl ((zeK _ _ _ _ dO3 dO2 _ _ _ _ _ (Res.rmod_of_omod (hst.hL _ Q4)) (Res.rmod_of_omod (hst.hL _ Q9)) (by have := hsO3.1; omega) (fun i hi => (hsO3.2 i hi).len9)).mono fun v w hp => ?_))
   obtain ⟨he, hp⟩ := hp
   replace he := he.trans (Vb (zfj (hdO3.trans hdO2.symm)))
   subst he
   replace hst := hst.keepc hp
   clear hp
   refine CN <| zap (u := .bool _) (Vb (Dt g3)) rfl <| MB rfl <| TK (t := 54) rfl (Vb (rfl : true = _)) <| zaa zbr rfl <| TK (t := 54) rfl (Vb (rfl : true = _)) <| zae (v := .int .i64 _) zcO rfl rfl (hst.cellL Q0 rfl) <| TK (t := 54) rfl (Vb (rfl : true = _)) <| zak rfl rfl <| CN <| zap (u := .bool _) (Vb (rfl : true = _)) rfl <| MB rfl <| zan (d := 59) rfl (fun g4 => ?_) (fun g4 => ?_)
   ·refine TK (t := 59) rfl (Vb (Dt g4)) <| zad (v := str _) rfl <| TK (t := 59) rfl (Vb (Dt g4)) <| zad (v := str _) rfl <| TK (t := 59) rfl (Vb (Dt g4)) <| zbV rfl rfl <| CN <| zap (u := .bool _) (Vb (Dt g4)) rfl <| MB rfl <| zan (d := 64) rfl (fun g5 => ?_) (fun g5 => ?_)
    ·refine TK (t := 64) rfl (Vb (Dt g5)) (Op1.call0  ziK rfl  ((zcg _ (hst.hD _ Q0)).mono fun v w hp => ?_))
     obtain ⟨rfl, hp⟩ := hp
     replace hst := hst.keepc hp
     clear hp
     refine CN <| zap (u := .bool _) (Vb (Dt g5)) rfl <| AB rfl <| NL <| zah Tryz.func15 rfl (TP (v := .bool _) rfl) ?_
     exact ⟨rfl, hst.pure⟩
    exfalso
    first | exact g5 rfl | (simp at g5; done) | omega
   exfalso
   first | exact g4 rfl | (simp at g4; done) | omega
  exfalso
  first | exact g3 rfl | (simp at g3; done) | omega
 exfalso
 first | exact g2 rfl | (simp at g2; done) | omega
end Go.SK
