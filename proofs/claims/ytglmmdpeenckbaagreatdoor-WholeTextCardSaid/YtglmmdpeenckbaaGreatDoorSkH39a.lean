/-
  Steps of functions, plain law, and walks of functions: what the laws rest on.
-/
import Derived.Test.YtglmmdpeenckbaaGreatDoorSkH0c
import Derived.Test.YtglmmdpeenckbaaGreatDoorSkH1a
import Derived.Test.YtglmmdpeenckbaaGreatDoorSkH2a
import Derived.Test.YtglmmdpeenckbaaGreatDoorSkH3a
import Derived.Test.YtglmmdpeenckbaaGreatDoorSkH4a
import Derived.Test.YtglmmdpeenckbaaGreatDoorSkH5a
import Derived.Test.YtglmmdpeenckbaaGreatDoorSkH6a
import Derived.Test.YtglmmdpeenckbaaGreatDoorSkH7a
import Derived.Test.YtglmmdpeenckbaaGreatDoorSkH9a
import Derived.Test.YtglmmdpeenckbaaGreatDoorSkH10a
import Derived.Test.YtglmmdpeenckbaaGreatDoorSkH11a
import Derived.Test.YtglmmdpeenckbaaGreatDoorSkH12a
import Derived.Test.YtglmmdpeenckbaaGreatDoorSkH13a
import Derived.Test.YtglmmdpeenckbaaGreatDoorSkH15a
import Derived.Test.YtglmmdpeenckbaaGreatDoorSkH16a
import Derived.Test.YtglmmdpeenckbaaGreatDoorSkH17a
import Derived.Test.YtglmmdpeenckbaaGreatDoorSkH20a
import Derived.Test.YtglmmdpeenckbaaGreatDoorSkH28a
set_option linter.unusedVariables false
set_option linter.unusedSimpArgs false
set_option linter.unusedSectionVars false
namespace Go.SK
open Go.RowKit
def topX : Tx := [109, 111, 100, 117, 108, 101, 32, 57, 32, 53, 10, 37, 49, 32, 61, 32, 79, 112, 84, 121, 112, 101, 66, 111, 111, 108, 10]
theorem zte : zbc topX = ((9, 5, [⟨20, 0, 1, []⟩]), (0, 0)) := by decide +kernel
end Go.SK
namespace Go.SK
open Go Go.Proofs
open Go.RowKit
theorem zuQ (s : Tx) (w : World) (hG : LxG.holds w) (hl : s.length ≤ 140737488355328) : Ret Tryz.prog 3 #[str s] w (fun v w' => v = .bool true ∧ St w NoM [] [] w') := by
 refine zav (args := [str s]) Tryz.func3 rfl rfl rfl ?_
 have hst : St w NoM [] [LxG] w := St.init_Ds (by simp only [List.forall_mem_cons]; exact ⟨hG, fun _ h => absurd h List.not_mem_nil⟩)
 obtain ⟨⟨⟨gn, bd, il⟩, e, a⟩, hP⟩ : ∃ r, zbc s = r := ⟨_, rfl⟩
 refine SR <| AB rfl <| NSR <| CN (Op1.call1 (v1 := str _) zkZ rfl rfl ((zc1 zte _ (hst.hD _ Q0) De).mono fun v w hp => ?_))
 obtain ⟨aO1, cO1, dO1, hdO1, rfl, hsO1, hp⟩ := hp
 replace hst : St _ _ (_ :: _) _ _ := hst.call0 hp
 clear hp
 have htl1 : dO1.length = 1 := by simpa using congrArg List.length hdO1
 refine CN <| zad (v := .tuple #[zb2 _ _ _ _ _, gII _ _]) rfl <| CN <| Ex (zb2 _ _ _ _ _) rfl rfl <| CN <| Ex (gII _ _) rfl rfl <| CN <| Op1.alloc hst zb3 fun w b3 hst => CN <| Op1.alloc hst za0 fun w b4 hst => CN (SO (v := zb2 _ _ _ _ _) hst zb3 rfl rfl .u1 fun w hst => ?_)
 refine CN (SO (v := gII _ _) hst za0 rfl rfl .u0 fun w hst => ?_)
 refine NL <| SQ <| SR <| CN <| zaa zbr rfl <| CN <| zae (v := .int .i64 _) zcO rfl rfl (hst.cellL Q0 rfl) <| CN <| zaW rfl rfl <| MB rfl <| zan (d := 19) rfl (fun g1 => ?_) (fun g1 => ?_)
 ·exfalso
  exact g1 rfl
 refine TK (t := 19) rfl (Vb (Df g1)) <| zaa zbU rfl <| TK (t := 19) rfl (Vb (Df g1)) <| zae (v := .slice _ _ _) zdo rfl rfl (hst.cellL Q1 rfl) <| TK (t := 19) rfl (Vb (Df g1)) <| zaQ (rest := []) zdo rfl <| TK (t := 19) rfl (Vb (Df g1)) <| zaW rfl rfl <| CN <| zaq (u := .bool _) (Vb (Df g1)) rfl <| MB rfl <| zan (d := 25) rfl (fun g2 => ?_) (fun g2 => ?_)
 ·exfalso
  omega
 refine TK (t := 25) rfl (Vb (Df g2)) <| zaa zcA rfl <| TK (t := 25) rfl (Vb (Df g2)) <| zae (v := .int .u32 _) zbt rfl rfl (hst.cellL Q1 rfl) <| TK (t := 25) rfl (Vb (Df g2)) <| zaW rfl rfl <| CN <| zaq (u := .bool _) (Vb (Df g2)) rfl <| NL <| zaj [(0, str _), (4, Pp _ _), (29, .bool _)] E3 fun f => zab rfl (fun g3 => ?_) (fun g3 => ?_)
 ·exfalso
  first | (simp at g3; done) | omega
 refine zaf <| SR <| MS rfl <| CN (Op1.call1 (v1 := str _) zkZ rfl rfl ((zc1 hP _ (hst.hD _ Q0) Om).mono fun v w hp => ?_))
 obtain ⟨aO2, cO2, dO2, hdO2, rfl, hsO2, hp⟩ := hp
 replace hst : St _ _ (_ :: _) _ _ := hst.call0 hp
 clear hp
 refine CN <| zad (v := .tuple #[zb2 _ _ _ _ _, gII _ _]) rfl <| CN <| Ex (zb2 _ _ _ _ _) rfl rfl <| CN <| Ex (gII _ _) rfl rfl <| CN <| Op1.alloc hst zb3 fun w b5 hst => CN (SO (v := zb2 _ _ _ _ _) hst zb3 rfl rfl .u0 fun w hst => ?_)
 refine CN (SO (v := gII _ _) hst za0 rfl rfl .u2 fun w hst => ?_)
 refine NL <| SQ <| SR <| CN <| zaa zbr rfl <| CN <| zae (v := .int .i64 _) zcO rfl rfl (hst.cellL Q2 rfl) <| CN <| zaW rfl rfl <| NL <| zab rfl (fun g4 => ?_) (fun g4 => ?_)
 ·obtain ⟨rfl, rfl, rfl⟩ := (zfL hP).1 g4
  have hz0 : dO2.length = 0 := by simpa using congrArg List.length hdO2
  refine SR <| CN <| zar (vs := zdH _ _ _ _ _) zb3 rfl rfl rfl (zac (n := 3) (hst.objL Q0) _ rfl) <| CN <| Op1.call1 (v1 := zb2 _ _ _ _ _) zuk rfl rfl <| zf0 (zfC 0 0 dO2.length _ _ _) (Vb (Dt ⟨rfl, rfl, hz0⟩)) hst fun w hst => AB rfl <| NL <| zah Tryz.func3 rfl (TP (v := .bool _) rfl) ?_
  first | exact ⟨rfl, hst.pure⟩ | exact ⟨Vb (Dt rfl), hst.pure⟩
 have he0 : e = 0 := Nn g4
 obtain ⟨ha0, hSh, hgn, hbd, hui⟩ := (zfL hP).2 he0
 have hgb : 0 ≤ bd ∧ bd < 4294967296 := by omega
 obtain ⟨tx, hT, htl, hpx⟩ := zjN hSh hgn hgb.1 hui
 have hsm := Small.ofSm hsO2.1 hsO2.2
 refine zaf <| SQ <| SR <| CN <| zar (vs := zdH _ _ _ _ _) zb3 rfl rfl rfl (zac (n := 3) (hst.objL Q0) _ rfl) <| CN (Op1.call1 (v1 := zb2 _ _ _ _ _) zkY rfl rfl ((zbL _ _ dO2 _ _ _ (Res.rmod_of_omod (hst.hL _ Q1)) hsm.lenC hsm.laC).mono fun v w hp => ?_))
 obtain ⟨bM0, dM0, rfl, hdM0, hp⟩ := hp
 replace hst : St _ _ (_ :: _) _ _ := hst.call0 hp
 clear hp
 refine CN <| Op1.call1 (v1 := zb2 _ _ _ _ _) zui rfl rfl <| Ret.det (zf3 (se := 0) (sa := 0) (by rw [hdM0, hdO2]; exact hSh) _ _ _ (Res.rmod_of_omod (hst.hL _ Q0)) (Small.of hdM0 hsm)) hst fun w hst => CN (zag za0 zcE .nil ?_)
 refine CN <| zm0 (xs := (lII _ _)) (ys := (lII _ _)) rfl rfl Kr (zcb Tryz.underlying28 Kr (.cons De (PartOk.one zcO rfl rfl) (PartOk.one zcO rfl rfl) (zbQ zcO) (.cons De (PartOk.one ty3 rfl rfl) (PartOk.one ty3 rfl rfl) (zbQ ty3) .nil))) <| NL <| zaA rfl (fun g5 => ?_) (fun g5 => ?_)
 ·exfalso
  simp at g5
 refine zaf <| SR <| CN <| zar (vs := zdH _ _ _ _ _) zb3 rfl rfl rfl (zac (n := 3) (hst.objL Q1) _ rfl) <| CN (Op1.call1 (v1 := zb2 _ _ _ _ _) zkY rfl rfl ((zbL _ _ dO2 _ _ _ (Res.rmod_of_omod (hst.hL _ Q2)) hsm.lenC hsm.laC).mono fun v w hp => ?_))
 obtain ⟨bM1, dM1, rfl, hdM1, hp⟩ := hp
 replace hst : St _ _ (_ :: _) _ _ := hst.call0 hp
 clear hp
 refine CN <| Op1.call1 (v1 := zb2 _ _ _ _ _) zoh rfl rfl <| Ret.det (zdm (x := tx) (se := 0) (sa := 0) (by rw [hdM1, hdO2]; exact hT) _ _ _ (hst.hD _ Q0) (Res.rmod_of_omod (hst.hL _ Q0)) (Small.of hdM1 hsm) (ziS (hdM1.trans hdO2) hui) hgn hgb) hst fun w hst => CN <| zad (v := .tuple #[str _, gII _ _]) rfl <| CN <| Ex (str _) rfl rfl <| CN <| Ex (gII _ _) rfl rfl <| CN <| Op1.alloc hst za0 fun w b7 hst => AS rfl <| CN (SO (v := gII _ _) hst za0 rfl rfl .u0 fun w hst => ?_)
 refine NL <| zaj [(5, Pp _ _), (6, str _), (7, Pp _ _)] E3 fun f => SQ <| SR <| CN <| zar (vs := lII _ _) za0 rfl rfl rfl (zac (n := 2) (hst.objL Q0) _ rfl) <| CN (zag za0 zcE .nil ?_)
 refine CN <| zm0 (xs := (lII _ _)) (ys := (lII _ _)) rfl rfl Kr (zcb Tryz.underlying28 Kr (.cons De (PartOk.one zcO rfl rfl) (PartOk.one zcO rfl rfl) (zbQ zcO) (.cons De (PartOk.one ty3 rfl rfl) (PartOk.one ty3 rfl rfl) (zbQ ty3) .nil))) <| NL <| zaA rfl (fun g6 => ?_) (fun g6 => ?_)
 ·exfalso
  simp at g6
 refine zaf <| SQ <| SR <| MS rfl <| CN <| zaL (rest := []) ty9 rfl <| CN <| zbm rfl rfl <| NL <| zab rfl (fun g7 => ?_) (fun g7 => ?_)
 ·exfalso
  omega
 refine zaf <| SR <| MS rfl <| CN (Op1.call1 (v1 := str _) zkZ rfl rfl ((zc1 hpx _ (hst.hD _ Q0) Om).mono fun v w hp => ?_))
 obtain ⟨aO3, cO3, dO3, hdO3, rfl, hsO3, hp⟩ := hp
 replace hst : St _ _ (_ :: _) _ _ := hst.call0 hp
 clear hp
 refine CN <| zad (v := .tuple #[zb2 _ _ _ _ _, gII _ _]) rfl <| CN <| Ex (zb2 _ _ _ _ _) rfl rfl <| CN <| Ex (gII _ _) rfl rfl <| CN <| Op1.alloc hst zb3 fun w b8 hst => CN <| Op1.alloc hst za0 fun w b9 hst => CN (SO (v := zb2 _ _ _ _ _) hst zb3 rfl rfl .u1 fun w hst => ?_)
 refine CN (SO (v := gII _ _) hst za0 rfl rfl .u0 fun w hst => ?_)
 refine NSR <| CN <| zar (vs := zdH _ _ _ _ _) zb3 rfl rfl rfl (zac (n := 3) (hst.objL Q1) _ rfl) <| CN (Op1.call1 (v1 := zb2 _ _ _ _ _) zkY rfl rfl ((zbL _ _ dO3 _ _ _ (Res.rmod_of_omod (hst.hL _ Q2)) (Small.ofSm hsO3.1 hsO3.2).lenC (Small.ofSm hsO3.1 hsO3.2).laC).mono fun v w hp => ?_))
 obtain ⟨bM2, dM2, rfl, hdM2, hp⟩ := hp
 replace hst : St _ _ (_ :: _) _ _ := hst.call0 hp
 clear hp
 refine CN <| Op1.call1 (v1 := zb2 _ _ _ _ _) zoh rfl rfl <| Ret.det (zdm (x := tx) (se := 0) (sa := 0) (by rw [hdM2, hdO3]; exact hT) _ _ _ (hst.hD _ Q0) (Res.rmod_of_omod (hst.hL _ Q0)) (Small.of hdM2 (Small.ofSm hsO3.1 hsO3.2)) (ziS (hdM2.trans hdO3) hui) hgn hgb) hst fun w hst => CN <| zad (v := .tuple #[str _, gII _ _]) rfl <| CN <| Ex (str _) rfl rfl <| CN <| Ex (gII _ _) rfl rfl <| CN <| Op1.alloc hst za0 fun w b11 hst => AS rfl <| CN (SO (v := gII _ _) hst za0 rfl rfl .u0 fun w hst => ?_)
 refine NL <| zaj [(5, Pp _ _), (6, str _), (8, Pp _ _), (9, Pp _ _), (10, str _), (11, Pp _ _)] E6 fun f => SR <| CN <| zar (vs := lII _ _) za0 rfl rfl rfl (zac (n := 2) (hst.objL Q2) _ rfl) <| CN (zag za0 zcE .nil ?_)
 refine CN <| zem (xs := (lII _ _)) (ys := (lII _ _)) rfl rfl Kr (zcb Tryz.underlying28 Kr (.cons De (PartOk.one zcO rfl rfl) (PartOk.one zcO rfl rfl) (zbQ zcO) (.cons De (PartOk.one ty3 rfl rfl) (PartOk.one ty3 rfl rfl) (zbQ ty3) .nil))) <| MB rfl <| zbH (d := 71) rfl (fun g8 => ?_) (fun g8 => ?_)
 ·refine TK (t := 71) rfl (Vb g8) <| zar (vs := zdH _ _ _ _ _) zb3 rfl rfl rfl (zac (n := 3) (hst.objL Q3) _ rfl) <| TK (t := 71) rfl (Vb g8) <| zar (vs := zdH _ _ _ _ _) zb3 rfl rfl rfl (zac (n := 3) (hst.objL Q8) _ rfl) <| TK (t := 71) rfl (Vb g8) (zaz (v1 := zb2 _ _ _ _ _) (v2 := zb2 _ _ _ _ _) zuh rfl rfl rfl ((zeK _ _ _ _ dO3 dO2 _ _ _ _ _ (Res.rmod_of_omod (hst.hL _ Q4)) (Res.rmod_of_omod (hst.hL _ Q9)) (by have := hsO3.1; omega) (fun i hi => (hsO3.2 i hi).len9)).mono fun v w hp => ?_))
  obtain ⟨he, hp⟩ := hp
  replace he := he.trans (Vb (zfj (hdO3.trans hdO2.symm)))
  subst he
  replace hst := hst.keepc hp
  clear hp
  refine CN <| zap (u := .bool _) (Vb g8) rfl <| MB rfl <| TK (t := 76) rfl (Vb (rfl : true = _)) <| zar (vs := lII _ _) za0 rfl rfl rfl (zac (n := 2) (hst.objL Q0) _ rfl) <| TK (t := 76) rfl (Vb (rfl : true = _)) (zag za0 zcE .nil ?_)
  refine TK (t := 76) rfl (Vb (rfl : true = _)) <| zem (xs := (lII _ _)) (ys := (lII _ _)) rfl rfl Kr (zcb Tryz.underlying28 Kr (.cons De (PartOk.one zcO rfl rfl) (PartOk.one zcO rfl rfl) (zbQ zcO) (.cons De (PartOk.one ty3 rfl rfl) (PartOk.one ty3 rfl rfl) (zbQ ty3) .nil))) <| CN <| zap (u := .bool _) (Vb (rfl : true = _)) rfl <| MB rfl <| zbH (d := 81) rfl (fun g9 => ?_) (fun g9 => ?_)
  ·refine TK (t := 81) rfl (Vb g9) <| zad (v := str _) rfl <| TK (t := 81) rfl (Vb g9) <| zad (v := str _) rfl <| TK (t := 81) rfl (Vb g9) <| zbV rfl rfl <| CN <| zap (u := .bool _) (Vb g9) rfl <| AB rfl <| NL <| zah Tryz.func3 rfl (TP (v := .bool _) rfl) ?_
   first | exact ⟨rfl, hst.pure⟩ | exact ⟨Vb (Dt rfl), hst.pure⟩
  exfalso
  first | exact g9 rfl | (simp at g9; done) | omega
 exfalso
 first | exact g8 rfl | (simp at g8; done) | omega
end Go.SK
