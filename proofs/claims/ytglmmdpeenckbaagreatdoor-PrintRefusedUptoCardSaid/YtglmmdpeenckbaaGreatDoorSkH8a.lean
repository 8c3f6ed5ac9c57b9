/-
  Steps of functions, plain law, and walks of functions: what the laws rest on.
-/
import Derived.Test.YtglmmdpeenckbaaGreatDoorSkH0c
import Derived.Test.YtglmmdpeenckbaaGreatDoorSkH1a
import Derived.Test.YtglmmdpeenckbaaGreatDoorSkH2a
import Derived.Test.YtglmmdpeenckbaaGreatDoorSkH5a
set_option linter.unusedVariables false
set_option linter.unusedSimpArgs false
set_option linter.unusedSectionVars false
namespace Go.SK
open Go Go.Proofs
open Go.RowKit
theorem zrr (n : Int) (w : World) : Ret Tryz.prog 110 #[.int .u32 n] w (fun v w' => v = .agg #[.int .u8 1, .int .u32 n, str []] ∧ St w NoM [] [] w') := by
 refine zav (args := [.int .u32 n]) Tryz.func110 rfl rfl rfl ?_
 have hst := St.init w
 refine SR <| CN <| Op1.alloc hst za9 fun w b2 hst => NSR <| MU rfl <| CN (zag za9 zcW (.c (v := .int .u8 _) rfl (h := (.c (v := .int .u32 _) rfl (h := .nil)))) ?_)
 refine CN (SO (v := zcy _ _ _) hst za9 rfl rfl .u0 fun w hst => ?_)
 refine NL <| zah Tryz.func110 rfl (zal (vs := zcX _ _ _) rfl za9 rfl rfl (zac (n := 3) (hst.objL Q0) _ rfl)) ?_
 exact ⟨rfl, hst.pure⟩
end Go.SK
namespace Go.SK
def oneX : Tx := [109, 111, 100, 117, 108, 101, 32, 55, 32, 57, 10, 37, 50, 32, 61, 32, 79, 112, 73, 65, 100, 100, 32, 37, 49, 32, 37, 51, 32, 37, 52, 10]
theorem zvO : zc9 7 9 oneL = (oneX, (0, 0)) := by decide +kernel
end Go.SK
namespace Go.SK
open Go.RowKit
theorem zvP : ∀ y ∈ oneL, y.U32 := fun y hy => by
  cases hy with
  | head => exact ⟨by decide, by decide, by decide⟩
  | tail _ h => cases h
end Go.SK
namespace Go.SK
open Go Go.Proofs
theorem zxo : zaN Tryz.prog 110 := ⟨Tryz.f110, _, Tryz.func110, Kr, rfl⟩
theorem ent59 : zaN Tryz.prog 59 := ⟨Tryz.f59, _, Tryz.func59, Kr, rfl⟩
end Go.SK
namespace Go.SK
open Go Go.Proofs
open Go.RowKit
theorem zwF  (w : World) : Ret Tryz.prog 59 #[] w (fun v w' => ∃ ro rc dm, v = .agg #[.int .u32 7, .int .u32 9, .slice ro dm.length rc] ∧ dm.map InstP.L = oneL ∧ St w NoM [Res.omod 44 110 ro rc dm] [] w') := by
 refine zav (args := []) Tryz.func59 rfl rfl rfl ?_
 have hst := St.init w
 refine SR <| CN <| Op1.alloc hst zb3 fun w b0 hst => NSR <| CN (zag zb3 zpn (.c (v := .int .u32 _) rfl (h := (.c (v := .int .u32 _) rfl (h := .nil)))) ?_)
 refine CN <| Op1.alloc hst zb3 fun w b1 hst => CN (SO (v := zb2 _ _ _ _ _) hst zb3 rfl rfl .u0 fun w hst => ?_)
 refine NL <| SQ <| RunD.start [] hst (bs := [0, 1, 0, 4, 12, 28, 60, 127, 255, 511]) (ds := [some 3, some 4, some 5, some 6, some 7, some 8, some 9, some 10, some 11, none]) ⟨Kr, Kr, Kr⟩ (fun tab1 => ?_)
 refine DO tab1 1 (fun f' L' w' hc=> zaa zbU (hc.old (v := Pp _ _) rfl rfl rfl) hc.z) <| DO tab1 2 (fun f' L' w' hc=> zae (v := .slice _ _ _) zdo rfl (hc.d 0 rfl rfl rfl rfl) (hc.st.cellL (List.mem_append_right _ Q0) rfl) hc.z) <| DO tab1 3 (fun f' L' w' hc=> Op1.call1 (v1 := .int .u32 _) zxo rfl rfl ((zrr _ _).mono fun v w hp => ⟨[], ⟨hp.1, rfl⟩, hc.st.keepc hp.2⟩)) <| DO tab1 4 (fun f' L' w' hc=> Op1.call1 (v1 := .int .u32 _) zxo rfl rfl ((zrr _ _).mono fun v w hp => ⟨[], ⟨hp.1, rfl⟩, hc.st.keepc hp.2⟩)) <| RunD.op (fun v rs => ∃ b, v = .slice (some ⟨b, 0, none⟩) 2 2 ∧ rs = [Res.row b 110 ([.int .u8 1, .int .u32 3, str [], .int .u8 1, .int .u32 4, str []])]) tab1 5 (fun _ _ _ hc => zaE (z0 := [.int .u8 0, .int .u32 0, str [], .int .u8 0, .int .u32 0, str []]) hc.st zdb za9 rfl rfl Kr (.c (v := zcy _ _ _) (hc.d 2 rfl rfl rfl rfl) (h := (.c (v := zcy _ _ _) (hc.d 3 rfl rfl rfl rfl) (h := .nil)))) fun w b hst => ⟨[_], ⟨b, rfl, rfl⟩, hst⟩) ?_
 refine zfX (fun g v rs => (∀ b, g 7 = .slice (some ⟨b, 0, none⟩) 2 2 → v = .agg #[.int .u16 128, .int .u32 1, .int .u32 2, .slice (some ⟨b, 0, none⟩) 2 2]) ∧ rs = []) tab1 6 (fun _ _ _ hc => by obtain ⟨_, _, q1, _⟩ := hc.dep 4 7 rfl rfl; obtain ⟨b, h7, _⟩ := q1; exact zag zbp ztk (.c (v := .int .u16 128) rfl (h := (.c (v := .int .u32 1) rfl (h := (.c (v := .int .u32 2) rfl (h := (.c (v := .slice _ _ _) (evs h7 rfl) (h := .nil)))))))) ⟨[], fun g hg => ⟨fun b2 e => (by rw [hg 4 7 rfl rfl, h7] at e; cases e; rfl), rfl⟩, hc.st⟩) ?_
 refine zfX (fun g v rs => ∃ c, v = .slice (some ⟨c, 0, none⟩) 1 1 ∧ ∀ b, g 7 = .slice (some ⟨b, 0, none⟩) 2 2 → rs = [Res.row c 44 [.int .u16 128, .int .u32 1, .int .u32 2, .slice (some ⟨b, 0, none⟩) 2 2]]) tab1 7 (fun _ _ _ hc => by obtain ⟨_, _, q1, _⟩ := hc.dep 4 7 rfl rfl; obtain ⟨b, h7, _⟩ := q1; obtain ⟨g5, _, q2, hg5, _⟩ := hc.dep 5 8 rfl rfl; have h8 := q2.1 b ((hg5 4 7 rfl rfl).trans h7); exact zaE (z0 := [.int .u16 0, .int .u32 0, .int .u32 0, .slice none 0 0]) hc.st zdo zbp rfl rfl (by kernel_rfl) (.c (v := zbb _ _ _ _ _ _) (evs h8 rfl) (h := .nil)) fun w c hst => ⟨[_], fun g hg => ⟨c, rfl, fun b2 e => (by rw [hg 4 7 rfl rfl, h7] at e; cases e; rfl)⟩, hst⟩) ?_
 refine RunD.fin zaw tab1 hst rfl (fun f2 w R5 hs3 hd4 hr6 hst => ?_)
 obtain ⟨h3_, r0⟩ := hd4 0 3 rfl rfl
 obtain ⟨h4_, r1⟩ := hd4 1 4 rfl rfl
 obtain ⟨h5_, r2⟩ := hd4 2 5 rfl rfl
 obtain ⟨h6_, r3⟩ := hd4 3 6 rfl rfl
 obtain ⟨b7, h7_, r4⟩ := hd4 4 7 rfl rfl
 obtain ⟨h8_, r5⟩ := hd4 5 8 rfl rfl
 replace h8_ := h8_ b7 ((DrawTab.mask tab1 _ (j := 5) (l := 4) (t := 7) rfl rfl).trans h7_)
 obtain ⟨b9, h9_, r6⟩ := hd4 6 9 rfl rfl
 replace r6 := r6 b7 ((DrawTab.mask tab1 _ (j := 6) (l := 4) (t := 7) rfl rfl).trans h7_)
 simp only [rg7, Fc, Fn, Mc, Mn, r0, r1, r2, r3, r4, r5, r6, Na, An, Ca] at hst
 refine zaD (sl := [(0, Pp _ _), (1, Pp _ _), (4, .slice _ _ _), (9, .slice _ _ _)]) ⟨(hs3 0 rfl).trans rfl, (hs3 1 rfl).trans rfl, h4_, h9_, trivial⟩ ?_
 clear hs3 hd4 hr6 tab1
 replace hst := hst.pushNil 44 4
 refine CN (zaI (news := (zbg _ _ _ _ _ _)) hst zdo zbp rfl rfl .u0 rfl rfl rfl (zac (n := 4) (hst.objL Q2) _ rfl) rfl rfl Om fun w ao7 cp8 hst => ?_)
 replace hst := hst.drop .u2
 refine CN <| zaa zbU rfl <| CN (SO (v := .slice _ _ _) hst zdo rfl rfl .u2 fun w hst => ?_)
 refine NSR <| CN <| zar (vs := zdH _ _ _ _ _) zb3 rfl rfl rfl (zac (n := 3) (hst.objL Q2) _ rfl) <| CN (SO (v := zb2 _ _ _ _ _) hst zb3 rfl rfl .u3 fun w hst => ?_)
 refine NL <| zah Tryz.func59 rfl (zal (vs := zdH _ _ _ _ _) rfl zb3 rfl rfl (zac (n := 3) (hst.objL Q3) _ rfl)) ?_
 replace hst := hst.pick (.cons .u1 (.cons .u0 (.cons .u0 (.cons .u0 .nil))))
 replace hst := St.rowSl (n := 2) (es := 3) hst rfl De
 replace hst := hst.pick (.cons .u1 (.cons .u0 .nil))
 exact ⟨_, _, [⟨128, 1, 2, some ⟨b7, 0, none⟩, 2, [⟨1, 3, []⟩, ⟨1, 4, []⟩]⟩], rfl, rfl, (St.pack (L1 := [_, _]) (L2 := []) hst)⟩
theorem zcg  (w : World) (hG : LxG.holds w) : Ret Tryz.prog 30 #[] w (fun v w' => v = .bool true ∧ St w NoM [] [] w') := by
 refine zav (args := []) Tryz.func30 rfl rfl rfl ?_
 have hst : St w NoM [] [LxG] w := St.init_Ds (by simp only [List.forall_mem_cons]; exact ⟨hG, fun _ h => absurd h List.not_mem_nil⟩)
 refine SR <| AB rfl <| NSR <| CN (Op1.call0  ent59 rfl  ((zwF _).mono fun v w hp => ?_))
 obtain ⟨aO1, cO1, dO1, rfl, hdO1, hp⟩ := hp
 replace hst : St _ _ (_ :: _) _ _ := hst.call0 hp
 clear hp
 refine CN <| Op1.call1 (v1 := zb2 _ _ _ _ _) zoh rfl rfl <| Ret.det (zdm (x := oneX) (se := 0) (sa := 0) (by rw [hdO1]; exact zvO) _ _ _ (hst.hD _ Q0) (Res.rmod_of_omod (hst.hL _ Q0)) (Small.one hdO1) (ziS hdO1 zvP) (by decide) (by decide)) hst fun w hst => CN <| zad (v := .tuple #[str _, gII _ _]) rfl <| CN <| Ex (str _) rfl rfl <| CN <| Ex (gII _ _) rfl rfl <| CN <| Op1.alloc hst za0 fun w b2 hst => AS rfl <| CN (SO (v := gII _ _) hst za0 rfl rfl .u0 fun w hst => ?_)
 refine NSR <| CN <| zaa zbr rfl <| CN <| zae (v := .int .i64 _) zcO rfl rfl (hst.cellL Q0 rfl) <| CN <| zak rfl rfl <| MB rfl <| zan (d := 11) rfl (fun g1 => ?_) (fun g1 => ?_)
 ·refine TK (t := 11) rfl (Vb (Dt g1)) <| zad (v := str _) rfl <| TK (t := 11) rfl (Vb (Dt g1)) <| zbV rfl rfl <| CN <| zap (u := .bool _) (Vb (Dt g1)) rfl <| AB rfl <| NL <| zah Tryz.func30 rfl (TP (v := .bool _) rfl) ?_
  exact ⟨Vb (Dt rfl), hst.pure⟩
 exfalso
 exact g1 rfl
end Go.SK
namespace Go.SK
open Go Go.Proofs
theorem ziK : zaN Tryz.prog 30 := ⟨Tryz.f30, _, Tryz.func30, Kr, rfl⟩
end Go.SK
