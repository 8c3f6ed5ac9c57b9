/-
  Steps of functions, plain law, and walks of functions: what the laws rest on.
-/
import Derived.Test.YtglmmdpeenckbaaGreatDoorSkH0c
import Derived.Test.YtglmmdpeenckbaaGreatDoorSkH1a
import Derived.Test.YtglmmdpeenckbaaGreatDoorSkH2a
import Derived.Test.YtglmmdpeenckbaaGreatDoorSkH4a
import Derived.Test.YtglmmdpeenckbaaGreatDoorSkH5a
import Derived.Test.YtglmmdpeenckbaaGreatDoorSkH7a
import Derived.Test.YtglmmdpeenckbaaGreatDoorSkH8a
import Derived.Test.YtglmmdpeenckbaaGreatDoorSkH14a
import Derived.Test.YtglmmdpeenckbaaGreatDoorSkH18a
import Derived.Test.YtglmmdpeenckbaaGreatDoorSkH19a
import Derived.Test.YtglmmdpeenckbaaGreatDoorSkH21a
import Derived.Test.YtglmmdpeenckbaaGreatDoorSkH22a
import Derived.Test.YtglmmdpeenckbaaGreatDoorSkH29a
import Derived.Test.YtglmmdpeenckbaaGreatDoorSkH30a
set_option linter.unusedVariables false
set_option linter.unusedSimpArgs false
set_option linter.unusedSectionVars false
namespace Go.SK
open Go Go.Proofs
open Go.RowKit
theorem zp1 {p : InstP} {bound e : Int} {x : Tx} (hL : zcU bound p.L = (x, e)) (w : World) (hG : LxG.holds w) (hA0 : (Res.rargs p).holds w) (hu : p.L.U32) (hop : 0 ≤ p.op) (hsm : (p.args.map za1).sum ≤ 900000000) (hla : ∀ a ∈ p.args, a.s.length ≤ 100000000000) : Ret Tryz.prog 31 #[.agg #[.int .u16 p.op, .int .u32 p.ty, .int .u32 p.res, .slice p.ao p.args.length p.cap], .int .u32 bound] w (fun v w' => v = .tuple #[str x, .int .i64 e] ∧ St w NoM [] [] w') := by
 have h := zlP p bound w hG hA0 hu hop hsm hla
 rw [hL] at h; exact h
theorem zsY (p : InstP) (bound : Int) (w : World) (hG : LxG.holds w) (hA0 : (Res.rargs p).holds w) (hu : p.L.U32) (hop : 0 ≤ p.op) (hsm : (p.args.map za1).sum ≤ 900000000) (hla : ∀ a ∈ p.args, a.s.length ≤ 100000000000) (hl : p.args.length ≤ 5864062014806) : Ret Tryz.prog 6 #[.agg #[.int .u16 p.op, .int .u32 p.ty, .int .u32 p.res, .slice p.ao p.args.length p.cap], .int .u32 bound] w (fun v w' => v = .bool true ∧ St w NoM [] [] w') := by
 refine zav (args := [.agg #[.int .u16 p.op, .int .u32 p.ty, .int .u32 p.res, .slice p.ao p.args.length p.cap], .int .u32 bound]) Tryz.func6 rfl rfl rfl ?_
 have hst : St w NoM [] [LxG, Res.rargs p] w := St.init_Ds (by simp only [List.forall_mem_cons]; exact ⟨hG, hA0, fun _ h => absurd h List.not_mem_nil⟩)
 obtain ⟨lx, le, hLP⟩ : ∃ x e, zcU bound p.L = (x, e) := ⟨_, _, rfl⟩
 refine SR <| CN <| zbi (v := zbb _ _ _ _ _ _) hst rfl rfl fun w b2 hst => AB rfl <| NSR <| CN <| zar (vs := zbg _ _ _ _ _ _) zbp rfl rfl rfl (zac (n := 4) (hst.objL Q0) _ rfl) <| MU rfl <| CN <| zaz (v1 := zbb _ _ _ _ _ _) (v2 := .int .u32 _) ent31 rfl rfl rfl <| Ret.det (zp1 hLP _ (hst.hD _ Q0) (hst.hD _ Q1) hu hop hsm hla) hst fun w hst => CN <| zad (v := .tuple #[str _, .int .i64 _]) rfl <| CN <| Ex (str _) rfl rfl <| CN <| Ex (.int .i64 _) rfl rfl <| AS rfl <| AI rfl ?_
 refine NSR <| CN <| zar (vs := zbg _ _ _ _ _ _) zbp rfl rfl rfl (zac (n := 4) (hst.objL Q0) _ rfl) <| CN (Op1.call1 (v1 := zbb _ _ _ _ _ _) zsl rfl rfl ((zc6 p _ (hst.hD _ Q1) hl).mono fun v w hp => ?_))
 obtain ⟨bC1, rfl, hp⟩ := hp
 replace hst : St _ _ (_ :: _) _ _ := hst.call0 hp
 clear hp
 refine CN <| Op1.alloc hst zbp fun w b7 hst => CN (SO (v := zbb _ _ _ _ _ _) hst zbp rfl rfl .u0 fun w hst => ?_)
 refine NSR <| CN <| zar (vs := zbg _ _ _ _ _ _) zbp rfl rfl rfl (zac (n := 4) (hst.objL Q0) _ rfl) <| MU rfl <| CN <| zaz (v1 := zbb _ _ _ _ _ _) (v2 := .int .u32 _) zwm rfl rfl rfl <| Ret.det (zg3 (p := (⟨p.op, p.ty, p.res, some ⟨bC1, 0, none⟩, p.args.length, p.args⟩ : InstP)) hLP _ (hst.hD _ Q0) (Res.rs_of_sl (hst.hL _ Q1)) hu hop hsm hla) hst fun w hst => CN <| zad (v := .tuple #[str _, .int .i64 _]) rfl <| CN <| Ex (str _) rfl rfl <| CN <| Ex (.int .i64 _) rfl rfl <| AS rfl <| AI rfl <| NL <| zaj [(2, Pp _ _), (5, str _), (6, .int .i64 _), (7, Pp _ _), (8, str _), (9, .int .i64 _)] E6 fun f => SQ <| RG ?_
 refine MS rfl <| MS rfl <| CN <| zbV rfl rfl <| MB rfl <| zan (d := 27) rfl (fun g1 => ?_) (fun g1 => ?_)
 ·refine TK (t := 27) rfl (Vb (Dt g1)) <| zad (v := .int .i64 _) rfl <| TK (t := 27) rfl (Vb (Dt g1)) <| zad (v := .int .i64 _) rfl <| TK (t := 27) rfl (Vb (Dt g1)) <| zak rfl rfl <| CN <| zap (u := .bool _) (Vb (Dt g1)) rfl <| MB rfl <| zan (d := 32) rfl (fun g2 => ?_) (fun g2 => ?_)
  ·refine TK (t := 32) rfl (Vb (Dt g2)) <| zar (vs := zbg _ _ _ _ _ _) zbp rfl rfl rfl (zac (n := 4) (hst.objL Q0) _ rfl) <| TK (t := 32) rfl (Vb (Dt g2)) <| zar (vs := zbg _ _ _ _ _ _) zbp rfl rfl rfl (zac (n := 4) (hst.objL Q2) _ rfl) <| TK (t := 32) rfl (Vb (Dt g2)) (zaz (v1 := zbb _ _ _ _ _ _) (v2 := zbb _ _ _ _ _ _) ent34 rfl rfl rfl ((zoM (⟨p.op, p.ty, p.res, some ⟨bC1, 0, none⟩, p.args.length, p.args⟩ : InstP) p _ (Res.rs_of_sl (hst.hL _ Q1)) (hst.hD _ Q1) Od).mono fun v w hp => ?_))
   obtain ⟨he, hp⟩ := hp
   replace he := he.trans (Vb (Dt rfl))
   subst he
   replace hst := hst.keepc hp
   clear hp
   refine CN <| zap (u := .bool _) (Vb (Dt g2)) rfl <| MB rfl <| TK (t := 37) rfl (Vb (rfl : true = _)) (Op1.call0  ziK rfl  ((zcg _ (hst.hD _ Q0)).mono fun v w hp => ?_))
   obtain ⟨rfl, hp⟩ := hp
   replace hst := hst.keepc hp
   clear hp
   refine CN <| zap (u := .bool _) (Vb (rfl : true = _)) rfl <| AB rfl <| NL <| zah Tryz.func6 rfl (TP (v := .bool _) rfl) ?_
   exact ⟨rfl, hst.pure⟩
  exfalso
  first | exact g2 rfl | (simp at g2; done)
 exfalso
 first | exact g1 rfl | (simp at g1; done)
end Go.SK
