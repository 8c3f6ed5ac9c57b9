/-
  Steps of functions, plain law, and walks of functions: what the laws rest on.
-/
import Derived.Test.YtglmmdpeenckbaaGreatDoorSkH0c
import Derived.Test.YtglmmdpeenckbaaGreatDoorSkH1a
import Derived.Test.YtglmmdpeenckbaaGreatDoorSkH2a
import Derived.Test.YtglmmdpeenckbaaGreatDoorSkH5a
import Derived.Test.YtglmmdpeenckbaaGreatDoorSkH8a
import Derived.Test.YtglmmdpeenckbaaGreatDoorSkH14a
import Derived.Test.YtglmmdpeenckbaaGreatDoorSkH18a
set_option linter.unusedVariables false
set_option linter.unusedSimpArgs false
set_option linter.unusedSectionVars false
namespace Go.SK
open Go Go.Proofs
open Go.RowKit
theorem zuM (p : InstP) (bound : Int) (w : World) (hG : LxG.holds w) (hA0 : (Res.rargs p).holds w) (hu : p.L.U32) (hop : 0 ≤ p.op) (hsm : (p.args.map za1).sum ≤ 900000000) (hla : ∀ a ∈ p.args, a.s.length ≤ 100000000000) : Ret Tryz.prog 33 #[.agg #[.int .u16 p.op, .int .u32 p.ty, .int .u32 p.res, .slice p.ao p.args.length p.cap], .int .u32 bound] w (fun v w' => v = .tuple #[str (zcU bound p.L).1, .int .i64 (zcU bound p.L).2] ∧ St w NoM [] [] w') := by
 refine zav (args := [.agg #[.int .u16 p.op, .int .u32 p.ty, .int .u32 p.res, .slice p.ao p.args.length p.cap], .int .u32 bound]) Tryz.func33 rfl rfl rfl ?_
 have hst : St w NoM [] [LxG, Res.rargs p] w := St.init_Ds (by simp only [List.forall_mem_cons]; exact ⟨hG, hA0, fun _ h => absurd h List.not_mem_nil⟩)
 have hyw := zgG hu hsm
 refine SR <| CN <| zbi (v := zbb _ _ _ _ _ _) hst rfl rfl fun w b2 hst => AS rfl <| AI rfl <| NL <| SQ <| SR <| CN <| zar (vs := zbg _ _ _ _ _ _) zbp rfl rfl rfl (zac (n := 4) (hst.objL Q0) _ rfl) <| MU rfl ?_
 obtain ⟨⟨rop, rws⟩, re, hR⟩ : ∃ r e, zis bound p.L = (r, e) := ⟨_, _, rfl⟩
 have hre := (zhU hR).1
 refine CN (zaz (v1 := zbb _ _ _ _ _ _) (v2 := .int .u32 _) zug rfl rfl rfl ((zim hR hop _ (hst.hD _ Q1) hsm hla).mono fun v w hp => ?_))
 obtain ⟨ro, rc, rfl, hp⟩ := hp
 replace hst : St _ _ (_ :: _) _ _ := hst.call0 hp
 clear hp
 refine CN <| zad (v := .tuple #[gHL _ _ _ _, .int .i64 _]) rfl <| CN <| Ex (gHL _ _ _ _) rfl rfl <| CN <| Ex (.int .i64 _) rfl rfl <| CN <| Op1.alloc hst zeR fun w b6 hst => CN (SO (v := gHL _ _ _ _) hst zeR rfl rfl .u0 fun w hst => ?_)
 refine AI rfl <| NSR <| MI rfl <| CN <| zaW rfl rfl <| NL <| zab rfl (fun g1 => ?_) (fun g1 => ?_)
 ·refine SR <| MI rfl <| AS rfl <| AI rfl <| NL <| zai Tryz.func33 rfl (TP (v := str _) rfl) (TP (v := .int .i64 _) rfl) ?_
  rw [zke (by rw [← hre]; exact g1), ← hre]
  exact ⟨rfl, hst.pure⟩
 refine zaf <| SR <| CN <| zar (vs := zbg _ _ _ _ _ _) zbp rfl rfl rfl (zac (n := 4) (hst.objL Q2) _ rfl) <| CN (Op1.call1 (v1 := zbb _ _ _ _ _ _) ent50 rfl rfl ((zkB p _ (hst.hD _ Q0) (hst.hD _ Q1) hu hop hsm).mono fun v w hp => ?_))
 obtain ⟨aoK, cpK, rfl, hp⟩ := hp
 replace hst : St _ _ (_ :: _) _ _ := hst.call0 hp
 clear hp
 refine CN <| Op1.call1 (v1 := .slice _ _ _) ent63 rfl rfl <| Ret.det (zkE (zgd p.L) _ _ _ (hst.hD _ Q0) (Res.rs_of_sl (hst.hL _ Q0)) hyw.2 hyw.1) hst fun w hst => CN <| Ex (str _) rfl rfl <| CN <| Ex (.int .i64 _) rfl rfl <| AS rfl <| AI rfl <| NL <| zai Tryz.func33 rfl (TP (v := str _) rfl) (TP (v := .int .i64 _) rfl) ?_
 have hw := zgF (bd := bound) (by rw [← hre]; exact Nn g1) hu
 rw [hw.2, hw.1]
 exact ⟨rfl, hst.pure⟩
end Go.SK
namespace Go.SK
open Go Go.Proofs
open Go.RowKit
theorem zg3 {p : InstP} {bound e : Int} {x : Tx} (hL : zcU bound p.L = (x, e)) (w : World) (hG : LxG.holds w) (hA0 : (Res.rargs p).holds w) (hu : p.L.U32) (hop : 0 ≤ p.op) (hsm : (p.args.map za1).sum ≤ 900000000) (hla : ∀ a ∈ p.args, a.s.length ≤ 100000000000) : Ret Tryz.prog 33 #[.agg #[.int .u16 p.op, .int .u32 p.ty, .int .u32 p.res, .slice p.ao p.args.length p.cap], .int .u32 bound] w (fun v w' => v = .tuple #[str x, .int .i64 e] ∧ St w NoM [] [] w') := by
 have h := zuM p bound w hG hA0 hu hop hsm hla
 rw [hL] at h; exact h
end Go.SK
namespace Go.SK
open Go Go.Proofs
theorem zwm : zaN Tryz.prog 33 := ⟨Tryz.f33, _, Tryz.func33, Kr, rfl⟩
end Go.SK
