/-
  Steps of functions, plain law, and walks of functions: what the laws rest on.
-/
import Derived.Test.YtglmmdpeenckbaaGreatDoorSkH0c
import Derived.Test.YtglmmdpeenckbaaGreatDoorSkH1a
import Derived.Test.YtglmmdpeenckbaaGreatDoorSkH2a
import Derived.Test.YtglmmdpeenckbaaGreatDoorSkH3a
import Derived.Test.YtglmmdpeenckbaaGreatDoorSkH5a
import Derived.Test.YtglmmdpeenckbaaGreatDoorSkH8a
import Derived.Test.YtglmmdpeenckbaaGreatDoorSkH14a
import Derived.Test.YtglmmdpeenckbaaGreatDoorSkH18a
import Derived.Test.YtglmmdpeenckbaaGreatDoorSkH21a
import Derived.Test.YtglmmdpeenckbaaGreatDoorSkH26a
import Derived.Test.YtglmmdpeenckbaaGreatDoorSkH29a
set_option linter.unusedVariables false
set_option linter.unusedSimpArgs false
set_option linter.unusedSectionVars false
namespace Go.SK
theorem zxu {l : List TokL} {x : Tx} (h : wrF l = some x) : x.length ≤ wsz l := by
  rw [zjc] at h
  cases e : wrL l with
  | none => rw [e] at h; cases h
  | some o =>
    rw [e] at h; cases h
    have : ∀ (l : List TokL) (o : List Tx), wrL l = some o → osz o ≤ wsz l := fun l => by
      induction l with
      | nil => intro o h; cases h; exact Nat.le_refl _
      | cons t r ih =>
        intro o h
        rw [wrL] at h
        cases ht : wrT t with
        | none => rw [ht] at h; cases h
        | some a =>
          rw [ht, Option.bind_some] at h
          cases hr : wrL r with
          | none => rw [hr] at h; cases h
          | some b =>
            rw [hr] at h; cases h
            have h1 := ih b hr; have h2 := zqo ht
            rw [osz, wsz]; omega
    exact Nat.le_trans (zjr o) (this l o e)
end Go.SK
namespace Go.SK
theorem zn1 {m : Bool} {n bd e : Int} (h : idH m n bd e = 0) (he : e ≠ 0) : m = decide (n ≠ 0) := by
  unfold idH at h
  split at h
  · exact absurd h he
  · rename_i h1; exact Nn h1
theorem zvy {bd : Int} {i : InstL} (hf : zbu bd i = 0) : (zgd i).length = 1 + i.args.length + (if i.ty ≠ 0 then 1 else 0) + (if i.res ≠ 0 then 2 else 0) := by
  obtain ⟨h1, h2, h3, h4, h5, h6⟩ := zes hf
  have ht := zn1 h2 De
  have hr := zn1 h3 De
  unfold zgd
  rw [List.length_append, List.length_cons, List.length_append, zij, ht, hr]
  by_cases e1 : i.ty = 0 <;> by_cases e2 : i.res = 0 <;> simp [e1, e2] <;> omega
theorem znx {bd : Int} {i : InstL} (hf : zbu bd i = 0) (hu : i.U32) : (zcU bd i).2 = 0 ∧ (za7 (zcU bd i).1).2 = (0, 0) ∧ (za7 (zcU bd i).1).1.length = 1 + i.args.length + (if i.ty ≠ 0 then 1 else 0) + (if i.res ≠ 0 then 2 else 0) := by
  obtain ⟨o, ho, hp, _⟩ := zfu hf hu
  rw [hp]
  dsimp only
  rw [zfz ho, (zfm _ _ 0 ho).1, zvy hf]
  exact ⟨rfl, rfl, rfl⟩
end Go.SK
namespace Go.SK
open Go.RowKit
theorem zpD {bd : Int} {i : InstL} (hu : i.U32) (hs : (i.args.map za1).sum ≤ 900000000) : (zcU bd i).1.length ≤ 1099511627776 := by
  have hw := (zgG hu hs).1
  unfold zcU
  split
  · exact Nat.zero_le _
  · show (wrS (zgd i)).length ≤ _
    unfold wrS
    cases h : wrF (zgd i) with
    | none => exact Nat.zero_le _
    | some x => exact Nat.le_trans (zxu h) hw
theorem znQ {bd e : Int} {i : InstL} {x : Tx} (h : zcU bd i = (x, e)) {re : Int} (hre : re = zbu bd i) (h0 : re ≠ 0) : x = [] ∧ e = re := by
  have := (zke (by rw [← hre]; exact h0)).symm.trans h
  injection this with h1 h2
  exact ⟨h1.symm, by rw [← h2, hre]⟩
theorem znP {bd e : Int} {i : InstL} {x : Tx} (h : zcU bd i = (x, e)) {re : Int} (hre : re = zbu bd i) (h0 : re = 0) (hu : i.U32) : e = 0 ∧ (za7 x).2 = (0, 0) ∧ (za7 x).1.length = 1 + i.args.length + (if i.ty ≠ 0 then 1 else 0) + (if i.res ≠ 0 then 2 else 0) := by
  have := znx (bd := bd) (by rw [← hre]; exact h0) hu
  rw [h] at this; exact this
end Go.SK
namespace Go.SK
open Go Go.Proofs
open Go.RowKit
theorem zrq (p : InstP) (bound : Int) (w : World) (hG : LxG.holds w) (hA0 : (Res.rargs p).holds w) (hu : p.L.U32) (hop : 0 ≤ p.op) (hsm : (p.args.map za1).sum ≤ 900000000) (hla : ∀ a ∈ p.args, a.s.length ≤ 100000000000) (hl : p.args.length ≤ 5864062014806) : Ret Tryz.prog 8 #[.agg #[.int .u16 p.op, .int .u32 p.ty, .int .u32 p.res, .slice p.ao p.args.length p.cap], .int .u32 bound] w (fun v w' => v = .bool true ∧ St w NoM [] [] w') := by
 refine zav (args := [.agg #[.int .u16 p.op, .int .u32 p.ty, .int .u32 p.res, .slice p.ao p.args.length p.cap], .int .u32 bound]) Tryz.func8 rfl rfl rfl ?_
 have hst : St w NoM [] [LxG, Res.rargs p] w := St.init_Ds (by simp only [List.forall_mem_cons]; exact ⟨hG, hA0, fun _ h => absurd h List.not_mem_nil⟩)
 obtain ⟨lx, le, hLP⟩ : ∃ x e, zcU bound p.L = (x, e) := ⟨_, _, rfl⟩
 obtain ⟨rop, rws, re, hR⟩ : ∃ rop rws re, zis bound p.L = ((rop, rws), re) := ⟨_, _, _, rfl⟩
 have hre := (zhU hR).1
 refine SR <| CN <| zbi (v := zbb _ _ _ _ _ _) hst rfl rfl fun w b2 hst => AB rfl <| NSR <| CN <| zar (vs := zbg _ _ _ _ _ _) zbp rfl rfl rfl (zac (n := 4) (hst.objL Q0) _ rfl) <| CN (Op1.call1 (v1 := zbb _ _ _ _ _ _) zsl rfl rfl ((zc6 p _ (hst.hD _ Q1) hl).mono fun v w hp => ?_))
 obtain ⟨bC1, rfl, hp⟩ := hp
 replace hst : St _ _ (_ :: _) _ _ := hst.call0 hp
 clear hp
 refine MU rfl <| CN (zaz (v1 := zbb _ _ _ _ _ _) (v2 := .int .u32 _) zug rfl rfl rfl ((zim (p := (⟨p.op, p.ty, p.res, some ⟨bC1, 0, none⟩, p.args.length, p.args⟩ : InstP)) hR hop _ (Res.rs_of_sl (hst.hL _ Q0)) hsm hla).mono fun v w hp => ?_))
 obtain ⟨ro, rc, rfl, hp⟩ := hp
 replace hst : St _ _ (_ :: _) _ _ := hst.call0 hp
 clear hp
 refine CN <| zad (v := .tuple #[gHL _ _ _ _, .int .i64 _]) rfl <| CN <| Ex (gHL _ _ _ _) rfl rfl <| CN <| Ex (.int .i64 _) rfl rfl <| CN <| Op1.alloc hst zeR fun w b5 hst => CN (SO (v := gHL _ _ _ _) hst zeR rfl rfl .u0 fun w hst => ?_)
 refine AI rfl <| NSR <| CN <| zar (vs := zbg _ _ _ _ _ _) zbp rfl rfl rfl (zac (n := 4) (hst.objL Q3) _ rfl) <| CN (Op1.call1 (v1 := zbb _ _ _ _ _ _) zsl rfl rfl ((zc6 p _ (hst.hD _ Q1) hl).mono fun v w hp => ?_))
 obtain ⟨bC2, rfl, hp⟩ := hp
 replace hst : St _ _ (_ :: _) _ _ := hst.call0 hp
 clear hp
 refine MU rfl <| CN <| zaz (v1 := zbb _ _ _ _ _ _) (v2 := .int .u32 _) zwm rfl rfl rfl <| Ret.det (zg3 (p := (⟨p.op, p.ty, p.res, some ⟨bC2, 0, none⟩, p.args.length, p.args⟩ : InstP)) hLP _ (hst.hD _ Q0) (Res.rs_of_sl (hst.hL _ Q0)) hu hop hsm hla) hst fun w hst => CN <| zad (v := .tuple #[str _, .int .i64 _]) rfl <| CN <| Ex (str _) rfl rfl <| CN <| Ex (.int .i64 _) rfl rfl <| AS rfl <| AI rfl <| NL <| zaj [(2, Pp _ _), (5, Pp _ _), (6, .int .i64 _), (7, str _), (8, .int .i64 _)] E5 fun f => SQ <| SR <| MI rfl <| CN <| zaW rfl rfl <| NL ?_
 refine zab rfl (fun g1 => ?_) (fun g1 => ?_)
 ·have hz := znQ hLP hre g1
  have hz2 := (zhU hR).2.2 g1
  simp only [Prod.mk.injEq] at hz2
  have hz3 : rws.length = 0 := by rw [hz2.2]; rfl
  obtain ⟨rfl, rfl⟩ := hz
  refine SR <| MS rfl <| CN <| zbV rfl rfl <| MB rfl <| zan (d := 30) rfl (fun g2 => ?_) (fun g2 => ?_)
  ·refine TK (t := 30) rfl (Vb (Dt g2)) <| zad (v := .int .i64 _) rfl <| TK (t := 30) rfl (Vb (Dt g2)) <| zad (v := .int .i64 _) rfl <| TK (t := 30) rfl (Vb (Dt g2)) <| zak rfl rfl <| CN <| zap (u := .bool _) (Vb (Dt g2)) rfl <| MB rfl <| zan (d := 35) rfl (fun g3 => ?_) (fun g3 => ?_)
   ·refine TK (t := 35) rfl (Vb (Dt g3)) <| zaa zdJ rfl <| TK (t := 35) rfl (Vb (Dt g3)) <| zae (v := .slice _ _ _) ze7 rfl rfl (hst.cellL Q1 rfl) <| TK (t := 35) rfl (Vb (Dt g3)) <| zaQ (rest := []) ze7 rfl <| TK (t := 35) rfl (Vb (Dt g3)) <| zak rfl rfl <| CN <| zap (u := .bool _) (Vb (Dt g3)) rfl <| MB rfl <| zan (d := 41) rfl (fun g4 => ?_) (fun g4 => ?_)
    ·refine TK (t := 41) rfl (Vb (Dt g4)) (Op1.call0  ziK rfl  ((zcg _ (hst.hD _ Q0)).mono fun v w hp => ?_))
     obtain ⟨rfl, hp⟩ := hp
     replace hst := hst.keepc hp
     clear hp
     refine CN <| zap (u := .bool _) (Vb (Dt g4)) rfl <| AB rfl <| NL <| zah Tryz.func8 rfl (TP (v := .bool _) rfl) ?_
     exact ⟨rfl, hst.pure⟩
    exfalso
    first | exact g4 rfl | exact g4 he0 | exact g4 hz3 | (simp at g4; done) | omega
   exfalso
   first | exact g3 rfl | exact g3 he0 | exact g3 hz3 | (simp at g3; done) | omega
  exfalso
  first | exact g2 rfl | exact g2 he0 | exact g2 hz3 | (simp at g2; done) | omega
 obtain ⟨he0, ht0, htl⟩ := znP hLP hre (Nn g1) hu
 obtain ⟨⟨tl, te, ta⟩, hTK⟩ : ∃ r, za7 lx = r := ⟨_, rfl⟩
 rw [hTK] at ht0 htl
 dsimp only at ht0 htl
 obtain ⟨rfl, rfl⟩ : te = 0 ∧ ta = 0 := by injection ht0 with h1 h2; exact ⟨h1, h2⟩
 have hlx := zpD (bd := bound) hu hsm
 rw [hLP] at hlx
 refine zaf <| SR <| MS rfl <| CN (Op1.call1 (v1 := str _) zwl rfl rfl ((zoO lx tl 0 0 hTK _ (hst.hD _ Q0) hlx).mono fun v w hp => ?_))
 obtain ⟨aoK, cpK, rfl, hp⟩ := hp
 replace hst : St _ _ (_ :: _) _ _ := hst.call0 hp
 clear hp
 refine CN <| zad (v := .tuple #[.slice _ _ _, gII _ _]) rfl <| CN <| Ex (.slice _ _ _) rfl rfl <| CN <| Ex (gII _ _) rfl rfl <| CN <| Op1.alloc hst za0 fun w b10 hst => AL rfl <| CN (SO (v := gII _ _) hst za0 rfl rfl .u0 fun w hst => ?_)
 refine NSR <| CN <| zaa zbR rfl <| CN <| zae (v := .slice _ _ _) zdb rfl rfl (hst.cellL Q6 rfl) <| CN <| zaQ (rest := []) zdb rfl <| CN <| zas rfl rfl rfl zbe <| AI rfl <| NL <| SQ <| SR <| CN <| zaa zdK rfl <| CN <| zae (v := .int .u32 _) zbt rfl rfl (hst.cellL Q6 rfl) <| CN (zaW rfl rfl ?_)
 refine NL <| zab rfl (fun g5 => ?_) (fun g5 => ?_)
 ·rw [show (if p.L.ty ≠ 0 then 1 else 0) = 1 from if_pos g5] at htl
  refine RG <| MI rfl <| CN <| zas rfl rfl rfl zbe <| AI rfl <| NL <| zaj [(2, Pp _ _), (8, .int .i64 _), (9, .slice _ _ _), (10, Pp _ _), (11, .int .i64 _)] E5 fun f => SQ <| SR <| CN <| zaa zeb rfl <| CN <| zae (v := .int .u32 _) zbt rfl rfl (hst.cellL Q6 rfl) <| CN <| zaW rfl rfl <| NL <| zab rfl (fun g6 => ?_) (fun g6 => ?_)
  ·rw [show (if p.L.res ≠ 0 then 2 else 0) = 2 from if_pos g6] at htl
   have htm : tl.length = 1 + p.args.length + 1 + 2 := htl
   refine RG <| MI rfl <| CN <| zas rfl rfl rfl zbe <| AI rfl <| NSR <| MI rfl <| CN <| zak rfl rfl <| MB rfl <| zan (d := 65) rfl (fun g7 => ?_) (fun g7 => ?_)
   ·refine TK (t := 65) rfl (Vb (Dt g7)) <| zaa zbr rfl <| TK (t := 65) rfl (Vb (Dt g7)) <| zae (v := .int .i64 _) zcO rfl rfl (hst.cellL Q0 rfl) <| TK (t := 65) rfl (Vb (Dt g7)) <| zak rfl rfl <| CN <| zap (u := .bool _) (Vb (Dt g7)) rfl <| MB rfl <| zan (d := 70) rfl (fun g8 => ?_) (fun g8 => ?_)
    ·refine TK (t := 70) rfl (Vb (Dt g8)) <| zad (v := .slice _ _ _) rfl <| TK (t := 70) rfl (Vb (Dt g8)) <| zaQ (rest := []) zcB rfl <| TK (t := 70) rfl (Vb (Dt g8)) <| zad (v := .int .i64 _) rfl <| TK (t := 70) rfl (Vb (Dt g8)) <| zak rfl rfl <| CN <| zap (u := .bool _) (Vb (Dt g8)) rfl <| MB rfl <| zan (d := 76) rfl (fun g9 => ?_) (fun g9 => ?_)
     ·refine TK (t := 76) rfl (Vb (Dt g9)) (Op1.call0  ziK rfl  ((zcg _ (hst.hD _ Q0)).mono fun v w hp => ?_))
      obtain ⟨rfl, hp⟩ := hp
      replace hst := hst.keepc hp
      clear hp
      refine CN <| zap (u := .bool _) (Vb (Dt g9)) rfl <| AB rfl <| NL <| zah Tryz.func8 rfl (TP (v := .bool _) rfl) ?_
      exact ⟨rfl, hst.pure⟩
     exfalso
     first | exact g9 rfl | exact g9 he0 | exact g9 hz3 | (simp at g9; done) | omega
    exfalso
    first | exact g8 rfl | exact g8 he0 | exact g8 hz3 | (simp at g8; done) | omega
   exfalso
   first | exact g7 rfl | exact g7 he0 | exact g7 hz3 | (simp at g7; done) | omega
  rw [show (if p.L.res ≠ 0 then 2 else 0) = 0 from if_neg g6] at htl
  have htm : tl.length = 1 + p.args.length + 1 + 0 := htl
  refine zaf <| SR <| MI rfl <| CN <| zak rfl rfl <| MB rfl <| zan (d := 65) rfl (fun g10 => ?_) (fun g10 => ?_)
  ·refine TK (t := 65) rfl (Vb (Dt g10)) <| zaa zbr rfl <| TK (t := 65) rfl (Vb (Dt g10)) <| zae (v := .int .i64 _) zcO rfl rfl (hst.cellL Q0 rfl) <| TK (t := 65) rfl (Vb (Dt g10)) <| zak rfl rfl <| CN <| zap (u := .bool _) (Vb (Dt g10)) rfl <| MB rfl <| zan (d := 70) rfl (fun g11 => ?_) (fun g11 => ?_)
   ·refine TK (t := 70) rfl (Vb (Dt g11)) <| zad (v := .slice _ _ _) rfl <| TK (t := 70) rfl (Vb (Dt g11)) <| zaQ (rest := []) zcB rfl <| TK (t := 70) rfl (Vb (Dt g11)) <| zad (v := .int .i64 _) rfl <| TK (t := 70) rfl (Vb (Dt g11)) <| zak rfl rfl <| CN <| zap (u := .bool _) (Vb (Dt g11)) rfl <| MB rfl <| zan (d := 76) rfl (fun g12 => ?_) (fun g12 => ?_)
    ·refine TK (t := 76) rfl (Vb (Dt g12)) (Op1.call0  ziK rfl  ((zcg _ (hst.hD _ Q0)).mono fun v w hp => ?_))
     obtain ⟨rfl, hp⟩ := hp
     replace hst := hst.keepc hp
     clear hp
     refine CN <| zap (u := .bool _) (Vb (Dt g12)) rfl <| AB rfl <| NL <| zah Tryz.func8 rfl (TP (v := .bool _) rfl) ?_
     exact ⟨rfl, hst.pure⟩
    exfalso
    first | exact g12 rfl | exact g12 he0 | exact g12 hz3 | (simp at g12; done) | omega
   exfalso
   first | exact g11 rfl | exact g11 he0 | exact g11 hz3 | (simp at g11; done) | omega
  exfalso
  first | exact g10 rfl | exact g10 he0 | exact g10 hz3 | (simp at g10; done) | omega
 rw [show (if p.L.ty ≠ 0 then 1 else 0) = 0 from if_neg g5] at htl
 refine zaf <| SQ <| SR <| CN <| zaa zeb rfl <| CN <| zae (v := .int .u32 _) zbt rfl rfl (hst.cellL Q6 rfl) <| CN <| zaW rfl rfl <| NL <| zaj [(8, .int .i64 _), (9, .slice _ _ _), (10, Pp _ _), (11, .int .i64 _), (60, .bool _)] E5 fun f => zab rfl (fun g13 => ?_) (fun g13 => ?_)
 ·rw [show (if p.L.res ≠ 0 then 2 else 0) = 2 from if_pos g13] at htl
  have htm : tl.length = 1 + p.args.length + 0 + 2 := htl
  refine RG <| MI rfl <| CN <| zas rfl rfl rfl zbe <| AI rfl <| NSR <| MI rfl <| CN <| zak rfl rfl <| MB rfl <| zan (d := 65) rfl (fun g14 => ?_) (fun g14 => ?_)
  ·refine TK (t := 65) rfl (Vb (Dt g14)) <| zaa zbr rfl <| TK (t := 65) rfl (Vb (Dt g14)) <| zae (v := .int .i64 _) zcO rfl rfl (hst.cellL Q0 rfl) <| TK (t := 65) rfl (Vb (Dt g14)) <| zak rfl rfl <| CN <| zap (u := .bool _) (Vb (Dt g14)) rfl <| MB rfl <| zan (d := 70) rfl (fun g15 => ?_) (fun g15 => ?_)
   ·refine TK (t := 70) rfl (Vb (Dt g15)) <| zad (v := .slice _ _ _) rfl <| TK (t := 70) rfl (Vb (Dt g15)) <| zaQ (rest := []) zcB rfl <| TK (t := 70) rfl (Vb (Dt g15)) <| zad (v := .int .i64 _) rfl <| TK (t := 70) rfl (Vb (Dt g15)) <| zak rfl rfl <| CN <| zap (u := .bool _) (Vb (Dt g15)) rfl <| MB rfl <| zan (d := 76) rfl (fun g16 => ?_) (fun g16 => ?_)
    ·refine TK (t := 76) rfl (Vb (Dt g16)) (Op1.call0  ziK rfl  ((zcg _ (hst.hD _ Q0)).mono fun v w hp => ?_))
     obtain ⟨rfl, hp⟩ := hp
     replace hst := hst.keepc hp
     clear hp
     refine CN <| zap (u := .bool _) (Vb (Dt g16)) rfl <| AB rfl <| NL <| zah Tryz.func8 rfl (TP (v := .bool _) rfl) ?_
     exact ⟨rfl, hst.pure⟩
    exfalso
    first | exact g16 rfl | exact g16 he0 | exact g16 hz3 | (simp at g16; done) | omega
   exfalso
   first | exact g15 rfl | exact g15 he0 | exact g15 hz3 | (simp at g15; done) | omega
  exfalso
  first | exact g14 rfl | exact g14 he0 | exact g14 hz3 | (simp at g14; done) | omega
 rw [show (if p.L.res ≠ 0 then 2 else 0) = 0 from if_neg g13] at htl
 have htm : tl.length = 1 + p.args.length + 0 + 0 := htl
 refine zaf <| SR <| MI rfl <| CN <| zak rfl rfl <| MB rfl <| zan (d := 65) rfl (fun g17 => ?_) (fun g17 => ?_)
 ·refine TK (t := 65) rfl (Vb (Dt g17)) <| zaa zbr rfl <| TK (t := 65) rfl (Vb (Dt g17)) <| zae (v := .int .i64 _) zcO rfl rfl (hst.cellL Q0 rfl) <| TK (t := 65) rfl (Vb (Dt g17)) <| zak rfl rfl <| CN <| zap (u := .bool _) (Vb (Dt g17)) rfl <| MB rfl <| zan (d := 70) rfl (fun g18 => ?_) (fun g18 => ?_)
  ·refine TK (t := 70) rfl (Vb (Dt g18)) <| zad (v := .slice _ _ _) rfl <| TK (t := 70) rfl (Vb (Dt g18)) <| zaQ (rest := []) zcB rfl <| TK (t := 70) rfl (Vb (Dt g18)) <| zad (v := .int .i64 _) rfl <| TK (t := 70) rfl (Vb (Dt g18)) <| zak rfl rfl <| CN <| zap (u := .bool _) (Vb (Dt g18)) rfl <| MB rfl <| zan (d := 76) rfl (fun g19 => ?_) (fun g19 => ?_)
   ·refine TK (t := 76) rfl (Vb (Dt g19)) (Op1.call0  ziK rfl  ((zcg _ (hst.hD _ Q0)).mono fun v w hp => ?_))
    obtain ⟨rfl, hp⟩ := hp
    replace hst := hst.keepc hp
    clear hp
    refine CN <| zap (u := .bool _) (Vb (Dt g19)) rfl <| AB rfl <| NL <| zah Tryz.func8 rfl (TP (v := .bool _) rfl) ?_
    exact ⟨rfl, hst.pure⟩
   exfalso
   first | exact g19 rfl | exact g19 he0 | exact g19 hz3 | (simp at g19; done) | omega
  exfalso
  first | exact g18 rfl | exact g18 he0 | exact g18 hz3 | (simp at g18; done) | omega
 exfalso
 first | exact g17 rfl | exact g17 he0 | exact g17 hz3 | (simp at g17; done) | omega
end Go.SK
