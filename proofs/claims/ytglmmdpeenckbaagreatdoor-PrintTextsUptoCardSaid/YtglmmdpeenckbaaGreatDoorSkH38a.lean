/-
  Steps of functions, plain law, and walks of functions: what the laws rest on.
-/
import Derived.Test.YtglmmdpeenckbaaGreatDoorSkH0c
import Derived.Test.YtglmmdpeenckbaaGreatDoorSkH1a
import Derived.Test.YtglmmdpeenckbaaGreatDoorSkH2a
import Derived.Test.YtglmmdpeenckbaaGreatDoorSkH4a
import Derived.Test.YtglmmdpeenckbaaGreatDoorSkH5a
import Derived.Test.YtglmmdpeenckbaaGreatDoorSkH7a
import Derived.Test.YtglmmdpeenckbaaGreatDoorSkH8a
import Derived.Test.YtglmmdpeenckbaaGreatDoorSkH10a
import Derived.Test.YtglmmdpeenckbaaGreatDoorSkH11a
import Derived.Test.YtglmmdpeenckbaaGreatDoorSkH13a
import Derived.Test.YtglmmdpeenckbaaGreatDoorSkH14a
import Derived.Test.YtglmmdpeenckbaaGreatDoorSkH18a
import Derived.Test.YtglmmdpeenckbaaGreatDoorSkH19a
import Derived.Test.YtglmmdpeenckbaaGreatDoorSkH22a
import Derived.Test.YtglmmdpeenckbaaGreatDoorSkH23a
import Derived.Test.YtglmmdpeenckbaaGreatDoorSkH24a
import Derived.Test.YtglmmdpeenckbaaGreatDoorSkH27a
import Derived.Test.YtglmmdpeenckbaaGreatDoorSkH30a
set_option linter.unusedVariables false
set_option linter.unusedSimpArgs false
set_option linter.unusedSectionVars false
namespace Go.SK
open Go Go.Proofs
open Go.RowKit
theorem zoG (gn bd : Int) (l : List InstP) (ao : Option Addr) (cp : Nat) (w : World) (hA : (Res.rmod ao l).holds w) (hl : l.length ≤ 3000000000000) (hop : ∀ i ∈ l, 0 ≤ i.op) (hsm : ∀ i ∈ l, (i.args.map za1).sum ≤ 900000000) (hla : ∀ i ∈ l, ∀ a ∈ i.args, a.s.length ≤ 100000000000) : Ret Tryz.prog 57 #[.agg #[.int .u32 gn, .int .u32 bd, .slice ao l.length cp]] w (fun v w' => v = .agg #[.int .i64 (zbz bd (l.map InstP.L)).1, .int .i64 (zbz bd (l.map InstP.L)).2] ∧ St w NoM [] [] w') := by
 refine zav (args := [.agg #[.int .u32 gn, .int .u32 bd, .slice ao l.length cp]]) Tryz.func57 rfl rfl rfl ?_
 have hst : St w NoM [] [Res.rmod ao l] w := St.init_D hA
 clear hA
 refine SR <| CN <| zbi (v := zb2 _ _ _ _ _) hst rfl rfl fun w b1 hst => CN <| Op1.alloc hst za0 fun w b2 hst => NL <| SQ <| SR <| CN <| zaa zcA rfl <| CN <| zae (v := .int .u32 _) zbt rfl rfl (hst.cellL Q1 rfl) <| CN <| zak rfl rfl <| MB rfl <| zan (d := 11) rfl (fun g1 => ?_) (fun g1 => ?_)
 ·refine OM (t := 11) rfl (Vb (Dt g1)) rfl <| OM (t := 11) rfl (Vb (Dt g1)) rfl <| OM (t := 11) rfl (Vb (Dt g1)) rfl <| CN <| zap (u := .bool _) (Vb (Dt g1)) rfl <| NL <| zax (Vb (rfl : true = _)) <| SR <| CN (zag za0 zcE (.c (v := .int .i64 _) rfl (h := .nil)) ?_)
  refine CN (SO (v := gII _ _) hst za0 rfl rfl .u0 fun w hst => ?_)
  refine NL <| zah Tryz.func57 rfl (zal (vs := lII _ _) rfl za0 rfl rfl (zac (n := 2) (hst.objL Q0) _ rfl)) ?_
  have hS := zeY (bound := bd) (l := (l.map InstP.L)) Om
  rw [hS]
  exact ⟨rfl, hst.pure⟩
 refine TK (t := 11) rfl (Vb (Df g1)) <| zaa zcA rfl <| TK (t := 11) rfl (Vb (Df g1)) <| zae (v := .int .u32 _) zbt rfl rfl (hst.cellL Q1 rfl) <| TK (t := 11) rfl (Vb (Df g1)) <| zbm rfl rfl <| CN <| zaq (u := .bool _) (Vb (Df g1)) rfl <| NL <| zab rfl (fun g2 => ?_) (fun g2 => ?_)
 ·refine SR <| CN (zag za0 zcE (.c (v := .int .i64 _) rfl (h := .nil)) ?_)
  refine CN (SO (v := gII _ _) hst za0 rfl rfl .u0 fun w hst => ?_)
  refine NL <| zah Tryz.func57 rfl (zal (vs := lII _ _) rfl za0 rfl rfl (zac (n := 2) (hst.objL Q0) _ rfl)) ?_
  have hS := zeY (bound := bd) (l := (l.map InstP.L)) Om
  rw [hS]
  exact ⟨rfl, hst.pure⟩
 refine zaf <| SR <| AI rfl <| NL <| SQ <| SR <| AI rfl <| NL <| zao <| zaV <| zaU [(1, Pp _ _), (2, Pp _ _)] E2 (fun (q : Nat × Nat) => [(3, .int .i64 (q.2 : Int)), (4, .int .i64 (q.1 : Int))]) (fun (q : Nat × Nat) => []) (fun (q : Nat × Nat) => q.1 ≤ l.length ∧ zcP bd 5 0 (l.map InstP.L) = zcP bd q.2 q.1 ((l.map InstP.L).drop q.1) ∧ q.2 ≤ 1048576) (fun (q : Nat × Nat) => l.length - q.1) ((0, 5)) hst ⟨Nat.zero_le _, rfl, by decide⟩ E2 ?_
 intro ⟨i, n⟩ f w hst hJ ih3
 replace hst : St _ _ ([] ++ [_, _]) _ _ := hst
 replace hJ : i ≤ l.length ∧ zcP bd 5 0 (l.map InstP.L) = zcP bd n i ((l.map InstP.L).drop i) ∧ n ≤ 1048576 := hJ
 refine za2 (sl := [(3, .int .i64 (n : Int)), (4, .int .i64 (i : Int))]) E2 <| SQ <| SR <| MI rfl <| CN <| zaa zbU rfl <| CN <| zae (v := .slice _ _ _) zdo rfl rfl (hst.cellL Q1 rfl) <| CN <| zaQ (rest := []) zdo rfl <| CN <| zaS rfl rfl <| NL <| zab rfl (fun g4 => ?_) (fun g4 => ?_)
 ·have hmem : (l.getD i zeroI) ∈ l := zb8 Om
  have hidx : l.getD ((i : Int)).toNat zeroI = (l.getD i zeroI) := rfl
  obtain ⟨fe, hfe⟩ : ∃ fe, zbu bd (l.getD i zeroI).L = fe := ⟨_, rfl⟩
  obtain ⟨fm, hfm⟩ : ∃ fm, zbq (l.getD i zeroI).op = fm := ⟨_, rfl⟩
  obtain ⟨ob, hob⟩ : ∃ ob, (zbv (l.getD i zeroI).op).isSome = ob := ⟨_, rfl⟩
  have hsh := zjS (bound := bd) (n := n) (k := i) (l := (l.map InstP.L)) (j := i) (by rw [List.length_map]; omega)
  rw [zj8 (by omega), hfe] at hsh
  dsimp only at hsh
  rw [hfm] at hsh
  refine zaf <| SQ <| zao <| SQ <| RunD.start [] hst (bs := [0, 1, 0, 7, 15, 0, 32, 127, 255]) (ds := [some 24, some 25, some 26, some 27, some 28, some 29, some 30, some 31, some 5]) ⟨Kr, Kr, Kr⟩ (fun tab5 => ?_)
  refine DO tab5 1 (fun f' L' w' hc=> zaa zbU (hc.old (v := Pp _ _) rfl rfl rfl) hc.z) <| DO tab5 2 (fun f' L' w' hc=> zae (v := .slice _ _ _) zdo rfl (hc.d 0 rfl rfl rfl rfl) (hc.st.cellL (List.mem_append_right _ Q1) rfl) hc.z) <| DO tab5 3 (fun f' L' w' hc=> zad (v := .int .i64 _) (hc.old rfl rfl rfl) hc.z) <| DO tab5 4 (fun f' L' w' hc=> zaO zdo zbp (Res.rmod_insts (hc.st.hD _ Q0)) (hc.d 1 rfl rfl rfl rfl) (hc.d 2 rfl rfl rfl rfl) Om Om hc.z) <| DO tab5 5 (fun f' L' w' hc=> zar (vs := zbg _ _ _ _ _ _) zbp rfl (hc.d 3 rfl rfl rfl rfl) rfl (Res.rs2_cells (m := 4) (Res.rmod_insts (hc.st.hD _ Q0)) _ (zbG (g := zdu) (d := zeroI) zcG _ _ Om)) hc.z) <| DO tab5 6 (fun f' L' w' hc=> zaa zcA (hc.old (v := Pp _ _) rfl rfl rfl) hc.z) <| DO tab5 7 (fun _ _ _ hc => zae (v := .int .u32 _) zbt rfl (hc.d 5 rfl rfl rfl rfl) (hc.st.cellL (List.mem_append_right _ Q1) rfl) hc.z) <| RunD.fin zaw tab5 hst rfl (fun f6 w R9 hs7 hd8 hr10 hst => ?_)
  obtain ⟨h24_, r0⟩ := hd8 0 24 rfl rfl
  obtain ⟨h25_, r1⟩ := hd8 1 25 rfl rfl
  obtain ⟨h26_, r2⟩ := hd8 2 26 rfl rfl
  obtain ⟨h27_, r3⟩ := hd8 3 27 rfl rfl
  obtain ⟨h28_, r4⟩ := hd8 4 28 rfl rfl
  obtain ⟨h29_, r5⟩ := hd8 5 29 rfl rfl
  obtain ⟨h30_, r6⟩ := hd8 6 30 rfl rfl
  simp only [rg7, Fc, Fn, Mc, Mn, r0, r1, r2, r3, r4, r5, r6, Na, An, Ca] at hst
  refine zaD (sl := [(1, Pp _ _), (2, Pp _ _), (3, .int .i64 _), (4, .int .i64 _), (28, zbb _ _ _ _ _ _), (30, .int .u32 _)]) ⟨(hs7 1 rfl).trans rfl, (hs7 2 rfl).trans rfl, (hs7 3 rfl).trans rfl, (hs7 4 rfl).trans rfl, h28_, h30_, trivial⟩ ?_
  clear hs7 hd8 hr10 tab5
  refine CN <| zaz (v1 := zbb _ _ _ _ _ _) (v2 := .int .u32 _) zxp rfl rfl rfl <| zf0 (zi2 (l.getD i zeroI) bd (hop _ hmem) _ (Res.rmod_argsI (hst.hD _ Q0) (i := i) Om) (hsm _ hmem) (hla _ hmem)) (Vi hfe) hst fun w hst => AI rfl <| NL <| SQ <| SR <| MI rfl <| CN <| zaW rfl rfl <| NL <| zab rfl (fun g11 => ?_) (fun g11 => ?_)
  ·refine SR <| MI rfl <| MI rfl <| CN (zag za0 zcE (.c (v := .int .i64 _) rfl (h := (.c (v := .int .i64 _) rfl (h := .nil)))) ?_)
   refine CN (SO (v := gII _ _) hst za0 rfl rfl .u0 fun w hst => ?_)
   refine NL <| zah Tryz.func57 rfl (zal (vs := lII _ _) rfl za0 rfl rfl (zac (n := 2) (hst.objL Q0) _ rfl)) ?_
   rw [if_pos g11] at hsh
   have hS := zfi (bound := bd) (l := (l.map InstP.L)) Om Om
   rw [hJ.2.1, hsh] at hS
   rw [hS]
   exact ⟨rfl, hst.pure⟩
  refine zaf <| SR <| CN <| zaa zbU rfl <| CN <| zae (v := .slice _ _ _) zdo rfl rfl (hst.cellL Q1 rfl) <| MI rfl <| CN <| zaO zdo zbp (Res.rmod_insts (hst.hD _ Q0)) rfl rfl Om Om <| CN <| zaa zdj rfl <| CN <| zae (v := .int .u16 _) zi4 rfl rfl (Res.rs2_cellF (Res.rmod_insts (hst.hD _ Q0)) (za3 (g := zdu) (d := zeroI) zcG rfl Om)) <| CN <| Op1.call1 (v1 := .int .u16 _) zog rfl rfl <| Ret.det (zeJ hfm hob _) hst fun w hst => CN <| zad (v := .tuple #[zau _ _ _ _ _ _ _ _, .bool _]) rfl <| CN <| Ex (zau _ _ _ _ _ _ _ _) rfl rfl <| CN <| Ex (.bool _) rfl rfl <| CN <| Op1.alloc hst zaM fun w b6 hst => CN (SO (v := zau _ _ _ _ _ _ _ _) hst zaM rfl rfl .u0 fun w hst => ?_)
  refine AB rfl <| NL <| zaj [(1, Pp _ _), (2, Pp _ _), (3, .int .i64 _), (4, .int .i64 _), (6, Pp _ _)] E5 fun f => SQ ?_
  have hrb : (zbT fm (l.getD i zeroI).args : Int) ≤ 900000003 := by have := hsm _ hmem; unfold zbT b2n; split <;> split <;> omega
  refine RunD.start [] hst (bs := [0, 0, 2, 0, 14, 30, 0, 126, 255, 511]) (ds := [some 47, some 48, some 49, some 50, some 51, some 52, some 53, some 54, some 55, some 3]) ⟨Kr, Kr, Kr⟩ (fun tab12 => ?_)
  refine DO tab12 1 (fun f' L' w' hc=> zad (v := .int .i64 _) (hc.old rfl rfl rfl) hc.z) <| DO tab12 2 (fun f' L' w' hc=> zaa zbU (hc.old (v := Pp _ _) rfl rfl rfl) hc.z) <| DO tab12 3 (fun f' L' w' hc=> zae (v := .slice _ _ _) zdo rfl (hc.d 1 rfl rfl rfl rfl) (hc.st.cellL (List.mem_append_right _ Q2) rfl) hc.z) <| DO tab12 4 (fun f' L' w' hc=> zad (v := .int .i64 _) (hc.old rfl rfl rfl) hc.z) <| DO tab12 5 (fun f' L' w' hc=> zaO zdo zbp (Res.rmod_insts (hc.st.hD _ Q0)) (hc.d 2 rfl rfl rfl rfl) (hc.d 3 rfl rfl rfl rfl) Om Om hc.z) <| DO tab12 6 (fun f' L' w' hc=> zar (vs := zbg _ _ _ _ _ _) zbp rfl (hc.d 4 rfl rfl rfl rfl) rfl (Res.rs2_cells (m := 4) (Res.rmod_insts (hc.st.hD _ Q0)) _ (zbG (g := zdu) (d := zeroI) zcG _ _ Om)) hc.z) <| DO tab12 7 (fun f' L' w' hc=> zar (vs := zaC _ _ _ _ _ _ _ _) zaM rfl (hc.old (v := Pp _ _) rfl rfl rfl) rfl (zac (n := 8) (hc.st.objL (List.mem_append_right _ Q0)) _ rfl) hc.z) <| DO tab12 8 (fun _ _ _ hc => zaz (v1 := zbb _ _ _ _ _ _) (v2 := zau _ _ _ _ _ _ _ _) zwj rfl (hc.d 5 rfl rfl rfl rfl) (hc.d 6 rfl rfl rfl rfl) ((zf1 (l.getD i zeroI) fm _ (Res.rmod_argsI (hc.st.hD _ Q0) (i := i) Om) (hsm _ hmem) (hla _ hmem)).mono fun v w hp => ⟨[], ⟨hp.1, rfl⟩, hc.st.keepc hp.2⟩)) <| RunD.fin zaw tab12 hst rfl (fun f13 w R16 hs14 hd15 hr17 hst => ?_)
  obtain ⟨h47_, r0⟩ := hd15 0 47 rfl rfl
  obtain ⟨h48_, r1⟩ := hd15 1 48 rfl rfl
  obtain ⟨h49_, r2⟩ := hd15 2 49 rfl rfl
  obtain ⟨h50_, r3⟩ := hd15 3 50 rfl rfl
  obtain ⟨h51_, r4⟩ := hd15 4 51 rfl rfl
  obtain ⟨h52_, r5⟩ := hd15 5 52 rfl rfl
  obtain ⟨h53_, r6⟩ := hd15 6 53 rfl rfl
  obtain ⟨h54_, r7⟩ := hd15 7 54 rfl rfl
  simp only [rg8, Fc, Fn, Mc, Mn, r0, r1, r2, r3, r4, r5, r6, r7, Na, An, Ca] at hst
  refine zaD (sl := [(1, Pp _ _), (2, Pp _ _), (4, .int .i64 _), (47, .int .i64 _), (54, .int .i64 _)]) ⟨(hs14 1 rfl).trans rfl, (hs14 2 rfl).trans rfl, (hs14 4 rfl).trans rfl, h47_, h54_, trivial⟩ ?_
  clear hs14 hd15 hr17 tab12
  refine CN <| zas rfl rfl rfl zbe <| AI rfl <| NSR <| MI rfl <| CN <| zbm rfl rfl <| NL <| zab rfl (fun g18 => ?_) (fun g18 => ?_)
  ·refine SR <| MI rfl <| CN (zag za0 zcE (.c (v := .int .i64 _) rfl (h := (.c (v := .int .i64 _) rfl (h := .nil)))) ?_)
   refine CN (SO (v := gII _ _) hst za0 rfl rfl .u1 fun w hst => ?_)
   refine NL <| zah Tryz.func57 rfl (zal (vs := lII _ _) rfl za0 rfl rfl (zac (n := 2) (hst.objL Q1) _ rfl)) ?_
   rw [if_neg g11, if_pos (by omega)] at hsh
   have hS := zfi (bound := bd) (l := (l.map InstP.L)) Om Om
   rw [hJ.2.1, hsh] at hS
   rw [hS]
   exact ⟨rfl, hst.pure⟩
  refine zaf <| zam <| RG <| MI rfl <| CN <| zas rfl rfl rfl zbe <| AI rfl <| NL <| zay ?_
  rw [if_neg g11, if_neg (by omega)] at hsh
  replace hst := hst.pick (.cons .u1 (.cons .u1 .nil))
  exact ih3 ((i + 1, n + zbT fm (l.getD i zeroI).args)) _ w Od hst (⟨by (try dsimp only); omega, hJ.2.1.trans hsh, by (try dsimp only); omega⟩) E2 ⟨(Vi Od), (Vi Od), trivial⟩
 obtain rfl : i = l.length := by omega
 refine zaJ (id := 0) rfl <| SR <| CN (zag za0 zcE .nil ?_)
 refine CN (SO (v := gII _ _) hst za0 rfl rfl .u0 fun w hst => ?_)
 refine NL <| zah Tryz.func57 rfl (zal (vs := lII _ _) rfl za0 rfl rfl (zac (n := 2) (hst.objL Q0) _ rfl)) ?_
 have hll : l.length = (l.map InstP.L).length := by rw [List.length_map]
 have hS := zfi (bound := bd) (l := (l.map InstP.L)) Om Om
 rw [hJ.2.1, hll, zlk] at hS
 rw [hS]
 exact ⟨rfl, hst.pure⟩
theorem zmT (gn bd : Int) (l : List InstP) (ao : Option Addr) (cp : Nat) {se sa : Int} (hS : zbz bd (l.map InstP.L) = (se, sa)) (w : World) (hA : (Res.rmod ao l).holds w) (hl : l.length ≤ 3000000000000) (hop : ∀ i ∈ l, 0 ≤ i.op) (hsm : ∀ i ∈ l, (i.args.map za1).sum ≤ 900000000) (hla : ∀ i ∈ l, ∀ a ∈ i.args, a.s.length ≤ 100000000000) : Ret Tryz.prog 57 #[.agg #[.int .u32 gn, .int .u32 bd, .slice ao l.length cp]] w (fun v w' => v = .agg #[.int .i64 se, .int .i64 sa] ∧ St w NoM [] [] w') := by
 have h := zoG gn bd l ao cp w hA hl hop hsm hla
 rw [hS] at h; exact h
end Go.SK
namespace Go.SK
theorem Small.la9 {l : List InstP} (h : Small l) : ∀ i ∈ l, i.args.length ≤ 9000000000000000000 := fun i hi => by have := h.args i hi; omega
end Go.SK
namespace Go.SK
open Go.RowKit
theorem zv3 {gn bd : Int} (hg : 0 ≤ gn ∧ gn < 4294967296) (hb : 0 ≤ bd ∧ bd < 4294967296) : (((([109, 111, 100, 117, 108, 101, 32] : Tx) ++ zd7 gn) ++ [32]) ++ zd7 bd) ++ [10] = wrS (ziH gn bd) ++ [10] := by
  rw [(zt1 hg hb).1]; unfold modW; simp
theorem zpj {gn bd : Int} {l : List InstP} {i : Nat} (hi : i < l.length) : zdZ gn bd (l.map InstP.L) (i + 1) = (zdZ gn bd (l.map InstP.L) i ++ (zcU bd (l.getD i zeroI).L).1) ++ [10] := by
  rw [zlg (ztP hi), List.append_assoc]
end Go.SK
namespace Go.SK
open Go Go.Proofs
theorem ent57 : zaN Tryz.prog 57 := ⟨Tryz.f57, _, Tryz.func57, Kr, rfl⟩
theorem ent58 : zaN Tryz.prog 58 := ⟨Tryz.f58, _, Tryz.func58, Kr, rfl⟩
end Go.SK
namespace Go.SK
open Go Go.Proofs
open Go.RowKit
theorem zsv (gn bd : Int) (n : Nat) (ao : Option Addr) (cp : Nat) (w : World) (hG : LxG.holds w) (hgn : 0 ≤ gn ∧ gn < 4294967296) (hbd : 0 ≤ bd ∧ bd < 4294967296) : Ret Tryz.prog 58 #[.agg #[.int .u32 gn, .int .u32 bd, .slice ao n cp]] w (fun v w' => v = str (wrS (ziH gn bd) ++ [10]) ∧ St w NoM [] [] w') := by
 refine zav (args := [.agg #[.int .u32 gn, .int .u32 bd, .slice ao n cp]]) Tryz.func58 rfl rfl rfl ?_
 have hst : St w NoM [] [LxG] w := St.init_Ds (by simp only [List.forall_mem_cons]; exact ⟨hG, fun _ h => absurd h List.not_mem_nil⟩)
 have hd1 := zfU hgn.1 hgn.2
 have hd2 := zfU hbd.1 hbd.2
 refine SR <| CN <| zbi (v := zb2 _ _ _ _ _) hst rfl rfl fun w b1 hst => AS rfl <| NL <| SQ <| RunD.start [] hst (bs := [0, 1, 3, 7, 15, 0, 32, 103, 255, 511, 1023]) (ds := [some 3, some 4, some 5, some 6, some 7, some 8, some 9, some 10, some 11, some 12, some 2]) ⟨Kr, Kr, Kr⟩ (fun tab1 => ?_)
 refine DO tab1 1 (fun f' L' w' hc=> zaa zfO (hc.old (v := Pp _ _) rfl rfl rfl) hc.z) <| DO tab1 2 (fun f' L' w' hc=> zae (v := .int .u32 _) zbt rfl (hc.d 0 rfl rfl rfl rfl) (hc.st.cellL (List.mem_append_right _ Q0) rfl) hc.z) <| DO tab1 3 (fun f' L' w' hc=> Op1.call1 (v1 := .int .u32 _) zra rfl (hc.d 1 rfl rfl rfl rfl) ((zgz gn hgn.1 hgn.2 _ (hc.st.hD _ Q0)).mono fun v w hp => ⟨[], ⟨hp.1, rfl⟩, hc.st.keepc hp.2⟩)) <| DO tab1 4 (fun f' L' w' hc=> zcD rfl (hc.d 2 rfl rfl rfl rfl) (by first | omega | (simp only [List.length_cons, List.length_nil, List.length_append]; omega) | (simp; omega)) hc.z) <| DO tab1 5 (fun f' L' w' hc=> zcD (hc.d 3 rfl rfl rfl rfl) rfl (by first | omega | (simp only [List.length_cons, List.length_nil, List.length_append]; omega) | (simp; omega)) hc.z) <| DO tab1 6 (fun f' L' w' hc=> zaa zcA (hc.old (v := Pp _ _) rfl rfl rfl) hc.z) <| DO tab1 7 (fun f' L' w' hc=> zae (v := .int .u32 _) zbt rfl (hc.d 5 rfl rfl rfl rfl) (hc.st.cellL (List.mem_append_right _ Q0) rfl) hc.z) <| DO tab1 8 (fun _ _ _ hc => Op1.call1 (v1 := .int .u32 _) zra rfl (hc.d 6 rfl rfl rfl rfl) ((zgz bd hbd.1 hbd.2 _ (hc.st.hD _ Q0)).mono fun v w hp => ⟨[], ⟨hp.1, rfl⟩, hc.st.keepc hp.2⟩)) <| RunD.fin zaw tab1 hst rfl (fun f2 w R5 hs3 hd4 hr6 hst => ?_)
 obtain ⟨h3_, r0⟩ := hd4 0 3 rfl rfl
 obtain ⟨h4_, r1⟩ := hd4 1 4 rfl rfl
 obtain ⟨h5_, r2⟩ := hd4 2 5 rfl rfl
 obtain ⟨h6_, r3⟩ := hd4 3 6 rfl rfl
 obtain ⟨h7_, r4⟩ := hd4 4 7 rfl rfl
 obtain ⟨h8_, r5⟩ := hd4 5 8 rfl rfl
 obtain ⟨h9_, r6⟩ := hd4 6 9 rfl rfl
 obtain ⟨h10_, r7⟩ := hd4 7 10 rfl rfl
 simp only [rg8, Fc, Fn, Mc, Mn, r0, r1, r2, r3, r4, r5, r6, r7, Na, An, Ca] at hst
 refine zaD (sl := [(7, str _), (10, str _)]) ⟨h7_, h10_, trivial⟩ ?_
 clear hs3 hd4 hr6 tab1
 refine CN <| zcD rfl rfl (by first | omega | (simp only [List.length_cons, List.length_nil, List.length_append]; omega) | (simp; omega)) <| CN <| zcD rfl rfl (by first | omega | (simp only [List.length_cons, List.length_nil, List.length_append]; omega) | (simp; omega)) <| AS rfl <| NL <| zah Tryz.func58 rfl (TP (v := str _) rfl) ?_
 exact ⟨congrArg str (zv3 hgn hbd), hst.pure⟩
theorem zsu (gn bd : Int) (l : List InstP) (ao : Option Addr) (cp : Nat) (w : World) (hG : LxG.holds w) (hA0 : (Res.rmod ao l).holds w) (hs : Small l) (hu : ∀ x ∈ l, x.L.U32) (hgn : 0 ≤ gn ∧ gn < 4294967296) (hbd : 0 ≤ bd ∧ bd < 4294967296) : Ret Tryz.prog 29 #[.agg #[.int .u32 gn, .int .u32 bd, .slice ao l.length cp]] w (fun v w' => v = .tuple #[str (zc9 gn bd (l.map InstP.L)).1, .agg #[.int .i64 (zc9 gn bd (l.map InstP.L)).2.1, .int .i64 (zc9 gn bd (l.map InstP.L)).2.2]] ∧ St w NoM [] [] w') := by
 refine zav (args := [.agg #[.int .u32 gn, .int .u32 bd, .slice ao l.length cp]]) Tryz.func29 rfl rfl rfl ?_
 have hst : St w NoM [] [LxG, Res.rmod ao l] w := St.init_Ds (by simp only [List.forall_mem_cons]; exact ⟨hG, hA0, fun _ h => absurd h List.not_mem_nil⟩)
 have hln := hs.len
 refine SR <| CN <| zbi (v := zb2 _ _ _ _ _) hst rfl rfl fun w b1 hst => AS rfl <| CN <| Op1.alloc hst za0 fun w b3 hst => NSR <| CN (zar (vs := zdH _ _ _ _ _) zb3 rfl rfl rfl (zac (n := 3) (hst.objL Q1) _ rfl) ?_)
 obtain ⟨se, sa, hS⟩ : ∃ se sa, zbz bd (l.map InstP.L) = (se, sa) := ⟨_, _, rfl⟩
 refine CN <| Op1.call1 (v1 := zb2 _ _ _ _ _) ent57 rfl rfl <| Ret.det (zmT gn bd l ao cp hS _ (hst.hD _ Q1) hs.len hs.op hs.sum hs.txt) hst fun w hst => CN <| Op1.alloc hst za0 fun w b4 hst => CN (SO (v := gII _ _) hst za0 rfl rfl .u0 fun w hst => ?_)
 refine NL <| SQ <| SR <| CN <| zaa zbr rfl <| CN <| zae (v := .int .i64 _) zcO rfl rfl (hst.cellL Q0 rfl) <| CN <| zaW rfl rfl <| NL <| zab rfl (fun g1 => ?_) (fun g1 => ?_)
 ·refine SQ <| RunD.start [] hst (bs := [0, 0, 3]) (ds := [some 14, some 2, none]) ⟨Kr, Kr, Kr⟩ (fun tab2 => ?_)
  refine DO tab2 1 (fun f' L' w' hc=> zar (vs := lII _ _) za0 rfl (hc.old (v := Pp _ _) rfl rfl rfl) rfl (zac (n := 2) (hc.st.objL (List.mem_append_right _ Q0)) _ rfl) hc.z) <| DO tab2 2 (fun _ _ _ hc => Op1.assign (v := str _) rfl hc.z) <| RunD.fin zaw tab2 hst rfl (fun f3 w R6 hs4 hd5 hr7 hst => ?_)
  obtain ⟨h14_, r0⟩ := hd5 0 14 rfl rfl
  obtain ⟨h2_, r1⟩ := hd5 1 2 rfl rfl
  simp only [rg2, Fc, Fn, Mc, Mn, r0, r1, Na, An, Ca] at hst
  refine zaD (sl := [(2, str _), (3, Pp _ _), (14, gII _ _)]) ⟨h2_, (hs4 3 rfl).trans rfl, h14_, trivial⟩ ?_
  clear hs4 hd5 hr7 tab2
  refine CN (SO (v := gII _ _) hst za0 rfl rfl .u1 fun w hst => ?_)
  refine NL <| zai Tryz.func29 rfl (TP (v := str _) rfl) (zal (vs := lII _ _) rfl za0 rfl rfl (zac (n := 2) (hst.objL Q1) _ rfl)) ?_
  rw [zma (gn := gn) (by rw [hS]; exact g1), hS]
  exact ⟨rfl, hst.pure⟩
 have hs0 : (zbz bd (l.map InstP.L)).1 = 0 := by rw [hS]; exact Nn g1
 have hjl := fun i => zlh (gn := gn) hs0 hgn hbd.1 hu i
 have hj0 := hjl 0
 rw [zey] at hj0
 refine zaf <| SQ ?_
 replace hst := hst.pushNil 5 1
 refine RG <| CN <| Op1.assign (v := .slice none 0 0) rfl <| NSR <| ML rfl <| CN <| zar (vs := zdH _ _ _ _ _) zb3 rfl rfl rfl (zac (n := 3) (hst.objL Q3) _ rfl) <| CN <| Op1.call1 (v1 := zb2 _ _ _ _ _) ent58 rfl rfl <| Ret.det (zsv gn bd _ _ _ _ (hst.hD _ Q0) hgn hbd) hst fun w hst => CN (zf6 hst zcr ty9 zuA .u0 rfl rfl Om fun w ao8 cp9 hst => ?_)
 rw [Nat.zero_add, List.nil_append] at hst
 refine AL rfl <| NL <| SQ <| SR <| AI rfl <| NL <| zao <| zaV <| zaU [(1, Pp _ _), (3, Pp _ _)] E2 (fun (qq : Nat × Option Addr × Nat) => [(5, .slice qq.2.1 (zdZ gn bd (l.map InstP.L) qq.1).length qq.2.2), (6, .int .i64 (qq.1 : Int))]) (fun (qq : Nat × Option Addr × Nat) => [Res.sl qq.2.1 (zdZ gn bd (l.map InstP.L) qq.1).length qq.2.2 5 1 ((zdZ gn bd (l.map InstP.L) qq.1).flatMap byC)]) (fun (qq : Nat × Option Addr × Nat) => qq.1 ≤ l.length) (fun (qq : Nat × Option Addr × Nat) => l.length - qq.1) ((0, ao8, cp9)) (by (try dsimp only); rw [zey]; exact hst) (Nat.zero_le _) ⟨(by (try dsimp only); rw [zey]; exact congrArg (fun n => Value.slice _ n _) (Nat.zero_add _)), rfl, trivial⟩ ?_
 intro ⟨i, aq, cq⟩ f w hst hJ ih10
 replace hst : St _ _ ([Res.sl aq (zdZ gn bd (l.map InstP.L) i).length cq 5 1 ((zdZ gn bd (l.map InstP.L) i).flatMap byC)] ++ [_, _, _]) _ _ := hst
 replace hJ : i ≤ l.length := hJ
 refine za2 (sl := [(5, .slice aq (zdZ gn bd (l.map InstP.L) i).length cq), (6, .int .i64 (i : Int))]) E2 <| SQ <| SR <| MI rfl <| CN <| zaa zbU rfl <| CN <| zae (v := .slice _ _ _) zdo rfl rfl (hst.cellL Q3 rfl) <| CN <| zaQ (rest := []) zdo rfl <| CN <| zaS rfl rfl <| NL <| zab rfl (fun g11 => ?_) (fun g11 => ?_)
 ·have hi : i < l.length := by omega
  have hym : (l.getD i zeroI) ∈ l := zb8 hi
  have hyu := hu _ hym
  have hyo := hs.op _ hym
  have hys := hs.sum _ hym
  have hyt := hs.txt _ hym
  have hyn := zpj (gn := gn) (bd := bd) hi
  have hyl := congrArg List.length hyn
  simp only [List.length_append, List.length_cons, List.length_nil] at hyl
  have hj2 := hjl (i + 1)
  have hj3 := hjl i
  have hll : (zcU bd (l.getD ((i : Int).toNat) zeroI).L).1.length = (zcU bd (l.getD i zeroI).L).1.length := rfl
  refine zaf <| SQ <| zao <| SQ <| RunD.start [] hst (bs := [0, 1, 0, 7, 15, 0, 32, 127, 255, 511, 511, 1023, 4095]) (ds := [some 27, some 28, some 29, some 30, some 31, some 32, some 33, some 34, some 26, some 35, some 36, some 7, some 8]) ⟨Kr, Kr, Kr⟩ (fun tab12 => ?_)
  refine DO tab12 1 (fun f' L' w' hc=> zaa zbU (hc.old (v := Pp _ _) rfl rfl rfl) hc.z) <| DO tab12 2 (fun f' L' w' hc=> zae (v := .slice _ _ _) zdo rfl (hc.d 0 rfl rfl rfl rfl) (hc.st.cellL (List.mem_append_right _ Q3) rfl) hc.z) <| DO tab12 3 (fun f' L' w' hc=> zad (v := .int .i64 _) (hc.old rfl rfl rfl) hc.z) <| DO tab12 4 (fun f' L' w' hc=> zaO zdo zbp (Res.rmod_insts (hc.st.hD _ Q1)) (hc.d 1 rfl rfl rfl rfl) (hc.d 2 rfl rfl rfl rfl) Om Om hc.z) <| DO tab12 5 (fun f' L' w' hc=> zar (vs := zbg _ _ _ _ _ _) zbp rfl (hc.d 3 rfl rfl rfl rfl) rfl (Res.rs2_cells (m := 4) (Res.rmod_insts (hc.st.hD _ Q1)) _ (zbG (g := zdu) (d := zeroI) zcG _ _ Om)) hc.z) <| DO tab12 6 (fun f' L' w' hc=> zaa zcA (hc.old (v := Pp _ _) rfl rfl rfl) hc.z) <| DO tab12 7 (fun f' L' w' hc=> zae (v := .int .u32 _) zbt rfl (hc.d 5 rfl rfl rfl rfl) (hc.st.cellL (List.mem_append_right _ Q3) rfl) hc.z) <| DO tab12 8 (fun f' L' w' hc=> zaz (v1 := zbb _ _ _ _ _ _) (v2 := .int .u32 _) ent31 rfl (hc.d 4 rfl rfl rfl rfl) (hc.d 6 rfl rfl rfl rfl) ((zlP (l.getD ((i : Int).toNat) zeroI) bd _ (hc.st.hD _ Q0) (Res.rmod_argsI (hc.st.hD _ Q1) hi) hyu hyo hys hyt).mono fun v w hp => ⟨[], ⟨hp.1, rfl⟩, hc.st.keepc hp.2⟩)) <| DO tab12 9 (fun f' L' w' hc=> zad (v := .tuple #[str _, .int .i64 _]) (hc.d 7 rfl rfl rfl rfl) hc.z) <| DO tab12 10 (fun f' L' w' hc=> Op1.extract (v := str _) (hc.d 8 rfl rfl rfl rfl) rfl hc.z) <| DO tab12 11 (fun f' L' w' hc=> Op1.extract (v := .int .i64 _) (hc.d 8 rfl rfl rfl rfl) rfl hc.z) <| DO tab12 12 (fun _ _ _ hc => Op1.assign (v := str _) (hc.d 9 rfl rfl rfl rfl) hc.z) <| RunD.fin zaw tab12 hst rfl (fun f13 w R16 hs14 hd15 hr17 hst => ?_)
  obtain ⟨h27_, r0⟩ := hd15 0 27 rfl rfl
  obtain ⟨h28_, r1⟩ := hd15 1 28 rfl rfl
  obtain ⟨h29_, r2⟩ := hd15 2 29 rfl rfl
  obtain ⟨h30_, r3⟩ := hd15 3 30 rfl rfl
  obtain ⟨h31_, r4⟩ := hd15 4 31 rfl rfl
  obtain ⟨h32_, r5⟩ := hd15 5 32 rfl rfl
  obtain ⟨h33_, r6⟩ := hd15 6 33 rfl rfl
  obtain ⟨h34_, r7⟩ := hd15 7 34 rfl rfl
  obtain ⟨h26_, r8⟩ := hd15 8 26 rfl rfl
  obtain ⟨h35_, r9⟩ := hd15 9 35 rfl rfl
  obtain ⟨h36_, r10⟩ := hd15 10 36 rfl rfl
  obtain ⟨h7_, r11⟩ := hd15 11 7 rfl rfl
  simp only [rg12, Fc, Fn, Mc, Mn, r0, r1, r2, r3, r4, r5, r6, r7, r8, r9, r10, r11, Na, An, Ca] at hst
  refine zaD (sl := [(1, Pp _ _), (3, Pp _ _), (5, .slice _ _ _), (6, .int .i64 _), (7, str _), (36, .int .i64 _)]) ⟨(hs14 1 rfl).trans rfl, (hs14 3 rfl).trans rfl, (hs14 5 rfl).trans rfl, (hs14 6 rfl).trans rfl, h7_, h36_, trivial⟩ ?_
  clear hs14 hd15 hr17 tab12
  refine AI rfl <| NSR <| ML rfl <| MS rfl <| CN <| zf6 hst zcr ty9 zuA .u0 rfl rfl Om fun w ao18 cp19 hst => AL rfl <| NL <| zaj [(1, Pp _ _), (3, Pp _ _), (5, .slice _ _ _), (6, .int .i64 _)] E4 fun f => RG <| ML rfl <| CN (zaE (z0 := [.int .u8 0]) hst zcr ty5 rfl rfl Kr (.c (v := .int .u8 _) rfl (h := .nil)) fun w b41 hst => ?_)
  refine CN (zaI (news := [.int .u8 10]) hst zcr ty5 rfl rfl .u1 rfl rfl rfl (zac (n := 1) (hst.objL Q0) _ rfl) rfl rfl Om fun w ao20 cp21 hst => ?_)
  replace hst := hst.drop .u1
  refine AL rfl <| NL <| zam <| RG <| MI rfl <| CN <| zas rfl rfl rfl zbe <| AI rfl <| NL <| zay ?_
  exact ih10 ((i + 1, ao20, cp21)) _ w ((by (try dsimp only); omega)) (by (try dsimp only); rw [hyn, List.length_append, List.length_append, List.flatMap_append, List.flatMap_append]; exact hst) ((by (try dsimp only); omega)) E2 ⟨(by (try dsimp only); rw [hyn, List.length_append, List.length_append]; rfl), (Vi (by (try dsimp only); omega)), trivial⟩
 have hi : i = l.length := by omega
 refine zaJ (id := 0) rfl <| SR <| ML rfl <| CN <| zc7 (l := (zdZ gn bd (l.map InstP.L) i)) zcr ty5 ty9 rfl rfl (Res.rs_of_sl (hst.hL _ Q0)) rfl <| CN (zag za0 zcE .nil ?_)
 refine AS rfl <| CN (SO (v := gII _ _) hst za0 rfl rfl .u2 fun w hst => ?_)
 refine NL <| zai Tryz.func29 rfl (TP (v := str _) rfl) (zal (vs := lII _ _) rfl za0 rfl rfl (zac (n := 2) (hst.objL Q2) _ rfl)) ?_
 rw [zjO (gn := gn) hs0, List.length_map, ← hi]
 exact ⟨rfl, hst.pure⟩
theorem zp0 {gn bd se sa : Int} {l : List InstP} {x : Tx} (hT : zc9 gn bd (l.map InstP.L) = (x, (se, sa))) (ao : Option Addr) (cp : Nat) (w : World) (hG : LxG.holds w) (hA0 : (Res.rmod ao l).holds w) (hs : Small l) (hu : ∀ x ∈ l, x.L.U32) (hgn : 0 ≤ gn ∧ gn < 4294967296) (hbd : 0 ≤ bd ∧ bd < 4294967296) : Ret Tryz.prog 29 #[.agg #[.int .u32 gn, .int .u32 bd, .slice ao l.length cp]] w (fun v w' => v = .tuple #[str x, .agg #[.int .i64 se, .int .i64 sa]] ∧ St w NoM [] [] w') := by
 have h := zsu gn bd l ao cp w hG hA0 hs hu hgn hbd
 rw [hT] at h; exact h
end Go.SK
namespace Go.SK
open Go Go.Proofs
theorem ent29 : zaN Tryz.prog 29 := ⟨Tryz.f29, _, Tryz.func29, Kr, rfl⟩
end Go.SK
namespace Go.SK
open Go Go.Proofs
open Go.RowKit
theorem zsX (gn bd : Int) (l : List InstP) (ao : Option Addr) (cp : Nat) (w : World) (hG : LxG.holds w) (hA0 : (Res.rmod ao l).holds w) (hs : Small l) (hu : ∀ x ∈ l, x.L.U32) (hgn : 0 ≤ gn ∧ gn < 4294967296) (hbd : 0 ≤ bd ∧ bd < 4294967296) : Ret Tryz.prog 5 #[.agg #[.int .u32 gn, .int .u32 bd, .slice ao l.length cp]] w (fun v w' => v = .bool true ∧ St w NoM [] [] w') := by
 refine zav (args := [.agg #[.int .u32 gn, .int .u32 bd, .slice ao l.length cp]]) Tryz.func5 rfl rfl rfl ?_
 have hst : St w NoM [] [LxG, Res.rmod ao l] w := St.init_Ds (by simp only [List.forall_mem_cons]; exact ⟨hG, hA0, fun _ h => absurd h List.not_mem_nil⟩)
 obtain ⟨tx, se, sa, hT⟩ : ∃ tx se sa, zc9 gn bd (l.map InstP.L) = (tx, (se, sa)) := ⟨_, _, _, rfl⟩
 refine SR <| CN <| zbi (v := zb2 _ _ _ _ _) hst rfl rfl fun w b1 hst => AB rfl <| NSR <| CN <| zar (vs := zdH _ _ _ _ _) zb3 rfl rfl rfl (zac (n := 3) (hst.objL Q0) _ rfl) <| CN <| Op1.call1 (v1 := zb2 _ _ _ _ _) ent29 rfl rfl <| Ret.det (zp0 hT _ _ _ (hst.hD _ Q0) (hst.hD _ Q1) hs hu hgn hbd) hst fun w hst => CN <| zad (v := .tuple #[str _, gII _ _]) rfl <| CN <| Ex (str _) rfl rfl <| CN <| Ex (gII _ _) rfl rfl <| CN <| Op1.alloc hst za0 fun w b4 hst => AS rfl <| CN (SO (v := gII _ _) hst za0 rfl rfl .u0 fun w hst => ?_)
 refine NSR <| CN <| zar (vs := zdH _ _ _ _ _) zb3 rfl rfl rfl (zac (n := 3) (hst.objL Q1) _ rfl) <| CN (Op1.call1 (v1 := zb2 _ _ _ _ _) zkY rfl rfl ((zbL _ _ l _ _ _ (hst.hD _ Q1) hs.lenC hs.laC).mono fun v w hp => ?_))
 obtain ⟨bM1, dM1, rfl, hdM1, hp⟩ := hp
 replace hst : St _ _ (_ :: _) _ _ := hst.call0 hp
 clear hp
 refine CN <| Op1.alloc hst zb3 fun w b5 hst => CN (SO (v := zb2 _ _ _ _ _) hst zb3 rfl rfl .u0 fun w hst => ?_)
 refine NSR <| CN <| zar (vs := zdH _ _ _ _ _) zb3 rfl rfl rfl (zac (n := 3) (hst.objL Q0) _ rfl) <| CN <| Op1.call1 (v1 := zb2 _ _ _ _ _) zoh rfl rfl <| Ret.det (zdm (x := tx) (se := se) (sa := sa) (by rw [hdM1]; exact hT) _ _ _ (hst.hD _ Q0) (Res.rmod_of_omod (hst.hL _ Q1)) (Small.of hdM1 hs) (ziS hdM1 (mapU hu)) hgn hbd) hst fun w hst => CN <| zad (v := .tuple #[str _, gII _ _]) rfl <| CN <| Ex (str _) rfl rfl <| CN <| Ex (gII _ _) rfl rfl <| CN <| Op1.alloc hst za0 fun w b7 hst => AS rfl <| CN (SO (v := gII _ _) hst za0 rfl rfl .u0 fun w hst => ?_)
 refine NL <| zaj [(1, Pp _ _), (3, str _), (4, Pp _ _), (5, Pp _ _), (6, str _), (7, Pp _ _)] E6 fun f => SR <| MS rfl <| MS rfl <| CN <| zbV rfl rfl <| MB rfl <| zan (d := 23) rfl (fun g1 => ?_) (fun g1 => ?_)
 ·refine TK (t := 23) rfl (Vb (Dt g1)) <| zar (vs := lII _ _) za0 rfl rfl rfl (zac (n := 2) (hst.objL Q0) _ rfl) <| TK (t := 23) rfl (Vb (Dt g1)) <| zar (vs := lII _ _) za0 rfl rfl rfl (zac (n := 2) (hst.objL Q3) _ rfl) <| TK (t := 23) rfl (Vb (Dt g1)) <| zem (xs := (lII _ _)) (ys := (lII _ _)) rfl rfl Kr (zcb Tryz.underlying28 Kr (.cons De (PartOk.one zcO rfl rfl) (PartOk.one zcO rfl rfl) (zbQ zcO) (.cons De (PartOk.one ty3 rfl rfl) (PartOk.one ty3 rfl rfl) (zbQ ty3) .nil))) <| CN <| zap (u := .bool _) (Vb (Dt g1)) rfl <| MB rfl <| zbH (d := 28) rfl (fun g2 => ?_) (fun g2 => ?_)
  ·refine TK (t := 28) rfl (Vb g2) <| zar (vs := zdH _ _ _ _ _) zb3 rfl rfl rfl (zac (n := 3) (hst.objL Q1) _ rfl) <| TK (t := 28) rfl (Vb g2) <| zar (vs := zdH _ _ _ _ _) zb3 rfl rfl rfl (zac (n := 3) (hst.objL Q4) _ rfl) <| TK (t := 28) rfl (Vb g2) (zaz (v1 := zb2 _ _ _ _ _) (v2 := zb2 _ _ _ _ _) zuh rfl rfl rfl ((zeK _ _ _ _ dM1 l _ _ _ _ _ (Res.rmod_of_omod (hst.hL _ Q2)) (hst.hD _ Q1) (Small.of hdM1 hs).len9 (Small.of hdM1 hs).la9).mono fun v w hp => ?_))
   obtain ⟨he, hp⟩ := hp
   replace he := he.trans (Vb (zfj hdM1))
   subst he
   replace hst := hst.keepc hp
   clear hp
   refine CN <| zap (u := .bool _) (Vb g2) rfl <| MB rfl <| TK (t := 33) rfl (Vb (rfl : true = _)) (Op1.call0  ziK rfl  ((zcg _ (hst.hD _ Q0)).mono fun v w hp => ?_))
   obtain ⟨rfl, hp⟩ := hp
   replace hst := hst.keepc hp
   clear hp
   refine CN <| zap (u := .bool _) (Vb (rfl : true = _)) rfl <| AB rfl <| NL <| zah Tryz.func5 rfl (TP (v := .bool _) rfl) ?_
   exact ⟨rfl, hst.pure⟩
  exfalso
  first | exact g2 rfl | (simp at g2; done)
 exfalso
 first | exact g1 rfl | (simp at g1; done)
end Go.SK
