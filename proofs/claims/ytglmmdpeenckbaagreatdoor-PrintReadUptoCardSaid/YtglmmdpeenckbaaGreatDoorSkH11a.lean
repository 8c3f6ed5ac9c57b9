/-
  Steps of functions, plain law, and walks of functions: what the laws rest on.
-/
import Derived.Test.YtglmmdpeenckbaaGreatDoorSkH0c
import Derived.Test.YtglmmdpeenckbaaGreatDoorSkH1a
import Derived.Test.YtglmmdpeenckbaaGreatDoorSkH4a
import Derived.Test.YtglmmdpeenckbaaGreatDoorSkH7a
set_option linter.unusedVariables false
set_option linter.unusedSimpArgs false
set_option linter.unusedSectionVars false
namespace Go.SK
open Go.RowKit Go.ChangeShapes Go.WideShapes Go.ChangeAt
theorem ztY {l m : List InstP} (hl : l.length = m.length) (h : ∀ j, j < l.length → (l.getD j zeroI).L = (m.getD j zeroI).L) : l.map InstP.L = m.map InstP.L := by
  refine zdS zeroI.L (by simpa using hl) fun j hj => ?_
  simp only [List.length_map] at hj
  rw [zfs _ _ hj, zfs _ _ (by omega)]
  exact h j hj
theorem zsc {l m : List InstP} (h : l.map InstP.L = m.map InstP.L) {j : Nat} (hj : j < l.length) : (l.getD j zeroI).L = (m.getD j zeroI).L := by
  have hl : l.length = m.length := by simpa using congrArg List.length h
  have : (l.map InstP.L).getD j zeroI.L = (m.map InstP.L).getD j zeroI.L := by rw [h]
  rwa [zfs _ _ hj, zfs _ _ (by omega)] at this
def sameM (g b : Int) (l : List InstP) (g' b' : Int) (l' : List InstP) : Bool := decide (g = g' ∧ b = b' ∧ l.map InstP.L = l'.map InstP.L)
theorem zfj {g b : Int} {l m : List InstP} (h : l.map InstP.L = m.map InstP.L) : sameM g b l g b m = true := Dt ⟨rfl, rfl, h⟩
end Go.SK
namespace Go.SK
open Go Go.Proofs
open Go.RowKit
theorem zeK (ga ba gb bb : Int) (l m : List InstP) (ao bo : Option Addr) (cp cq : Nat) (w : World) (hA : (Res.rmod ao l).holds w) (hB : (Res.rmod bo m).holds w) (hl : l.length ≤ 9000000000000000000) (hla : ∀ i ∈ l, i.args.length ≤ 9000000000000000000) : Ret Tryz.prog 22 #[.agg #[.int .u32 ga, .int .u32 ba, .slice ao l.length cp], .agg #[.int .u32 gb, .int .u32 bb, .slice bo m.length cq]] w (fun v w' => v = .bool (sameM ga ba l gb bb m) ∧ St w NoM [] [] w') := by
 refine zav (args := [.agg #[.int .u32 ga, .int .u32 ba, .slice ao l.length cp], .agg #[.int .u32 gb, .int .u32 bb, .slice bo m.length cq]]) Tryz.func22 rfl rfl rfl ?_
 have hst : St w NoM [] [Res.rmod ao l, Res.rmod bo m] w := St.init_Ds (fun d hd => by cases hd with | head => exact hA | tail _ hd => cases hd with | head => exact hB | tail _ h => cases h)
 clear hA hB
 refine SR <| CN <| zbi (v := zb2 _ _ _ _ _) hst rfl rfl fun w b2 hst => CN <| zbi (v := zb2 _ _ _ _ _) hst rfl rfl fun w b3 hst => AB rfl <| NL <| SQ <| SR <| CN <| zaa zfO rfl <| CN <| zae (v := .int .u32 _) zbt rfl rfl (hst.cellL Q1 rfl) <| CN <| zaa zfO rfl <| CN <| zae (v := .int .u32 _) zbt rfl rfl (hst.cellL Q0 rfl) <| CN <| zaW rfl rfl <| MB rfl ?_
 refine zan (d := 11) rfl (fun g1 => ?_) (fun g1 => ?_)
 ·refine OM (t := 11) rfl (Vb (Dt g1)) rfl <| OM (t := 11) rfl (Vb (Dt g1)) rfl <| OM (t := 11) rfl (Vb (Dt g1)) rfl <| OM (t := 11) rfl (Vb (Dt g1)) rfl <| OM (t := 11) rfl (Vb (Dt g1)) rfl <| CN <| zap (u := .bool _) (Vb (Dt g1)) rfl <| MB rfl <| OM (t := 18) rfl (Vb (rfl : true = _)) rfl <| OM (t := 18) rfl (Vb (rfl : true = _)) rfl <| OM (t := 18) rfl (Vb (rfl : true = _)) rfl <| OM (t := 18) rfl (Vb (rfl : true = _)) rfl <| OM (t := 18) rfl (Vb (rfl : true = _)) rfl <| OM (t := 18) rfl (Vb (rfl : true = _)) rfl <| OM (t := 18) rfl (Vb (rfl : true = _)) rfl <| CN (zap (u := .bool _) (Vb (rfl : true = _)) rfl ?_)
  refine NL <| zax (Vb (rfl : true = _)) <| SR <| AB rfl <| NL <| zah Tryz.func22 rfl (TP (v := .bool _) rfl) ?_
  exact ⟨Vb (Df (fun h => g1 h.1)).symm, hst.pure⟩
 refine TK (t := 11) rfl (Vb (Df g1)) <| zaa zcA rfl <| TK (t := 11) rfl (Vb (Df g1)) <| zae (v := .int .u32 _) zbt rfl rfl (hst.cellL Q1 rfl) <| TK (t := 11) rfl (Vb (Df g1)) <| zaa zcA rfl <| TK (t := 11) rfl (Vb (Df g1)) <| zae (v := .int .u32 _) zbt rfl rfl (hst.cellL Q0 rfl) <| TK (t := 11) rfl (Vb (Df g1)) <| zaW rfl rfl <| CN <| zaq (u := .bool _) (Vb (Df g1)) rfl <| MB rfl <| zan (d := 18) rfl (fun g2 => ?_) (fun g2 => ?_)
 ·refine OM (t := 18) rfl (Vb (Dt g2)) rfl <| OM (t := 18) rfl (Vb (Dt g2)) rfl <| OM (t := 18) rfl (Vb (Dt g2)) rfl <| OM (t := 18) rfl (Vb (Dt g2)) rfl <| OM (t := 18) rfl (Vb (Dt g2)) rfl <| OM (t := 18) rfl (Vb (Dt g2)) rfl <| OM (t := 18) rfl (Vb (Dt g2)) rfl <| CN <| zap (u := .bool _) (Vb (Dt g2)) rfl <| NL <| zax (Vb (rfl : true = _)) <| SR <| AB rfl <| NL <| zah Tryz.func22 rfl (TP (v := .bool _) rfl) ?_
  exact ⟨Vb (Df (fun h => g2 h.2.1)).symm, hst.pure⟩
 refine TK (t := 18) rfl (Vb (Df g2)) <| zaa zbU rfl <| TK (t := 18) rfl (Vb (Df g2)) <| zae (v := .slice _ _ _) zdo rfl rfl (hst.cellL Q1 rfl) <| TK (t := 18) rfl (Vb (Df g2)) <| zaQ (rest := []) zdo rfl <| TK (t := 18) rfl (Vb (Df g2)) <| zaa zbU rfl <| TK (t := 18) rfl (Vb (Df g2)) <| zae (v := .slice _ _ _) zdo rfl rfl (hst.cellL Q0 rfl) <| TK (t := 18) rfl (Vb (Df g2)) <| zaQ (rest := []) zdo rfl <| TK (t := 18) rfl (Vb (Df g2)) <| zaW rfl rfl <| CN <| zaq (u := .bool _) (Vb (Df g2)) rfl <| NL <| zaj [(2, Pp _ _), (3, Pp _ _), (26, .bool _)] E3 fun f => zab rfl (fun g3 => ?_) (fun g3 => ?_)
 ·refine SR <| AB rfl <| NL <| zah Tryz.func22 rfl (TP (v := .bool _) rfl) ?_
  exact ⟨Vb (Df (fun h => by have := znY h.2.2; omega)).symm, hst.pure⟩
 refine zaf <| SQ <| SR <| AI rfl <| NL <| zao <| zaV <| zaU [(2, Pp _ _), (3, Pp _ _)] E2 (fun (i : Nat) => [(5, .int .i64 (i : Int))]) (fun (i : Nat) => []) (fun (i : Nat) => i ≤ l.length ∧ ∀ j, j < i → (l.getD j zeroI).L = (m.getD j zeroI).L) (fun (i : Nat) => l.length - i) (0) hst ⟨Nat.zero_le _, fun j hj => absurd hj Om⟩ ⟨rfl, trivial⟩ ?_
 intro i f w hst hJ ih4
 refine SQ <| SR <| MI rfl <| CN <| zaa zbU rfl <| CN <| zae (v := .slice _ _ _) zdo rfl rfl (hst.cellL Q1 rfl) <| CN <| zaQ (rest := []) zdo rfl <| CN <| zaS rfl rfl <| NL <| zab rfl (fun g5 => ?_) (fun g5 => ?_)
 ·refine zaf <| SQ <| zao <| SQ <| RunD.start [] hst (bs := [0, 1, 0, 7, 15, 0, 32, 0, 224, 480, 1023, 2047]) (ds := [some 34, some 35, some 36, some 37, some 38, some 39, some 40, some 41, some 42, some 43, some 44, some 45]) ⟨Kr, Kr, Kr⟩ (fun tab6 => ?_)
  refine DO tab6 1 (fun f' L' w' hc=> zaa zbU (hc.old (v := Pp _ _) rfl rfl rfl) hc.z) <| DO tab6 2 (fun f' L' w' hc=> zae (v := .slice _ _ _) zdo rfl (hc.d 0 rfl rfl rfl rfl) (hc.st.cellL (List.mem_append_right _ Q1) rfl) hc.z) <| DO tab6 3 (fun f' L' w' hc=> zad (v := .int .i64 _) (hc.old rfl rfl rfl) hc.z) <| DO tab6 4 (fun f' L' w' hc=> zaO zdo zbp (Res.rmod_insts (hc.st.hD _ Q0)) (hc.d 1 rfl rfl rfl rfl) (hc.d 2 rfl rfl rfl rfl) Om Om hc.z) <| DO tab6 5 (fun f' L' w' hc=> zar (vs := zbg _ _ _ _ _ _) zbp rfl (hc.d 3 rfl rfl rfl rfl) rfl (Res.rs2_cells (m := 4) (Res.rmod_insts (hc.st.hD _ Q0)) _ (zbG (g := zdu) (d := zeroI) zcG _ _ Om)) hc.z) <| DO tab6 6 (fun f' L' w' hc=> zaa zbU (hc.old (v := Pp _ _) rfl rfl rfl) hc.z) <| DO tab6 7 (fun f' L' w' hc=> zae (v := .slice _ _ _) zdo rfl (hc.d 5 rfl rfl rfl rfl) (hc.st.cellL (List.mem_append_right _ Q0) rfl) hc.z) <| DO tab6 8 (fun f' L' w' hc=> zad (v := .int .i64 _) (hc.old rfl rfl rfl) hc.z) <| DO tab6 9 (fun f' L' w' hc=> zaO zdo zbp (Res.rmod_insts (hc.st.hD _ Q1)) (hc.d 6 rfl rfl rfl rfl) (hc.d 7 rfl rfl rfl rfl) Om Om hc.z) <| DO tab6 10 (fun _ _ _ hc => zar (vs := zbg _ _ _ _ _ _) zbp rfl (hc.d 8 rfl rfl rfl rfl) rfl (Res.rs2_cells (m := 4) (Res.rmod_insts (hc.st.hD _ Q1)) _ (zbG (g := zdu) (d := zeroI) zcG _ _ Om)) hc.z) <| RunD.fin zaw tab6 hst rfl (fun f7 w R10 hs8 hd9 hr11 hst => ?_)
  obtain ⟨h34_, r0⟩ := hd9 0 34 rfl rfl
  obtain ⟨h35_, r1⟩ := hd9 1 35 rfl rfl
  obtain ⟨h36_, r2⟩ := hd9 2 36 rfl rfl
  obtain ⟨h37_, r3⟩ := hd9 3 37 rfl rfl
  obtain ⟨h38_, r4⟩ := hd9 4 38 rfl rfl
  obtain ⟨h39_, r5⟩ := hd9 5 39 rfl rfl
  obtain ⟨h40_, r6⟩ := hd9 6 40 rfl rfl
  obtain ⟨h41_, r7⟩ := hd9 7 41 rfl rfl
  obtain ⟨h42_, r8⟩ := hd9 8 42 rfl rfl
  obtain ⟨h43_, r9⟩ := hd9 9 43 rfl rfl
  simp only [zyh, Fc, Fn, Mc, Mn, r0, r1, r2, r3, r4, r5, r6, r7, r8, r9, Na, An, Ca] at hst
  refine zaD (sl := [(2, Pp _ _), (3, Pp _ _), (5, .int .i64 _), (38, zbb _ _ _ _ _ _), (43, zbb _ _ _ _ _ _)]) ⟨(hs8 2 rfl).trans rfl, (hs8 3 rfl).trans rfl, (hs8 5 rfl).trans rfl, h38_, h43_, trivial⟩ ?_
  clear hs8 hd9 hr11 tab6
  refine CN <| zaz (v1 := zbb _ _ _ _ _ _) (v2 := zbb _ _ _ _ _ _) ent34 rfl rfl rfl <| Ret.det (zoM _ _ _ (Res.rmod_argsI (hst.hD _ Q0) Om) (Res.rmod_argsI (hst.hD _ Q1) Om) (hla _ (zb8 Om))) hst fun w hst => CN <| zaZ rfl <| NL <| zaA rfl (fun g12 => ?_) (fun g12 => ?_)
  ·refine SR <| AB rfl <| NL <| zah Tryz.func22 rfl (TP (v := .bool _) rfl) ?_
   exact ⟨Vb (Df (fun h => by have hg := g12; rw [Dt (zsc h.2.2 (by omega))] at hg; simp at hg)).symm, hst.pure⟩
  refine zaf <| zam <| RG <| MI rfl <| CN <| zas rfl rfl rfl zbe <| AI rfl <| NL <| zay ?_
  exact ih4 (i + 1) _ w (by omega) hst (⟨by omega, zck hJ.2 (by simpa using g12)⟩) E2 ⟨(Vi (by omega)), trivial⟩
 refine zaJ (id := 0) rfl <| SR <| AB rfl <| NL <| zah Tryz.func22 rfl (TP (v := .bool _) rfl) ?_
 exact ⟨Vb (Dt (⟨Nn g1, Nn g2, ztY Om (fun j hj => hJ.2 j Om)⟩)).symm, hst.pure⟩
end Go.SK
namespace Go.SK
open Go Go.Proofs
theorem zuh : zaN Tryz.prog 22 := ⟨Tryz.f22, _, Tryz.func22, Kr, rfl⟩
end Go.SK
namespace Go.SK
open Go Go.Proofs
open Go.RowKit
theorem InstL.Sm.len9 {y : InstP} (h : y.L.Sm) : y.args.length ≤ 9000000000000000000 := by
 have h1 := zeE y.args
 have h2 : (y.args.map za1).sum ≤ 900000000 := h.1
 omega
end Go.SK
namespace Go.SK
theorem Small.len9 {l : List InstP} (h : Small l) : l.length ≤ 9000000000000000000 := by have := h.len; omega
end Go.SK
