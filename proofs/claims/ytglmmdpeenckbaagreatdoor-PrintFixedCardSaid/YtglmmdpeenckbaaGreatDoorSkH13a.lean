/-
  Steps of functions, plain law, and walks of functions: what the laws rest on.
-/
import Derived.Test.YtglmmdpeenckbaaGreatDoorSkH0c
import Derived.Test.YtglmmdpeenckbaaGreatDoorSkH1a
import Derived.Test.YtglmmdpeenckbaaGreatDoorSkH2a
import Derived.Test.YtglmmdpeenckbaaGreatDoorSkH5a
set_option linter.unusedVariables false
set_option linter.unusedSimpArgs false
set_option linter.unusedSectionVars false
namespace Go.SK
open Go.RowKit Go.ChangeShapes Go.WideShapes Go.ChangeAt
theorem zwu {α : Type} {g : α → List Value} {es : Nat} (hg : ∀ a, (g a).length = es) {d y : α} {done : List α} {n i : Nat} {x : List Value} (hl : done.length = i) (hn : i < n) (hx : x = g y) : zcj ((done ++ List.replicate (n - i) d).flatMap g) (0 + (i : Int).toNat * es) x = ((done ++ [y]) ++ List.replicate (n - (i + 1)) d).flatMap g := by
  subst hx
  rw [Nat.zero_add, Int.toNat_natCast, zez hg _ _ _ (by simp; omega)]
  congr 1
  rw [List.set_append_right _ _ (by omega), hl, Nat.sub_self, show n - i = (n - (i + 1)) + 1 by omega, List.replicate_succ, List.set_cons_zero, List.append_assoc]
  rfl
theorem zs0 {α : Type} {g : α → List Value} {d : α} {ez : List Value} (hd : g d = ez) (n : Nat) : zdp ez n = (([] : List α) ++ List.replicate (n - 0) d).flatMap g := by
  rw [zih hd [] n]; simp [cpG]
end Go.SK
namespace Go.SK
open Go Go.Proofs
open Go.RowKit
theorem zbL (ga ba : Int) (l : List InstP) (ao : Option Addr) (cp : Nat) (w : World) (hA : (Res.rmod ao l).holds w) (hl : l.length ≤ 3518437208884) (hla : ∀ i ∈ l, i.args.length ≤ 5864062014806) : Ret Tryz.prog 20 #[.agg #[.int .u32 ga, .int .u32 ba, .slice ao l.length cp]] w (fun v w' => ∃ bC done, v = .agg #[.int .u32 ga, .int .u32 ba, .slice (some ⟨bC, 0, none⟩) done.length done.length] ∧ done.map InstP.L = l.map InstP.L ∧ St w NoM [Res.omod 44 110 (some ⟨bC, 0, none⟩) done.length done] [] w') := by
 refine zav (args := [.agg #[.int .u32 ga, .int .u32 ba, .slice ao l.length cp]]) Tryz.func20 rfl rfl rfl ?_
 have hst : St w NoM [] [Res.rmod ao l] w := St.init_D hA
 clear hA
 refine SR <| CN <| zbi (v := zb2 _ _ _ _ _) hst rfl rfl fun w b1 hst => CN <| Op1.alloc hst zb3 fun w b2 hst => NSR <| CN <| zaa zbU rfl <| CN <| zae (v := .slice _ _ _) zdo rfl rfl (hst.cellL Q1 rfl) <| CN <| zaQ (rest := []) zdo rfl <| CN (zeP hst zdo zbp rfl rfl rfl De Om Om fun w bC hst => ?_)
 rw [zs0 (g := zdu) (d := zeroI) (ez := [.int .u16 0, .int .u32 0, .int .u32 0, .slice none 0 0]) rfl] at hst
 refine AL rfl <| NL <| SQ <| SQ ?_
 replace hst := hst.starNil
 refine RG <| AI rfl <| NL <| zao <| zaV <| zaU [(1, Pp _ _), (2, Pp _ _), (3, .slice _ _ _)] E3 (fun (q : Nat × List InstP) => [(4, .int .i64 (q.1 : Int))]) (fun (q : Nat × List InstP) => [Res.star (q.2.map (Res.oargs 110)), Res.sl (some ⟨bC, 0, none⟩) l.length l.length 44 4 ((q.2 ++ List.replicate (l.length - q.1) zeroI).flatMap zdu)]) (fun (q : Nat × List InstP) => q.1 ≤ l.length ∧ q.2.length = q.1 ∧ q.2.map InstP.L = (l.take q.1).map InstP.L) (fun (q : Nat × List InstP) => l.length - q.1) ((0, [])) hst ⟨Nat.zero_le _, rfl, rfl⟩ ⟨rfl, trivial⟩ ?_
 intro ⟨i, done⟩ f w hst hJ ih1
 replace hst : St _ _ ([Res.star (done.map (Res.oargs 110)), Res.sl (some ⟨bC, 0, none⟩) l.length l.length 44 4 ((done ++ List.replicate (l.length - i) zeroI).flatMap zdu)] ++ [_, _]) _ _ := hst
 replace hJ : i ≤ l.length ∧ done.length = i ∧ done.map InstP.L = (l.take i).map InstP.L := hJ
 refine za2 (sl := [(4, .int .i64 (i : Int))]) ⟨rfl, trivial⟩ <| SQ <| SR <| MI rfl <| CN <| zaa zbU rfl <| CN <| zae (v := .slice _ _ _) zdo rfl rfl (hst.cellL Q3 rfl) <| CN <| zaQ (rest := []) zdo rfl <| CN <| zaS rfl rfl <| NL <| zab rfl (fun g2 => ?_) (fun g2 => ?_)
 ·refine zaf <| SQ <| zao <| RG <| ML rfl <| MI rfl <| CN <| zaa zbU rfl <| CN <| zae (v := .slice _ _ _) zdo rfl rfl (hst.cellL Q3 rfl) <| MI rfl <| CN <| zaO zdo zbp (Res.rmod_insts (hst.hD _ Q0)) rfl rfl Om Om <| CN <| zar (vs := zbg _ _ _ _ _ _) zbp rfl rfl rfl (Res.rs2_cells (m := 4) (Res.rmod_insts (hst.hD _ Q0)) _ (zbG (g := zdu) (d := zeroI) zcG _ _ Om)) <| CN (Op1.call1 (v1 := zbb _ _ _ _ _ _) zsl rfl rfl ((zc6 _ _ (Res.rmod_argsI (hst.hD _ Q0) Om) (hla _ (zb8 Om))).mono fun v w hp => ?_))
  obtain ⟨bN, rfl, hp⟩ := hp
  replace hst := hst.call0 hp
  clear hp
  refine CN <| za5 zdo zbp rfl rfl (by omega) (by omega) <| CN <| zeO (v := zbb _ _ _ _ _ _) hst zbp rfl rfl rfl rfl rfl .u2 (by simp only [List.length_cons, List.length_nil]; omega) fun w hst => NL <| zam <| RG <| MI rfl <| CN <| zas rfl rfl rfl zbe <| AI rfl <| NL <| zay ?_
  replace hst := hst.pick (.cons .u0 (.cons .u0 (.cons .u0 (.cons .u0 (.cons .u0 .nil)))))
  replace hst := hst.starSnoc
  exact ih1 ((i + 1, done ++ [⟨(l.getD i zeroI).op, (l.getD i zeroI).ty, (l.getD i zeroI).res, some ⟨bN, 0, none⟩, (l.getD i zeroI).args.length, (l.getD i zeroI).args⟩])) _ w (by (try dsimp only); omega) (by (try dsimp only); rw [List.map_append, ← zwu (g := zdu) (es := 4) zcG (y := ⟨(l.getD i zeroI).op, (l.getD i zeroI).ty, (l.getD i zeroI).res, some ⟨bN, 0, none⟩, (l.getD i zeroI).args.length, (l.getD i zeroI).args⟩) (x := zdu ⟨(l.getD i zeroI).op, (l.getD i zeroI).ty, (l.getD i zeroI).res, some ⟨bN, 0, none⟩, (l.getD i zeroI).args.length, (l.getD i zeroI).args⟩) hJ.2.1 (by omega) rfl]; exact hst) (⟨by (try dsimp only); omega, by simp [hJ.2.1], by rw [List.map_append, hJ.2.2, zc4 (d := zeroI) (by omega), List.map_append]; rfl⟩) E3 ⟨(Vi (by (try dsimp only); omega)), trivial⟩
 obtain rfl : i = l.length := by omega
 rw [Nat.sub_self, List.replicate_zero, List.append_nil done] at hst
 have hdl := hJ.2.1
 have hdn := hJ.2.2
 rw [List.take_length] at hdn
 refine zaJ (id := 0) rfl <| SR <| ML rfl <| CN <| zaa zbU rfl <| CN (SO (v := .slice _ _ _) hst zdo rfl rfl .u3 fun w hst => ?_)
 refine NSR <| CN <| zar (vs := zdH _ _ _ _ _) zb3 rfl rfl rfl (zac (n := 3) (hst.objL Q3) _ rfl) <| CN (SO (v := zb2 _ _ _ _ _) hst zb3 rfl rfl .u2 fun w hst => ?_)
 refine NL <| zah Tryz.func20 rfl (zal (vs := zdH _ _ _ _ _) rfl zb3 rfl rfl (zac (n := 3) (hst.objL Q2) _ rfl)) ?_
 replace hst := hst.pick (.cons .u1 (.cons .u0 .nil))
 rw [← hdl] at hst
 exact ⟨bC, done, (by rw [hdl]), hdn, (St.starCons hst).noD⟩
end Go.SK
namespace Go.SK
theorem Small.lenC {l : List InstP} (h : Small l) : l.length ≤ 3518437208884 := by have := h.len; omega
theorem Small.laC {l : List InstP} (h : Small l) : ∀ i ∈ l, i.args.length ≤ 5864062014806 := fun i hi => by have := h.args i hi; omega
end Go.SK
namespace Go.SK
open Go Go.Proofs
theorem zkY : zaN Tryz.prog 20 := ⟨Tryz.f20, _, Tryz.func20, Kr, rfl⟩
end Go.SK
