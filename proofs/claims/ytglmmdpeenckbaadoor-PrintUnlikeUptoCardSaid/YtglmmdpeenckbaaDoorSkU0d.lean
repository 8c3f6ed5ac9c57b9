/-
  Steps of functions, plain law, and walks of functions: what the laws rest on.
-/
import Derived.Test.YtglmmdpeenckbaaDoorSkU0c
set_option linter.unusedVariables false
set_option linter.unusedSimpArgs false
set_option linter.unusedSectionVars false
namespace Go.SK
open Go Go.Proofs
open Go.RowKit
theorem znU {op : Int} {fm : FormL} (hfm : zaO op = fm) (k : Nat) (a : ArgP) (w : World) (hG : LxG.holds w) (h0 : 0 ≤ a.n) (h1 : a.n < 4294967296) (hop : 0 ≤ op) (hk : k ≤ 9000000000000000000) : Ret Tryd.prog 43 #[.int .u16 op, .int .i64 (k : Int), .agg #[.int .u8 a.kind, .int .u32 a.n, str a.s]] w (fun v w' => v = .agg #[.int .u8 (zd2 (zav fm (k : Int)) a).kind, str (zd2 (zav fm (k : Int)) a).text, .int .i64 (zd2 (zav fm (k : Int)) a).at_] ∧ St w NoM [] [] w') := by
 subst hfm; exact zpA op k a w hG h0 h1 hop hk
theorem zj6 (p : InstP) (w : World) (hG : LxG.holds w) (hA0 : (Res.rargs p).holds w) (hu : p.L.U32) (hop : 0 ≤ p.op) (hsm : (p.args.map zaD).sum ≤ 900000000) : Ret Tryd.prog 20 #[.agg #[.int .u16 p.op, .int .u32 p.ty, .int .u32 p.res, .slice p.ao p.args.length p.cap]] w (fun v w' => ∃ ao cp, v = .slice ao (zeL p.L).length cp ∧ St w NoM [Res.sl ao (zeL p.L).length cp 43 3 ((zeL p.L).flatMap zfa)] [] w') := by
 refine zaq (args := [.agg #[.int .u16 p.op, .int .u32 p.ty, .int .u32 p.res, .slice p.ao p.args.length p.cap]]) Tryd.func20 rfl rfl rfl ?_
 have hst : St w NoM [] [LxG, Res.rargs p] w := St.init_Ds (by simp only [List.forall_mem_cons]; exact ⟨hG, hA0, fun _ h => absurd h List.not_mem_nil⟩)
 have htR : (zjq p.L).length ≤ 2 := by unfold zjq; split <;> simp
 refine SR <| CN <| zbf (v := zdg _ _ _ _ _ _) hst rfl rfl fun w b1 hst => AL rfl <| NSR <| CN <| zab zeX rfl <| CN (zae (v := .int .u16 _) zpS rfl rfl (hst.cellL Q0 rfl) ?_)
 obtain ⟨fm, hfm⟩ : ∃ x, zaO p.op = x := ⟨_, rfl⟩
 obtain ⟨ob, hob⟩ : ∃ x, (zcR p.op).isSome = x := ⟨_, rfl⟩
 refine CN <| zao (v1 := .int .u16 _) zpi rfl rfl <| Ret.det (zhP hop hfm hob _) hst fun w hst => CN <| zad (v := .tuple #[zaJ _ _ _ _ _ _ _ _, .bool _]) rfl <| CN <| Ex (zaJ _ _ _ _ _ _ _ _) rfl rfl <| CN <| Ex (.bool _) rfl rfl <| CN <| zaz hst zfi fun w b3 hst => CN (SO (v := zaJ _ _ _ _ _ _ _ _) hst zfi rfl rfl .u0 fun w hst => ?_)
 refine AB rfl <| NSR <| CN <| zaz hst zmn fun w b5 hst => NL <| SQ ?_
 replace hst := hst.pushNil 43 3
 replace hst := hst.pick (.cons .u1 (.cons .u0 (.cons .u0 (.cons .u0 .nil))))
 replace hst : St _ _ (VsR 39 43 3 zfa b5 none 0 ([] : List TokL) :: _) _ _ := St.pack (L1 := [_, _]) hst
 have htl := fun k => zoy (i := p.L) (fm := fm) (k := k) hu
 have hal : p.L.args.length ≤ 900000000 := Nat.le_trans (zeU _) hsm
 refine RG <| CN <| zbW <| CN <| zaf (v := .func _ _ _) rfl <| NL <| SQ <| zhN (L1 := [_]) [(1, Pp _ _), (3, Pp _ _), (5, Pp _ _), (6, .func _ _ _)] hst E4 (fun (qq : Option Addr × Nat) => []) (fun (qq : Option Addr × Nat) => [VsR 39 43 3 zfa b5 qq.1 qq.2 (zjq p.L)]) (fun (qq : Option Addr × Nat) => True) (fun ⟨aq, cq⟩ f w hst hJ2 => ?_) (fun cut1 => ?_)
 replace hst : St _ _ ([VsR 39 43 3 zfa b5 aq cq (zjq p.L)] ++ [_, _]) _ _ := hst
 replace hJ2 : True := hJ2
 skip
 ·refine SR <| CN <| zad (v := .func _ _ _) rfl <| CN <| zab zqF rfl <| CN <| zae (v := str _) ty9 rfl rfl (hst.cellL Q1 rfl) <| CN <| zao (v1 := str _) zqM rfl rfl <| Ret.det (zge _ _) hst fun w hst => CN (zaG (z0 := [.int .u8 0, str [], .int .i64 0]) hst zmn zds rfl rfl Kr (.c (v := zgT _ _ _) rfl (h := .nil)) fun w b29 hst => ?_)
  replace hst := hst.pick (.cons .u1 (.cons .u0 (.cons .u0 (.cons .u0 .nil))))
  refine CN (zcc (v1 := .slice _ _ _) rfl rfl (zcQ zph ((zfD b5 aq cq (zjq p.L) b29 [⟨1, fm.name, 0⟩] _ (hst.hL _ Q0) (hst.hL _ Q1) ((List.pairwise_cons.1 hst.sep).1 _ Q0) (by simp only [List.length_append, List.length_cons, List.length_nil]; have h0 := htl 0; rw [zcC] at h0; have h1 := htR; omega)).mono fun v w hp => ?_)))
  obtain ⟨aq4, cq5, rfl, hp⟩ := hp
  replace hst : St _ _ (_ :: _ :: _) _ _ := hst.call1 hp
  clear hp
  replace hst := hst.drop .u1
  refine NL <| SQ <| zhN (L1 := [_]) [(1, Pp _ _), (5, Pp _ _), (6, .func _ _ _)] hst E3 (fun (qq : Option Addr × Nat) => []) (fun (qq : Option Addr × Nat) => [VsR 39 43 3 zfa b5 qq.1 qq.2 (zli p.L)]) (fun (qq : Option Addr × Nat) => True) (fun ⟨aq, cq⟩ f w hst hJ7 => ?_) (fun cut6 => ?_)
  replace hst : St _ _ ([VsR 39 43 3 zfa b5 aq cq (zli p.L)] ++ [_, _]) _ _ := hst
  replace hJ7 : True := hJ7
  skip
  ·refine SQ <| SR <| CN <| zab zbZ rfl <| CN <| zae (v := .slice _ _ _) zd6 rfl rfl (hst.cellL Q2 rfl) <| CN <| zaK (rest := []) zd6 rfl <| MI rfl <| NL <| zan <| zaY <| za4 [(1, Pp _ _), (5, Pp _ _), (6, .func _ _ _), (40, .slice _ _ _), (41, .int .i64 _)] E5 (fun (qq : Nat × Option Addr × Nat) => [(42, .int .i64 (qq.1 : Int))]) (fun (qq : Nat × Option Addr × Nat) => [VsR 39 43 3 zfa b5 qq.2.1 qq.2.2 (zmo p.L fm qq.1)]) (fun (qq : Nat × Option Addr × Nat) => qq.1 ≤ p.args.length) (fun (qq : Nat × Option Addr × Nat) => p.args.length - qq.1) ((0, aq, cq)) (by (try dsimp only); rw [zcC]; exact hst) (Nat.zero_le _) ⟨rfl, trivial⟩ ?_
   intro ⟨i, aq, cq⟩ f w hst hJ ih9
   replace hst : St _ _ ([VsR 39 43 3 zfa b5 aq cq (zmo p.L fm i)] ++ [_, _]) _ _ := hst
   replace hJ : i ≤ p.args.length := hJ
   refine zbp (sl := [(42, .int .i64 (i : Int))]) ⟨rfl, trivial⟩ <| SR <| CN <| zaR rfl rfl <| NL <| SQ <| zaa rfl (fun g10 => ?_) (fun g10 => ?_)
   ·have hi : i < p.L.args.length := by show i < p.args.length; omega
    have han := hu.args _ (zbG (d := zeroA) hi)
    refine zah <| SQ <| zan <| SR <| MI rfl <| CN <| zaV zd6 zbJ (hst.hD _ Q1) rfl rfl Om Om <| CN <| zaA (vs := znk _ _ _) zbJ rfl rfl rfl (Res.rs2_cells (m := 3) (hst.hD _ Q1) _ (zbr (g := zhM) (d := zeroA) zcu _ _ Om)) <| CN <| zaz hst zbJ fun w b8 hst => AI rfl <| CN (SO (v := zlW _ _ _) hst zbJ rfl rfl .u0 fun w hst => ?_)
    refine NR <| CN <| zad (v := .func _ _ _) rfl <| CN <| zab zeX rfl <| CN <| zae (v := .int .u16 _) zpS rfl rfl (hst.cellL Q3 rfl) <| MI rfl <| CN <| zaA (vs := znk _ _ _) zbJ rfl rfl rfl (zag (n := 3) (hst.objL Q0) _ rfl) <| CN <| zeB (v1 := .int .u16 _) (v2 := .int .i64 _) (v3 := zlW _ _ _) ent43 rfl rfl rfl rfl <| Ret.det (znU hfm i (p.args.getD ((i : Int).toNat) zeroA) _ (hst.hD _ Q0) han.1 han.2 hop Om) hst fun w hst => CN (zaG (z0 := [.int .u8 0, str [], .int .i64 0]) hst zmn zds rfl rfl Kr (.c (v := zgT _ _ _) rfl (h := .nil)) fun w b53 hst => ?_)
    replace hst := hst.pick (.cons .u2 (.cons .u0 (.cons .u0 (.cons .u0 (.cons .u0 .nil)))))
    refine CN (zcc (v1 := .slice _ _ _) rfl rfl (zcQ zph ((zfD b5 aq cq (zmo p.L fm i) b53 [zd2 (zav fm (i : Int)) (p.L.args.getD i zeroA)] _ (hst.hL _ Q0) (hst.hL _ Q1) ((List.pairwise_cons.1 hst.sep).1 _ Q0) (by have h2 := htl i; simp only [List.length_append, List.length_cons, List.length_nil]; have h0 := htl 0; rw [zcC] at h0; have h1 := htR; omega)).mono fun v w hp => ?_)))
    obtain ⟨aq11, cq12, rfl, hp⟩ := hp
    replace hst : St _ _ (_ :: _ :: _) _ _ := hst.call1 hp
    clear hp
    replace hst := hst.drop .u1
    refine NL <| zaj <| RG <| CN <| zaC rfl rfl rfl zck <| MI rfl <| NL <| zax ?_
    replace hst := hst.pick (.cons .u0 (.cons .u1 (.cons .u1 .nil)))
    exact ih9 ((i + 1, aq11, cq12)) _ w ((by (try dsimp only); omega)) (by (try dsimp only); rw [zmK (i := p.L) (fm := fm) hi]; exact hst) ((by (try dsimp only); omega)) E5 ⟨(Vi (by (try dsimp only); omega)), trivial⟩
   have hi : i = p.L.args.length := by show i = p.args.length; omega
   refine zaI (id := 0) rfl <| SQ ?_
   rw [zoz hfm hi] at hst
   replace hst := hst.pick (.cons .u0 (.cons .u0 (.cons .u0 .nil)))
   replace hst : St _ _ (_ :: _ :: _) _ _ := hst.unpack
   refine RG <| CN <| zae (v := .slice _ _ _) zmn rfl rfl (hst.cellL Q0 rfl) <| AL rfl <| NL <| zac Tryd.func20 rfl (TP (v := .slice _ _ _) rfl) ?_
   replace hst := hst.pick (.cons .u1 .nil)
   exact ⟨_, _, rfl, hst.noD⟩
  ·refine SR <| CN <| zab zf1 rfl <| CN <| zae (v := .bool _) ty4 rfl rfl (hst.cellL Q1 rfl) <| NL <| zaN rfl (fun g13 => ?_) (fun g13 => ?_)
   ·refine RG <| CN <| zad (v := .func _ _ _) rfl <| CN <| zab zhy rfl <| CN <| zae (v := .int .u32 _) zbT rfl rfl (hst.cellL Q2 rfl) <| CN <| zao (v1 := .int .u32 _) zqJ rfl rfl <| Ret.det (zj7 p.ty hu.ty.1 hu.ty.2 _ (hst.hD _ Q0)) hst fun w hst => CN (zaG (z0 := [.int .u8 0, str [], .int .i64 0]) hst zmn zds rfl rfl Kr (.c (v := zgT _ _ _) rfl (h := .nil)) fun w b37 hst => ?_)
    replace hst := hst.pick (.cons .u1 (.cons .u0 (.cons .u0 (.cons .u0 .nil))))
    refine CN (zcc (v1 := .slice _ _ _) rfl rfl (zcQ zph ((zfD b5 aq4 cq5 ((zjq p.L) ++ [⟨1, fm.name, 0⟩]) b37 [idK p.ty] _ (hst.hL _ Q0) (hst.hL _ Q1) ((List.pairwise_cons.1 hst.sep).1 _ Q0) (by simp only [List.length_append, List.length_cons, List.length_nil]; have h0 := htl 0; rw [zcC] at h0; have h1 := htR; omega)).mono fun v w hp => ?_)))
    obtain ⟨aq14, cq15, rfl, hp⟩ := hp
    replace hst : St _ _ (_ :: _ :: _) _ _ := hst.call1 hp
    clear hp
    replace hst := hst.drop .u1
    refine NL ?_
    exact cut6 ((aq14, cq15)) _ w ((by rw [zox (i := p.L) hfm g13]; exact hst)) (trivial) E3 trivial
   refine zah ?_
   exact cut6 ((aq4, cq5)) _ w ((by rw [zqi (i := p.L) hfm g13]; exact hst)) (trivial) E3 trivial
 ·refine SR <| CN <| zab zdi rfl <| CN <| zae (v := .bool _) ty4 rfl rfl (hst.cellL Q1 rfl) <| NL <| zaN rfl (fun g16 => ?_) (fun g16 => ?_)
  ·refine RG <| CN <| zad (v := .func _ _ _) rfl <| CN <| zab zhx rfl <| CN <| zae (v := .int .u32 _) zbT rfl rfl (hst.cellL Q2 rfl) <| CN <| zao (v1 := .int .u32 _) zqJ rfl rfl <| Ret.det (zj7 p.res hu.res.1 hu.res.2 _ (hst.hD _ Q0)) hst fun w hst => CN (zau zds zmQ (.c (v := .int .u8 _) rfl (h := (.c (v := str _) rfl (h := .nil)))) ?_)
   refine CN (zaG (z0 := [.int .u8 0, str [], .int .i64 0, .int .u8 0, str [], .int .i64 0]) hst zmn zds rfl rfl Kr (.c (v := zgT _ _ _) rfl (h := (.c (v := zgT _ _ _) rfl (h := .nil)))) fun w b23 hst => ?_)
   replace hst := hst.pick (.cons .u1 (.cons .u0 (.cons .u0 (.cons .u0 .nil))))
   refine CN (zcc (v1 := .slice _ _ _) rfl rfl (zcQ zph ((zfD b5 none 0 [] b23 [idK p.res, ⟨5, [61], 0⟩] _ (hst.hL _ Q0) (hst.hL _ Q1) ((List.pairwise_cons.1 hst.sep).1 _ Q0) (by simp only [List.length_append, List.length_cons, List.length_nil]; have h0 := htl 0; rw [zcC] at h0; have h1 := htR; omega)).mono fun v w hp => ?_)))
   obtain ⟨aq17, cq18, rfl, hp⟩ := hp
   replace hst : St _ _ (_ :: _ :: _) _ _ := hst.call1 hp
   clear hp
   replace hst := hst.drop .u1
   refine NL ?_
   exact cut1 ((aq17, cq18)) _ w ((by rw [zou (i := p.L) hfm g16]; exact hst)) (trivial) E4 trivial
  refine zah ?_
  exact cut1 ((none, 0)) _ w ((by rw [zqh (i := p.L) hfm g16]; exact hst)) (trivial) E4 trivial
end Go.SK
namespace Go.SK
open Go Go.Proofs
open Go.RowKit
theorem zgd (s : List UInt8) (w : World) (hl : s.length ≤ 9000000000000000000) : Ret Tryd.prog 116 #[str s] w (fun v w' => v = .int .i64 ((s.length / 4 + 1 : Nat) : Int) ∧ St w NoM [] [] w') := by
 refine zaq (args := [str s]) Tryd.func116 rfl rfl rfl ?_
 have hst := St.init w
 refine SR <| AI rfl <| NSR <| MS rfl <| CN (zbs (rest := []) ty9 rfl ?_)
 first | refine CN (zk8 rfl rfl Om Om rfl zck ?_) | refine CN (zoa rfl rfl Om ?_)
 refine CN <| zaC rfl rfl rfl zck <| AI rfl <| NL <| zac Tryd.func116 rfl (TP (v := .int .i64 _) rfl) ?_
 exact ⟨Vi Om, hst.pure⟩
end Go.SK
namespace Go.SK
open Go Go.Proofs
theorem znF : zaB Tryd.prog 116 := ⟨Tryd.f116, _, Tryd.func116, Kr, rfl⟩
theorem zc4 : TyF Tryd.prog 114 (.slice 22) 1 24 [.slice none 0 0] := zaZ Kr Kr
end Go.SK
namespace Go.SK
open Go Go.Proofs
open Go.RowKit
theorem zj5 (s : List UInt8) (w : World) (hl : s.length ≤ 100000000000000) : Ret Tryd.prog 115 #[str s] w (fun v w' => ∃ ro rc, v = .tuple #[.slice ro (zbu s).length rc, .int .i64 (zbN s)] ∧ St w NoM [Res.sl ro (zbu s).length rc 22 1 ((zbu s).flatMap zgl)] [] w') := by
 refine zaq (args := [str s]) Tryd.func115 rfl rfl rfl ?_
 have hst := St.init w
 refine SR <| AL rfl <| AI rfl <| NL <| SQ <| SR <| MS rfl <| CN <| zbs (rest := []) ty9 rfl <| MI rfl <| NL <| zan <| zaY <| za4 [(0, str _), (8, .int .i64 _)] E2 (fun (i : Nat) => [(9, .int .i64 (i : Int))]) (fun (i : Nat) => []) (fun (i : Nat) => i ≤ s.length ∧ ∀ r, r < i → s.getD r 0 ≠ 0) (fun (i : Nat) => s.length - i) (0) hst ⟨Nat.zero_le _, fun r hr => absurd hr Om⟩ ⟨rfl, trivial⟩ ?_
 intro i f w hst hJ ih1
 refine SR <| CN <| zaR rfl rfl <| NL <| SQ <| zaa rfl (fun g2 => ?_) (fun g2 => ?_)
 ·refine zah <| SQ <| zan <| SR <| MI rfl <| AI rfl <| NSR <| MS rfl <| MI rfl <| CN <| za9 ty9 rfl rfl Om Om <| CN <| zai rfl rfl <| NL ?_
  refine zaa rfl (fun g3 => ?_) (fun g3 => ?_)
  ·refine SR <| AL rfl <| AI rfl <| NL <| zat Tryd.func115 rfl (TP (v := .slice _ _ _) rfl) (TP (v := .int .i64 _) rfl) ?_
   replace hst := hst.pick .nil
   have he := zim Om g3 hJ.2
   rw [zcW (by rw [he]; decide), he]
   exact ⟨none, 0, rfl, (hst.pushNil 22 1).noD⟩
  refine zah <| zaj <| RG <| CN <| zaC rfl rfl rfl zck <| MI rfl <| NL <| zax ?_
  exact ih1 (i + 1) _ w Om hst (⟨by omega, zqt hJ.2 (byte1 g3)⟩) E2 ⟨(Vi Om), trivial⟩
 refine zaI (id := 0) rfl <| SQ <| SR <| MS rfl <| CN <| zao (v1 := str _) znF rfl rfl <| Ret.det (zgd s _ Om) hst fun w hst => CN <| zb1 rfl rfl <| NL <| zaa rfl (fun g4 => ?_) (fun g4 => ?_)
 ·refine SR <| AL rfl <| AI rfl <| NL <| zat Tryd.func115 rfl (TP (v := .slice _ _ _) rfl) (TP (v := .int .i64 _) rfl) ?_
  replace hst := hst.pick .nil
  have he := zhq (s := s) (fun r hr => hJ.2 r Om) Om
  rw [zcW (by rw [he]; decide), he]
  exact ⟨none, 0, rfl, (hst.pushNil 22 1).noD⟩
 refine zah <| SR <| MS rfl <| CN <| zao (v1 := str _) znF rfl rfl <| Ret.det (zgd s _ Om) hst fun w hst => CN (zdY (k := s.length / 4 + 1) hst zc4 zbT rfl rfl rfl De Om Om fun w bC hst => ?_)
 rw [znx] at hst
 refine AL rfl <| NL <| SQ <| SR <| MS rfl <| CN <| zbs (rest := []) ty9 rfl <| MI rfl <| NL <| zan <| zaY <| za4 [(0, str _), (5, .slice _ _ _), (24, .int .i64 _)] E3 (fun (i : Nat) => [(25, .int .i64 (i : Int))]) (fun (i : Nat) => [Res.sl (some ⟨bC, 0, none⟩) (s.length / 4 + 1) (s.length / 4 + 1) 22 1 ((zbw (zbU s i)).flatMap zgl)]) (fun (i : Nat) => i ≤ s.length) (fun (i : Nat) => s.length - i) (0) hst (Nat.zero_le _) ⟨rfl, trivial⟩ ?_
 intro i f w hst hK ih5
 have hLl := zdk (s := s) (i := i) hK
 refine SR <| CN <| zaR rfl rfl <| NL <| SQ <| zaa rfl (fun g6 => ?_) (fun g6 => ?_)
 ·have hlow := zpe (s := s) (i := i) Om
  refine zah <| SQ <| zan <| SR <| MI rfl <| AI rfl <| NL <| RunD.start [] hst (bs := [0, 0, 2, 7, 15, 0, 0, 96, 224, 0, 512, 1536, 4064, 8191, 16383, 32767]) (ds := [some 28, some 29, some 30, some 31, some 32, some 33, some 34, some 35, some 36, some 37, some 38, some 39, some 40, some 41, some 42, none]) ⟨Kr, Kr, Kr⟩ (fun tab7 => ?_)
  refine DO tab7 1 (fun f' L' w' hc=> zad (v := .slice _ _ _) (hc.old rfl rfl rfl) hc.z) <| DO tab7 2 (fun _ _ _ hc => zad (v := .int .i64 _) (hc.old rfl rfl rfl) hc.z) ?_
  first | refine DO tab7 3 (fun f' L' w' hc=> zk8 (hc.d 1 rfl rfl rfl rfl) rfl Om Om rfl zck hc.z) ?_ | refine DO tab7 3 (fun _ _ _ hc => zoa (hc.d 1 rfl rfl rfl rfl) rfl Om hc.z) ?_
  refine DO tab7 4 (fun f' L' w' hc=> zbv zc4 zbT (hc.d 0 rfl rfl rfl rfl) (hc.d 2 rfl rfl rfl rfl) Om Om hc.z) <| DO tab7 5 (fun f' L' w' hc=> zae (v := .int .u32 _) zbT rfl (hc.d 3 rfl rfl rfl rfl) (Res.sl_cell (hc.st.hL _ (List.mem_append_right _ Q0)) (ze0 (g := zgl) (d := 0) zkt rfl Om)) hc.z) <| DO tab7 6 (fun f' L' w' hc=> zad (v := str _) (hc.old rfl rfl rfl) hc.z) <| DO tab7 7 (fun f' L' w' hc=> zad (v := .int .i64 _) (hc.old rfl rfl rfl) hc.z) <| DO tab7 8 (fun _ _ _ hc => za9 ty9 (hc.d 5 rfl rfl rfl rfl) (hc.d 6 rfl rfl rfl rfl) Om Om hc.z) ?_
  first | refine DO tab7 9 (fun f' L' w' hc=> zaH ty5 zbT (hc.d 7 rfl rfl rfl rfl) zq8 hc.z) ?_ | refine DO tab7 9 (fun f' L' w' hc=> zaH ty5 zbT (hc.d 7 rfl rfl rfl rfl) (zmu _) hc.z) ?_ | refine DO tab7 9 (fun _ _ _ hc => zaP ty5 zbT (hc.d 7 rfl rfl rfl rfl) hc.z) ?_
  refine DO tab7 10 (fun _ _ _ hc => zad (v := .int .i64 _) (hc.old rfl rfl rfl) hc.z) ?_
  first | refine DO tab7 11 (fun f' L' w' hc=> zfE (hc.d 9 rfl rfl rfl rfl) rfl Om Om rfl hc.z) ?_ | refine DO tab7 11 (fun _ _ _ hc => zhR (hc.d 9 rfl rfl rfl rfl) rfl Om hc.z) ?_
  refine DO tab7 12 (fun f' L' w' hc=> zb6 rfl (hc.d 10 rfl rfl rfl rfl) rfl zck hc.z) <| DO tab7 13 (fun _ _ _ hc => zk7 (c := ((s.getD i 0).toNat : Int) * 256 ^ (i % 4)) (hc.d 8 rfl rfl rfl rfl) (hc.d 11 rfl rfl rfl rfl) Om (by show _ ≤ 32; omega) (zoH (s.getD i 0) i) hc.z) <| RunD.fin zaE tab7 hst rfl (fun f8 w R11 hs9 hd10 hr12 hst => ?_)
  obtain ⟨h28_, r0⟩ := hd10 0 28 rfl rfl
  obtain ⟨h29_, r1⟩ := hd10 1 29 rfl rfl
  obtain ⟨h30_, r2⟩ := hd10 2 30 rfl rfl
  obtain ⟨h31_, r3⟩ := hd10 3 31 rfl rfl
  obtain ⟨h32_, r4⟩ := hd10 4 32 rfl rfl
  obtain ⟨h33_, r5⟩ := hd10 5 33 rfl rfl
  obtain ⟨h34_, r6⟩ := hd10 6 34 rfl rfl
  obtain ⟨h35_, r7⟩ := hd10 7 35 rfl rfl
  obtain ⟨h36_, r8⟩ := hd10 8 36 rfl rfl
  obtain ⟨h37_, r9⟩ := hd10 9 37 rfl rfl
  obtain ⟨h38_, r10⟩ := hd10 10 38 rfl rfl
  obtain ⟨h39_, r11⟩ := hd10 11 39 rfl rfl
  obtain ⟨h40_, r12⟩ := hd10 12 40 rfl rfl
  simp only [rg13, Fc, Fn, Mc, Mn, r0, r1, r2, r3, r4, r5, r6, r7, r8, r9, r10, r11, r12, Na, An, Ca] at hst
  refine zaL (sl := [(0, str _), (5, .slice _ _ _), (24, .int .i64 _), (25, .int .i64 _), (28, .slice _ _ _), (30, .int .i64 _), (32, .int .u32 _), (40, .int .u32 _)]) ⟨(hs9 0 rfl).trans rfl, (hs9 5 rfl).trans rfl, (hs9 24 rfl).trans rfl, (hs9 25 rfl).trans rfl, h28_, h30_, h32_, h40_, trivial⟩ ?_
  clear hs9 hd10 hr12 tab7
  refine CN <| zmk (a := (zbw (zbU s i)).getD (i / 4) 0) (m := 8 * (i % 4)) (q := ((s.getD i 0).toNat : Int)) (c := (zbw (zbU s i)).getD (i / 4) 0 + ((s.getD i 0).toNat : Int) * 256 ^ (i % 4)) rfl rfl hlow.1 hlow.2.1 (by rw [zm2 (by omega)]) (by omega) rfl hlow.2.2 <| CN <| zbv zc4 zbT rfl rfl (by omega) (by omega) <| CN <| zdX (v := .int .u32 _) hst zbT rfl rfl rfl rfl rfl .u0 (by simp only [List.length_cons, List.length_nil]; omega) fun w hst => NL <| zaj <| RG <| CN <| zaC rfl rfl rfl zck <| MI rfl <| NL <| zax ?_
  exact ih5 (i + 1) _ w (by omega) (by (try dsimp only); rw [← zny (s := s) (i := i) (by omega)]; exact hst) (by omega) E3 ⟨(Vi (by omega)), trivial⟩
 have hi : i = s.length := by omega
 subst hi
 have hpd : zbU s s.length = zgK s := rfl
 rw [hpd] at hst
 refine zaI (id := 2) rfl <| SR <| ML rfl <| AL rfl <| AI rfl <| NL <| zat Tryd.func115 rfl (TP (v := .slice _ _ _) rfl) (TP (v := .int .i64 _) rfl) ?_
 replace hst := hst.pick (.cons .u0 .nil)
 have he := zlB (s := s) (fun r hr => hJ.2 r Om) Om
 have hpl : (zbw (zgK s)).length = s.length / 4 + 1 := by rw [zeM, zgJ]; omega
 rw [zgL he, he, hpl]
 exact ⟨_, _, rfl, hst.noD⟩
end Go.SK
namespace Go.SK
open Go Go.Proofs
theorem ty85 : TyF Tryd.prog 85 (.slice 116) 1 24 [.slice none 0 0] := zaZ Kr Kr
theorem zbX : TyF Tryd.prog 116 (.struct (za8 Tryd.prog 116)) 2 32 [.int .u16 0, .slice none 0 0] := zaZ Kr Kr
theorem zhA : FldF Tryd.prog 116 1 1 := FldF.of (n := 0) Kr
end Go.SK
namespace Go.SK
open Go Go.Proofs
open Go.RowKit
theorem zi7 (l : List RawP) (ao : Option Addr) (cp : Nat) (w : World) (hA : (Res.rs ao l.length 2 (l.flatMap zmY)).holds w) (hl : l.length ≤ 35184372088832) (hla : ∀ r ∈ l, r.ws.length ≤ 35184372088832) : Ret Tryd.prog 69 #[.slice ao l.length cp] w (fun v w' => v = cntV (zjY 5 0 (l.map zjC)) ∧ St w NoM [] [] w') := by
 refine zaq (args := [.slice ao l.length cp]) Tryd.func69 rfl rfl rfl ?_
 have hst : St w NoM [] [Res.rs ao l.length 2 (l.flatMap zmY)] w := St.init_D hA
 clear hA
 refine SR <| AI rfl <| CN <| zaz hst zb2 fun w b3 hst => NSR <| AI rfl <| NL <| SQ <| SR <| ML rfl <| CN <| zaK (rest := []) ty85 rfl <| MI rfl ?_
 refine NL <| zan <| zaY <| za4 [(3, Pp _ _), (7, .slice _ _ _), (8, .int .i64 _)] E3 (fun (q : Nat × Nat) => [(4, .int .i64 (q.2 : Int)), (9, .int .i64 (q.1 : Int))]) (fun (q : Nat × Nat) => []) (fun (q : Nat × Nat) => q.1 ≤ l.length ∧ q.2 ≤ 1048576 ∧ zjY 5 0 (l.map zjC) = zjY q.2 q.1 ((l.map zjC).drop q.1)) (fun (q : Nat × Nat) => l.length - q.1) ((0, 5)) hst ⟨Nat.zero_le _, by decide, rfl⟩ E2 ?_
 intro ⟨i, n⟩ f w hst hJ ih1
 replace hst : St _ _ ([] ++ [_]) _ _ := hst
 replace hJ : i ≤ l.length ∧ n ≤ 1048576 ∧ zjY 5 0 (l.map zjC) = zjY n i ((l.map zjC).drop i) := hJ
 refine zbp (sl := [(4, .int .i64 (n : Int)), (9, .int .i64 (i : Int))]) E2 <| SR <| CN <| zaR rfl rfl <| NL <| SQ <| zaa rfl (fun g2 => ?_) (fun g2 => ?_)
 ·have hlen := hla _ (zbG (d := zdM) (i := i) Om)
  have hidx : (l.getD ((i : Int).toNat) zdM).ws.length = (l.getD i zdM).ws.length := rfl
  refine zah <| SQ <| zan <| SR <| MI rfl <| CN <| zaV ty85 zbX (hst.hD _ Q0) rfl rfl Om Om <| CN <| zaA (vs := lHL _ _ _ _) zbX rfl rfl rfl (Res.rs2_cells (m := 2) (hst.hD _ Q0) _ (zbr (g := zmY) (d := zdM) zoP _ _ Om)) <| CN <| zaz hst zbX fun w b6 hst => AI rfl <| CN (SO (v := gHL _ _ _ _) hst zbX rfl rfl .u0 fun w hst => ?_)
  refine NSR <| MI rfl <| CN <| zab zhA rfl <| CN <| zae (v := .slice _ _ _) zc4 rfl rfl (hst.cellL Q0 rfl) <| CN <| zaK (rest := []) zc4 rfl <| CN <| zaC rfl rfl rfl zck <| CN <| zaC rfl rfl rfl zck <| AI rfl <| NL <| zan <| SR <| CN (zab zhA rfl ?_)
  refine CN <| zae (v := .slice _ _ _) zc4 rfl rfl (hst.cellL Q0 rfl) <| CN <| zaK (rest := []) zc4 rfl <| CN <| za1 rfl rfl <| AB rfl <| NL <| zaa rfl (fun g3 => ?_) (fun g3 => ?_)
  ·refine SR <| MI rfl <| CN (zau zb2 zhg (.c (v := .int .i64 _) rfl (h := (.c (v := .int .i64 _) rfl (h := .nil)))) ?_)
   refine AI rfl <| CN (SO (v := gII _ _) hst zb2 rfl rfl .u1 fun w hst => ?_)
   refine NL <| zat Tryd.func69 rfl (TP (v := .int .i64 _) rfl) (zaM (vs := lII _ _) rfl zb2 rfl rfl (zag (n := 2) (hst.objL Q1) _ rfl)) ?_
   rw [hJ.2.2, znJ (by omega) (by omega)]
   exact ⟨rfl, hst.pure⟩
  refine SR <| MI rfl <| CN <| zb1 rfl rfl <| AB rfl <| NL <| zak [(3, Pp _ _), (4, .int .i64 _), (5, .int .i64 _), (7, .slice _ _ _), (8, .int .i64 _), (9, .int .i64 _), (27, .bool _)] E7 fun f => zaa rfl (fun g4 => ?_) (fun g4 => ?_)
  ·refine SR <| MI rfl <| CN (zau zb2 zhg (.c (v := .int .i64 _) rfl (h := (.c (v := .int .i64 _) rfl (h := .nil)))) ?_)
   refine AI rfl <| CN (SO (v := gII _ _) hst zb2 rfl rfl .u1 fun w hst => ?_)
   refine NL <| zat Tryd.func69 rfl (TP (v := .int .i64 _) rfl) (zaM (vs := lII _ _) rfl zb2 rfl rfl (zag (n := 2) (hst.objL Q1) _ rfl)) ?_
   rw [hJ.2.2, znI (by omega) (by omega) (by omega)]
   exact ⟨rfl, hst.pure⟩
  refine zah <| zaj <| zaj <| RG <| CN <| zaC rfl rfl rfl zck <| MI rfl <| NL <| zax ?_
  replace hst := hst.pick (.cons .u1 .nil)
  exact ih1 ((i + 1, n + 1 + (l.getD i zdM).ws.length)) _ w (by (try dsimp only); omega) hst (⟨by (try dsimp only); omega, by (try dsimp only); omega, by (try dsimp only); rw [hJ.2.2, zpp (by omega) (by omega) (by omega)]⟩) E3 ⟨(Vi (by (try dsimp only); omega)), (Vi (by (try dsimp only); omega)), trivial⟩
 obtain rfl : i = l.length := by omega
 refine zaI (id := 0) rfl <| SR <| MI rfl <| CN (zau zb2 zhg .nil ?_)
 refine AI rfl <| CN (SO (v := gII _ _) hst zb2 rfl rfl .u0 fun w hst => ?_)
 refine NL <| zat Tryd.func69 rfl (TP (v := .int .i64 _) rfl) (zaM (vs := lII _ _) rfl zb2 rfl rfl (zag (n := 2) (hst.objL Q0) _ rfl)) ?_
 rw [hJ.2.2, zqR]
 exact ⟨rfl, hst.pure⟩
end Go.SK
namespace Go.SK
open Go Go.Proofs
theorem ent69 : zaB Tryd.prog 69 := ⟨Tryd.f69, _, Tryd.func69, Kr, rfl⟩
theorem zf2 : FldF Tryd.prog 27 0 0 := FldF.of (n := 0) Kr
theorem ty25 : TyF Tryd.prog 25 (.int .i64) 1 8 [.int .i64 0] := zaZ Kr Kr
end Go.SK
namespace Go.SK
open Go Go.Proofs
open Go.RowKit
theorem zn3 (l : List RawP) (ao : Option Addr) (cp : Nat) (w : World) (hA : (Res.rs ao l.length 2 (l.flatMap zmY)).holds w) (hl : l.length ≤ 35184372088832) (hla : ∀ r ∈ l, r.ws.length ≤ 35184372088832) : Ret Tryd.prog 52 #[.slice ao l.length cp] w (fun v w' => v = .tuple #[.int .i64 (zjY 5 0 (l.map zjC)).1, .int .i64 (zjY 5 0 (l.map zjC)).2.1] ∧ St w NoM [] [] w') := by
 refine zaq (args := [.slice ao l.length cp]) Tryd.func52 rfl rfl rfl ?_
 have hst : St w NoM [] [Res.rs ao l.length 2 (l.flatMap zmY)] w := St.init_D hA
 clear hA
 refine SR <| AI rfl <| AI rfl <| NSR <| ML rfl <| CN <| zao (v1 := .slice _ _ _) ent69 rfl rfl <| Ret.det (zi7 _ _ _ _ (hst.hD _ Q0) hl hla) hst fun w hst => CN <| zad (v := .tuple #[.int .i64 _, gII _ _]) rfl <| CN <| Ex (.int .i64 _) rfl rfl <| CN <| Ex (gII _ _) rfl rfl <| CN <| zaz hst zb2 fun w b5 hst => AI rfl <| CN (SO (v := gII _ _) hst zb2 rfl rfl .u0 fun w hst => ?_)
 refine NL <| SQ <| RunD.start [] hst (bs := [0, 0, 2, 1, 15]) (ds := [some 11, some 12, some 13, some 2, some 3]) ⟨Kr, Kr, Kr⟩ (fun tab1 => ?_)
 refine DO tab1 1 (fun f' L' w' hc=> zad (v := .int .i64 _) (hc.old rfl rfl rfl) hc.z) <| DO tab1 2 (fun f' L' w' hc=> zab zf2 (hc.old (v := Pp _ _) rfl rfl rfl) hc.z) <| DO tab1 3 (fun f' L' w' hc=> zae (v := .int .i64 _) ty25 rfl (hc.d 1 rfl rfl rfl rfl) (hc.st.cellL (List.mem_append_right _ Q0) rfl) hc.z) <| DO tab1 4 (fun _ _ _ hc => zaf (v := .int .i64 _) (hc.d 0 rfl rfl rfl rfl) hc.z) <| RunD.fin zaE tab1 hst rfl (fun f2 w R5 hs3 hd4 hr6 hst => ?_)
 obtain ⟨h11_, r0⟩ := hd4 0 11 rfl rfl
 obtain ⟨h12_, r1⟩ := hd4 1 12 rfl rfl
 obtain ⟨h13_, r2⟩ := hd4 2 13 rfl rfl
 obtain ⟨h2_, r3⟩ := hd4 3 2 rfl rfl
 simp only [rg4, Fc, Fn, Mc, Mn, r0, r1, r2, r3, Na, An, Ca] at hst
 refine zaL (sl := [(2, .int .i64 _), (13, .int .i64 _)]) ⟨h2_, h13_, trivial⟩ ?_
 clear hs3 hd4 hr6 tab1
 refine AI rfl <| NL <| zat Tryd.func52 rfl (TP (v := .int .i64 _) rfl) (TP (v := .int .i64 _) rfl) ?_
 exact ⟨rfl, hst.pure⟩
end Go.SK
namespace Go.SK
open Go Go.Proofs
theorem zh8 : zcz Tryd.prog 116 [(0, 1), (1, 1)] := ⟨za8 Tryd.prog 116, Kr, fun w => Kr⟩
end Go.SK
namespace Go.SK
open Go Go.Proofs
theorem zjU : FldF Tryd.prog 33 0 0 := FldF.of (n := 0) Kr
theorem zeZ : FldF Tryd.prog 33 1 1 := FldF.of (n := 0) Kr
theorem zbQ : FldF Tryd.prog 33 2 2 := FldF.of (n := 0) Kr
theorem zd7 : TyF Tryd.prog 31 (.slice 67) 1 24 [.slice none 0 0] := zaZ Kr Kr
theorem ze8 : TyF Tryd.prog 67 (.struct (za8 Tryd.prog 67)) 4 40 [.int .u16 0, .int .u32 0, .int .u32 0, .slice none 0 0] := zaZ Kr Kr
theorem ent24 : zaB Tryd.prog 24 := ⟨Tryd.f24, _, Tryd.func24, Kr, rfl⟩
end Go.SK
namespace Go.SK
open Go Go.Proofs
open Go.RowKit
theorem znW (p q : InstP) (w : World) (hA : (Res.rargs p).holds w) (hB : (Res.rargs q).holds w) (hl : p.args.length ≤ 9000000000000000000) : Ret Tryd.prog 24 #[.agg #[.int .u16 p.op, .int .u32 p.ty, .int .u32 p.res, .slice p.ao p.args.length p.cap], .agg #[.int .u16 q.op, .int .u32 q.ty, .int .u32 q.res, .slice q.ao q.args.length q.cap]] w (fun v w' => v = .bool (decide (p.L = q.L)) ∧ St w NoM [] [] w') := by
 refine zaq (args := [.agg #[.int .u16 p.op, .int .u32 p.ty, .int .u32 p.res, .slice p.ao p.args.length p.cap], .agg #[.int .u16 q.op, .int .u32 q.ty, .int .u32 q.res, .slice q.ao q.args.length q.cap]]) Tryd.func24 rfl rfl rfl ?_
 have hst : St w NoM [] [Res.rargs p, Res.rargs q] w := St.init_Ds (fun d hd => by cases hd with | head => exact hA | tail _ hd => cases hd with | head => exact hB | tail _ h => cases h)
 clear hA hB
 refine SR <| CN <| zbf (v := zdg _ _ _ _ _ _) hst rfl rfl fun w b2 hst => CN <| zbf (v := zdg _ _ _ _ _ _) hst rfl rfl fun w b3 hst => AB rfl <| NL <| SQ <| SR <| CN <| zab zeX rfl <| CN <| zae (v := .int .u16 _) zpS rfl rfl (hst.cellL Q1 rfl) <| CN <| zab zeX rfl <| CN <| zae (v := .int .u16 _) zpS rfl rfl (hst.cellL Q0 rfl) <| CN <| zbc rfl rfl <| MB rfl ?_
 refine zap (d := 11) rfl (fun g1 => ?_) (fun g1 => ?_)
 ·refine OM (t := 11) rfl (Vb (Dt g1)) rfl <| OM (t := 11) rfl (Vb (Dt g1)) rfl <| OM (t := 11) rfl (Vb (Dt g1)) rfl <| OM (t := 11) rfl (Vb (Dt g1)) rfl <| OM (t := 11) rfl (Vb (Dt g1)) rfl <| CN <| zar (u := .bool _) (Vb (Dt g1)) rfl <| MB rfl <| OM (t := 18) rfl (Vb (rfl : true = _)) rfl <| OM (t := 18) rfl (Vb (rfl : true = _)) rfl <| OM (t := 18) rfl (Vb (rfl : true = _)) rfl <| OM (t := 18) rfl (Vb (rfl : true = _)) rfl <| OM (t := 18) rfl (Vb (rfl : true = _)) rfl <| CN <| zar (u := .bool _) (Vb (rfl : true = _)) rfl <| MB rfl <| OM (t := 25) rfl (Vb (rfl : true = _)) rfl ?_
  refine OM (t := 25) rfl (Vb (rfl : true = _)) rfl <| OM (t := 25) rfl (Vb (rfl : true = _)) rfl <| OM (t := 25) rfl (Vb (rfl : true = _)) rfl <| OM (t := 25) rfl (Vb (rfl : true = _)) rfl <| OM (t := 25) rfl (Vb (rfl : true = _)) rfl <| OM (t := 25) rfl (Vb (rfl : true = _)) rfl <| CN <| zar (u := .bool _) (Vb (rfl : true = _)) rfl <| NL <| zas (Vb (rfl : true = _)) <| SR <| AB rfl <| NL <| zac Tryd.func24 rfl (TP (v := .bool _) rfl) ?_
  exact ⟨Vb (Df (fun h => by obtain ⟨h1, h2, h3, h4⟩ := InstP.L_eq.1 h; exact g1 h1)).symm, hst.pure⟩
 refine TK (t := 11) rfl (Vb (Df g1)) <| zab zhy rfl <| TK (t := 11) rfl (Vb (Df g1)) <| zae (v := .int .u32 _) zbT rfl rfl (hst.cellL Q1 rfl) <| TK (t := 11) rfl (Vb (Df g1)) <| zab zhy rfl <| TK (t := 11) rfl (Vb (Df g1)) <| zae (v := .int .u32 _) zbT rfl rfl (hst.cellL Q0 rfl) <| TK (t := 11) rfl (Vb (Df g1)) <| zbc rfl rfl <| CN <| zam (u := .bool _) (Vb (Df g1)) rfl <| MB rfl <| zap (d := 18) rfl (fun g2 => ?_) (fun g2 => ?_)
 ·refine OM (t := 18) rfl (Vb (Dt g2)) rfl <| OM (t := 18) rfl (Vb (Dt g2)) rfl <| OM (t := 18) rfl (Vb (Dt g2)) rfl <| OM (t := 18) rfl (Vb (Dt g2)) rfl <| OM (t := 18) rfl (Vb (Dt g2)) rfl <| CN <| zar (u := .bool _) (Vb (Dt g2)) rfl <| MB rfl <| OM (t := 25) rfl (Vb (rfl : true = _)) rfl <| OM (t := 25) rfl (Vb (rfl : true = _)) rfl <| OM (t := 25) rfl (Vb (rfl : true = _)) rfl <| OM (t := 25) rfl (Vb (rfl : true = _)) rfl <| OM (t := 25) rfl (Vb (rfl : true = _)) rfl <| OM (t := 25) rfl (Vb (rfl : true = _)) rfl <| OM (t := 25) rfl (Vb (rfl : true = _)) rfl <| CN (zar (u := .bool _) (Vb (rfl : true = _)) rfl ?_)
  refine NL <| zak [(2, Pp _ _), (3, Pp _ _), (33, .bool _)] E3 fun f => zas (Vb (rfl : true = _)) <| SR <| AB rfl <| NL <| zac Tryd.func24 rfl (TP (v := .bool _) rfl) ?_
  exact ⟨Vb (Df (fun h => by obtain ⟨h1, h2, h3, h4⟩ := InstP.L_eq.1 h; exact g2 h2)).symm, hst.pure⟩
 refine TK (t := 18) rfl (Vb (Df g2)) <| zab zhx rfl <| TK (t := 18) rfl (Vb (Df g2)) <| zae (v := .int .u32 _) zbT rfl rfl (hst.cellL Q1 rfl) <| TK (t := 18) rfl (Vb (Df g2)) <| zab zhx rfl <| TK (t := 18) rfl (Vb (Df g2)) <| zae (v := .int .u32 _) zbT rfl rfl (hst.cellL Q0 rfl) <| TK (t := 18) rfl (Vb (Df g2)) <| zbc rfl rfl <| CN <| zam (u := .bool _) (Vb (Df g2)) rfl <| MB rfl <| zap (d := 25) rfl (fun g3 => ?_) (fun g3 => ?_)
 ·refine OM (t := 25) rfl (Vb (Dt g3)) rfl <| OM (t := 25) rfl (Vb (Dt g3)) rfl <| OM (t := 25) rfl (Vb (Dt g3)) rfl <| OM (t := 25) rfl (Vb (Dt g3)) rfl <| OM (t := 25) rfl (Vb (Dt g3)) rfl <| OM (t := 25) rfl (Vb (Dt g3)) rfl <| OM (t := 25) rfl (Vb (Dt g3)) rfl <| CN <| zar (u := .bool _) (Vb (Dt g3)) rfl <| NL <| zak [(2, Pp _ _), (3, Pp _ _), (33, .bool _)] E3 fun f => zas (Vb (rfl : true = _)) <| SR <| AB rfl <| NL ?_
  refine zac Tryd.func24 rfl (TP (v := .bool _) rfl) ?_
  exact ⟨Vb (Df (fun h => by obtain ⟨h1, h2, h3, h4⟩ := InstP.L_eq.1 h; exact g3 h3)).symm, hst.pure⟩
 refine TK (t := 25) rfl (Vb (Df g3)) <| zab zbZ rfl <| TK (t := 25) rfl (Vb (Df g3)) <| zae (v := .slice _ _ _) zd6 rfl rfl (hst.cellL Q1 rfl) <| TK (t := 25) rfl (Vb (Df g3)) <| zaK (rest := []) zd6 rfl <| TK (t := 25) rfl (Vb (Df g3)) <| zab zbZ rfl <| TK (t := 25) rfl (Vb (Df g3)) <| zae (v := .slice _ _ _) zd6 rfl rfl (hst.cellL Q0 rfl) <| TK (t := 25) rfl (Vb (Df g3)) <| zaK (rest := []) zd6 rfl <| TK (t := 25) rfl (Vb (Df g3)) <| zbc rfl rfl <| CN <| zam (u := .bool _) (Vb (Df g3)) rfl <| NL <| zak [(2, Pp _ _), (3, Pp _ _), (33, .bool _)] E3 fun f => zaa rfl (fun g4 => ?_) (fun g4 => ?_)
 ·refine SR <| AB rfl <| NL <| zac Tryd.func24 rfl (TP (v := .bool _) rfl) ?_
  exact ⟨Vb (Df (fun h => by obtain ⟨h1, h2, h3, h4⟩ := InstP.L_eq.1 h; have := congrArg List.length h4; omega)).symm, hst.pure⟩
 refine zah <| SQ <| SR <| AI rfl <| NL <| zan <| zaY <| za4 [(2, Pp _ _), (3, Pp _ _)] E2 (fun (i : Nat) => [(5, .int .i64 (i : Int))]) (fun (i : Nat) => []) (fun (i : Nat) => i ≤ p.args.length ∧ ∀ j, j < i → p.args.getD j zeroA = q.args.getD j zeroA) (fun (i : Nat) => p.args.length - i) (0) hst ⟨Nat.zero_le _, fun j hj => absurd hj Om⟩ ⟨rfl, trivial⟩ ?_
 intro i f w hst hJ ih5
 refine SQ <| SR <| MI rfl <| CN <| zab zbZ rfl <| CN <| zae (v := .slice _ _ _) zd6 rfl rfl (hst.cellL Q1 rfl) <| CN <| zaK (rest := []) zd6 rfl <| CN <| zaR rfl rfl <| NL <| zaa rfl (fun g6 => ?_) (fun g6 => ?_)
 ·refine zah <| SQ <| zan <| SQ <| RunD.start [] hst (bs := [0, 1, 0, 7, 15, 0, 32, 0, 224, 480, 1023]) (ds := [some 41, some 42, some 43, some 44, some 45, some 46, some 47, some 48, some 49, some 50, some 51]) ⟨Kr, Kr, Kr⟩ (fun tab7 => ?_)
  refine DO tab7 1 (fun f' L' w' hc=> zab zbZ (hc.old (v := Pp _ _) rfl rfl rfl) hc.z) <| DO tab7 2 (fun f' L' w' hc=> zae (v := .slice _ _ _) zd6 rfl (hc.d 0 rfl rfl rfl rfl) (hc.st.cellL (List.mem_append_right _ Q1) rfl) hc.z) <| DO tab7 3 (fun f' L' w' hc=> zad (v := .int .i64 _) (hc.old rfl rfl rfl) hc.z) <| DO tab7 4 (fun f' L' w' hc=> zaV zd6 zbJ (hc.st.hD _ Q0) (hc.d 1 rfl rfl rfl rfl) (hc.d 2 rfl rfl rfl rfl) Om Om hc.z) <| DO tab7 5 (fun f' L' w' hc=> zaA (vs := znk _ _ _) zbJ rfl (hc.d 3 rfl rfl rfl rfl) rfl (Res.rs2_cells (m := 3) (hc.st.hD _ Q0) _ (zbr (g := zhM) (d := zeroA) zcu _ _ Om)) hc.z) <| DO tab7 6 (fun f' L' w' hc=> zab zbZ (hc.old (v := Pp _ _) rfl rfl rfl) hc.z) <| DO tab7 7 (fun f' L' w' hc=> zae (v := .slice _ _ _) zd6 rfl (hc.d 5 rfl rfl rfl rfl) (hc.st.cellL (List.mem_append_right _ Q0) rfl) hc.z) <| DO tab7 8 (fun f' L' w' hc=> zad (v := .int .i64 _) (hc.old rfl rfl rfl) hc.z) <| DO tab7 9 (fun f' L' w' hc=> zaV zd6 zbJ (hc.st.hD _ Q1) (hc.d 6 rfl rfl rfl rfl) (hc.d 7 rfl rfl rfl rfl) Om Om hc.z) <| DO tab7 10 (fun _ _ _ hc => zaA (vs := znk _ _ _) zbJ rfl (hc.d 8 rfl rfl rfl rfl) rfl (Res.rs2_cells (m := 3) (hc.st.hD _ Q1) _ (zbr (g := zhM) (d := zeroA) zcu _ _ Om)) hc.z) <| RunD.fin zaE tab7 hst rfl (fun f8 w R11 hs9 hd10 hr12 hst => ?_)
  obtain ⟨h41_, r0⟩ := hd10 0 41 rfl rfl
  obtain ⟨h42_, r1⟩ := hd10 1 42 rfl rfl
  obtain ⟨h43_, r2⟩ := hd10 2 43 rfl rfl
  obtain ⟨h44_, r3⟩ := hd10 3 44 rfl rfl
  obtain ⟨h45_, r4⟩ := hd10 4 45 rfl rfl
  obtain ⟨h46_, r5⟩ := hd10 5 46 rfl rfl
  obtain ⟨h47_, r6⟩ := hd10 6 47 rfl rfl
  obtain ⟨h48_, r7⟩ := hd10 7 48 rfl rfl
  obtain ⟨h49_, r8⟩ := hd10 8 49 rfl rfl
  obtain ⟨h50_, r9⟩ := hd10 9 50 rfl rfl
  simp only [rg10, Fc, Fn, Mc, Mn, r0, r1, r2, r3, r4, r5, r6, r7, r8, r9, Na, An, Ca] at hst
  refine zaL (sl := [(2, Pp _ _), (3, Pp _ _), (5, .int .i64 _), (45, zlW _ _ _), (50, zlW _ _ _)]) ⟨(hs9 2 rfl).trans rfl, (hs9 3 rfl).trans rfl, (hs9 5 rfl).trans rfl, h45_, h50_, trivial⟩ ?_
  clear hs9 hd10 hr12 tab7
  refine CN <| zpH (xs := (znk _ _ _)) (ys := (znk _ _ _)) rfl rfl Kr (zkm Tryd.underlying102 Kr (.cons De (PartOk.one ty5 rfl rfl) (PartOk.one ty5 rfl rfl) (zlb ty5) (.cons De (PartOk.one zbT rfl rfl) (PartOk.one zbT rfl rfl) (zlb zbT) (.cons De (PartOk.one ty9 rfl rfl) (PartOk.one ty9 rfl rfl) (EqOk.str ty9) .nil)))) <| NL <| zaN rfl (fun g13 => ?_) (fun g13 => ?_)
  ·refine SR <| AB rfl <| NL <| zac Tryd.func24 rfl (TP (v := .bool _) rfl) ?_
   exact ⟨Vb (Df (fun h => by obtain ⟨h1, h2, h3, h4⟩ := InstP.L_eq.1 h; have hg := g13; rw [zp6, h4] at hg; simp at hg)).symm, hst.pure⟩
  refine zah <| zaj <| RG <| MI rfl <| CN <| zaC rfl rfl rfl zck <| AI rfl <| NL <| zax ?_
  exact ih5 (i + 1) _ w (by omega) hst (⟨by omega, zkz hJ.2 (by have hg := g13; rw [zp6] at hg; simpa using hg)⟩) E2 ⟨(Vi (by omega)), trivial⟩
 refine zaI (id := 0) rfl <| SR <| AB rfl <| NL <| zac Tryd.func24 rfl (TP (v := .bool _) rfl) ?_
 exact ⟨Vb (Dt (InstP.L_eq.2 ⟨Nn g1, Nn g2, Nn g3, zbR zeroA Om (fun j hj => hJ.2 j Om)⟩)).symm, hst.pure⟩
theorem zkc (ga ba gb bb : Int) (l m : List InstP) (ao bo : Option Addr) (cp cq : Nat) (w : World) (hA : (Res.rmod ao l).holds w) (hB : (Res.rmod bo m).holds w) (hl : l.length ≤ 9000000000000000000) (hla : ∀ i ∈ l, i.args.length ≤ 9000000000000000000) : Ret Tryd.prog 10 #[.agg #[.int .u32 ga, .int .u32 ba, .slice ao l.length cp], .agg #[.int .u32 gb, .int .u32 bb, .slice bo m.length cq]] w (fun v w' => v = .bool (zqm ga ba l gb bb m) ∧ St w NoM [] [] w') := by
 refine zaq (args := [.agg #[.int .u32 ga, .int .u32 ba, .slice ao l.length cp], .agg #[.int .u32 gb, .int .u32 bb, .slice bo m.length cq]]) Tryd.func10 rfl rfl rfl ?_
 have hst : St w NoM [] [Res.rmod ao l, Res.rmod bo m] w := St.init_Ds (fun d hd => by cases hd with | head => exact hA | tail _ hd => cases hd with | head => exact hB | tail _ h => cases h)
 clear hA hB
 refine SR <| CN <| zbf (v := zgS _ _ _ _ _) hst rfl rfl fun w b2 hst => CN <| zbf (v := zgS _ _ _ _ _) hst rfl rfl fun w b3 hst => AB rfl <| NL <| SQ <| SR <| CN <| zab zjU rfl <| CN <| zae (v := .int .u32 _) zbT rfl rfl (hst.cellL Q1 rfl) <| CN <| zab zjU rfl <| CN <| zae (v := .int .u32 _) zbT rfl rfl (hst.cellL Q0 rfl) <| CN <| zbc rfl rfl <| MB rfl ?_
 refine zap (d := 11) rfl (fun g1 => ?_) (fun g1 => ?_)
 ·refine OM (t := 11) rfl (Vb (Dt g1)) rfl <| OM (t := 11) rfl (Vb (Dt g1)) rfl <| OM (t := 11) rfl (Vb (Dt g1)) rfl <| OM (t := 11) rfl (Vb (Dt g1)) rfl <| OM (t := 11) rfl (Vb (Dt g1)) rfl <| CN <| zar (u := .bool _) (Vb (Dt g1)) rfl <| MB rfl <| OM (t := 18) rfl (Vb (rfl : true = _)) rfl <| OM (t := 18) rfl (Vb (rfl : true = _)) rfl <| OM (t := 18) rfl (Vb (rfl : true = _)) rfl <| OM (t := 18) rfl (Vb (rfl : true = _)) rfl <| OM (t := 18) rfl (Vb (rfl : true = _)) rfl <| OM (t := 18) rfl (Vb (rfl : true = _)) rfl <| OM (t := 18) rfl (Vb (rfl : true = _)) rfl <| CN (zar (u := .bool _) (Vb (rfl : true = _)) rfl ?_)
  refine NL <| zas (Vb (rfl : true = _)) <| SR <| AB rfl <| NL <| zac Tryd.func10 rfl (TP (v := .bool _) rfl) ?_
  exact ⟨Vb (Df (fun h => g1 h.1)).symm, hst.pure⟩
 refine TK (t := 11) rfl (Vb (Df g1)) <| zab zeZ rfl <| TK (t := 11) rfl (Vb (Df g1)) <| zae (v := .int .u32 _) zbT rfl rfl (hst.cellL Q1 rfl) <| TK (t := 11) rfl (Vb (Df g1)) <| zab zeZ rfl <| TK (t := 11) rfl (Vb (Df g1)) <| zae (v := .int .u32 _) zbT rfl rfl (hst.cellL Q0 rfl) <| TK (t := 11) rfl (Vb (Df g1)) <| zbc rfl rfl <| CN <| zam (u := .bool _) (Vb (Df g1)) rfl <| MB rfl <| zap (d := 18) rfl (fun g2 => ?_) (fun g2 => ?_)
 ·refine OM (t := 18) rfl (Vb (Dt g2)) rfl <| OM (t := 18) rfl (Vb (Dt g2)) rfl <| OM (t := 18) rfl (Vb (Dt g2)) rfl <| OM (t := 18) rfl (Vb (Dt g2)) rfl <| OM (t := 18) rfl (Vb (Dt g2)) rfl <| OM (t := 18) rfl (Vb (Dt g2)) rfl <| OM (t := 18) rfl (Vb (Dt g2)) rfl <| CN <| zar (u := .bool _) (Vb (Dt g2)) rfl <| NL <| zas (Vb (rfl : true = _)) <| SR <| AB rfl <| NL <| zac Tryd.func10 rfl (TP (v := .bool _) rfl) ?_
  exact ⟨Vb (Df (fun h => g2 h.2.1)).symm, hst.pure⟩
 refine TK (t := 18) rfl (Vb (Df g2)) <| zab zbQ rfl <| TK (t := 18) rfl (Vb (Df g2)) <| zae (v := .slice _ _ _) zd7 rfl rfl (hst.cellL Q1 rfl) <| TK (t := 18) rfl (Vb (Df g2)) <| zaK (rest := []) zd7 rfl <| TK (t := 18) rfl (Vb (Df g2)) <| zab zbQ rfl <| TK (t := 18) rfl (Vb (Df g2)) <| zae (v := .slice _ _ _) zd7 rfl rfl (hst.cellL Q0 rfl) <| TK (t := 18) rfl (Vb (Df g2)) <| zaK (rest := []) zd7 rfl <| TK (t := 18) rfl (Vb (Df g2)) <| zbc rfl rfl <| CN <| zam (u := .bool _) (Vb (Df g2)) rfl <| NL <| zak [(2, Pp _ _), (3, Pp _ _), (26, .bool _)] E3 fun f => zaa rfl (fun g3 => ?_) (fun g3 => ?_)
 ·refine SR <| AB rfl <| NL <| zac Tryd.func10 rfl (TP (v := .bool _) rfl) ?_
  exact ⟨Vb (Df (fun h => by have := ziA h.2.2; omega)).symm, hst.pure⟩
 refine zah <| SQ <| SR <| AI rfl <| NL <| zan <| zaY <| za4 [(2, Pp _ _), (3, Pp _ _)] E2 (fun (i : Nat) => [(5, .int .i64 (i : Int))]) (fun (i : Nat) => []) (fun (i : Nat) => i ≤ l.length ∧ ∀ j, j < i → (l.getD j zeroI).L = (m.getD j zeroI).L) (fun (i : Nat) => l.length - i) (0) hst ⟨Nat.zero_le _, fun j hj => absurd hj Om⟩ ⟨rfl, trivial⟩ ?_
 intro i f w hst hJ ih4
 refine SQ <| SR <| MI rfl <| CN <| zab zbQ rfl <| CN <| zae (v := .slice _ _ _) zd7 rfl rfl (hst.cellL Q1 rfl) <| CN <| zaK (rest := []) zd7 rfl <| CN <| zaR rfl rfl <| NL <| zaa rfl (fun g5 => ?_) (fun g5 => ?_)
 ·refine zah <| SQ <| zan <| SQ <| RunD.start [] hst (bs := [0, 1, 0, 7, 15, 0, 32, 0, 224, 480, 1023, 2047]) (ds := [some 34, some 35, some 36, some 37, some 38, some 39, some 40, some 41, some 42, some 43, some 44, some 45]) ⟨Kr, Kr, Kr⟩ (fun tab6 => ?_)
  refine DO tab6 1 (fun f' L' w' hc=> zab zbQ (hc.old (v := Pp _ _) rfl rfl rfl) hc.z) <| DO tab6 2 (fun f' L' w' hc=> zae (v := .slice _ _ _) zd7 rfl (hc.d 0 rfl rfl rfl rfl) (hc.st.cellL (List.mem_append_right _ Q1) rfl) hc.z) <| DO tab6 3 (fun f' L' w' hc=> zad (v := .int .i64 _) (hc.old rfl rfl rfl) hc.z) <| DO tab6 4 (fun f' L' w' hc=> zaV zd7 ze8 (Res.rmod_insts (hc.st.hD _ Q0)) (hc.d 1 rfl rfl rfl rfl) (hc.d 2 rfl rfl rfl rfl) Om Om hc.z) <| DO tab6 5 (fun f' L' w' hc=> zaA (vs := zgu _ _ _ _ _ _) ze8 rfl (hc.d 3 rfl rfl rfl rfl) rfl (Res.rs2_cells (m := 4) (Res.rmod_insts (hc.st.hD _ Q0)) _ (zbr (g := zdF) (d := zeroI) zci _ _ Om)) hc.z) <| DO tab6 6 (fun f' L' w' hc=> zab zbQ (hc.old (v := Pp _ _) rfl rfl rfl) hc.z) <| DO tab6 7 (fun f' L' w' hc=> zae (v := .slice _ _ _) zd7 rfl (hc.d 5 rfl rfl rfl rfl) (hc.st.cellL (List.mem_append_right _ Q0) rfl) hc.z) <| DO tab6 8 (fun f' L' w' hc=> zad (v := .int .i64 _) (hc.old rfl rfl rfl) hc.z) <| DO tab6 9 (fun f' L' w' hc=> zaV zd7 ze8 (Res.rmod_insts (hc.st.hD _ Q1)) (hc.d 6 rfl rfl rfl rfl) (hc.d 7 rfl rfl rfl rfl) Om Om hc.z) <| DO tab6 10 (fun _ _ _ hc => zaA (vs := zgu _ _ _ _ _ _) ze8 rfl (hc.d 8 rfl rfl rfl rfl) rfl (Res.rs2_cells (m := 4) (Res.rmod_insts (hc.st.hD _ Q1)) _ (zbr (g := zdF) (d := zeroI) zci _ _ Om)) hc.z) <| RunD.fin zaE tab6 hst rfl (fun f7 w R10 hs8 hd9 hr11 hst => ?_)
  obtain ⟨h34_, r0⟩ := hd9 0 34 rfl rfl
  obtain ⟨h35_, r1⟩ := hd9 1 35 rfl rfl
  obtain ⟨h36_, r2⟩ := hd9 2 36 rfl rfl
  obtain ⟨h37_, r3⟩ := hd9 3 37 rfl rfl
  obtain ⟨h38_, r4⟩ := hd9 4 38 rfl rfl
  obtain ⟨h39_, r5⟩ := hd9 5 39 rfl rfl
  obtain ⟨h40_, r6⟩ := hd9 6 40 rfl rfl
  obtain ⟨h41_, r7⟩ := hd9 7 41 rfl rfl
  obtain ⟨h42_, r8⟩ := hd9 8 42 rfl rfl
  obtain ⟨h43_, r9⟩ := hd9 9 43 rfl rfl
  simp only [rg10, Fc, Fn, Mc, Mn, r0, r1, r2, r3, r4, r5, r6, r7, r8, r9, Na, An, Ca] at hst
  refine zaL (sl := [(2, Pp _ _), (3, Pp _ _), (5, .int .i64 _), (38, zdg _ _ _ _ _ _), (43, zdg _ _ _ _ _ _)]) ⟨(hs8 2 rfl).trans rfl, (hs8 3 rfl).trans rfl, (hs8 5 rfl).trans rfl, h38_, h43_, trivial⟩ ?_
  clear hs8 hd9 hr11 tab6
  refine CN <| zaF (v1 := zdg _ _ _ _ _ _) (v2 := zdg _ _ _ _ _ _) ent24 rfl rfl rfl <| Ret.det (znW _ _ _ (Res.rmod_argsI (hst.hD _ Q0) Om) (Res.rmod_argsI (hst.hD _ Q1) Om) (hla _ (zbG Om))) hst fun w hst => CN <| zbI rfl <| NL <| zaN rfl (fun g12 => ?_) (fun g12 => ?_)
  ·refine SR <| AB rfl <| NL <| zac Tryd.func10 rfl (TP (v := .bool _) rfl) ?_
   exact ⟨Vb (Df (fun h => by have hg := g12; rw [Dt (zlR h.2.2 (by omega))] at hg; simp at hg)).symm, hst.pure⟩
  refine zah <| zaj <| RG <| MI rfl <| CN <| zaC rfl rfl rfl zck <| AI rfl <| NL <| zax ?_
  exact ih4 (i + 1) _ w (by omega) hst (⟨by omega, zkz hJ.2 (by simpa using g12)⟩) E2 ⟨(Vi (by omega)), trivial⟩
 refine zaI (id := 0) rfl <| SR <| AB rfl <| NL <| zac Tryd.func10 rfl (TP (v := .bool _) rfl) ?_
 exact ⟨Vb (Dt (⟨Nn g1, Nn g2, znm Om (fun j hj => hJ.2 j Om)⟩)).symm, hst.pure⟩
end Go.SK
namespace Go.SK
open Go Go.Proofs
theorem znt : FldF Tryd.prog 98 0 0 := FldF.of (n := 0) Kr
theorem ent95 : zaB Tryd.prog 95 := ⟨Tryd.f95, _, Tryd.func95, Kr, rfl⟩
end Go.SK
namespace Go.SK
open Go Go.Proofs
open Go.RowKit
theorem zn6 (n bound : Int) (w : World) : Ret Tryd.prog 91 #[.int .u32 n, .int .u32 bound] w (fun v w' => v = .int .i64 (idE n bound) ∧ St w NoM [] [] w') := by
 refine zaq (args := [.int .u32 n, .int .u32 bound]) Tryd.func91 rfl rfl rfl ?_
 have hst := St.init w
 refine SR <| AI rfl <| NL <| SQ <| SR <| MU rfl <| CN <| zai rfl rfl <| MB rfl <| zap (d := 7) rfl (fun g1 => ?_) (fun g1 => ?_)
 ·refine OM (t := 7) rfl (Vb (Dt g1)) rfl <| OM (t := 7) rfl (Vb (Dt g1)) rfl <| OM (t := 7) rfl (Vb (Dt g1)) rfl <| CN <| zar (u := .bool _) (Vb (Dt g1)) rfl <| NL <| zas (Vb (rfl : true = _)) <| SR <| AI rfl <| NL <| zac Tryd.func91 rfl (TP (v := .int .i64 _) rfl) ?_
  exact ⟨Vi (by unfold idE; rw [if_pos (by omega)]), hst.pure⟩
 refine TK (t := 7) rfl (Vb (Df g1)) <| zad (v := .int .u32 _) rfl <| TK (t := 7) rfl (Vb (Df g1)) <| zad (v := .int .u32 _) rfl <| TK (t := 7) rfl (Vb (Df g1)) <| za1 rfl rfl <| CN <| zam (u := .bool _) (Vb (Df g1)) rfl <| NL <| zaa rfl (fun g2 => ?_) (fun g2 => ?_)
 ·refine SR <| AI rfl <| NL <| zac Tryd.func91 rfl (TP (v := .int .i64 _) rfl) ?_
  exact ⟨Vi (by unfold idE; rw [if_pos (by omega)]), hst.pure⟩
 refine zah <| SR <| AI rfl <| NL <| zac Tryd.func91 rfl (TP (v := .int .i64 _) rfl) ?_
 exact ⟨Vi (by unfold idE; rw [if_neg (by omega)]), hst.pure⟩
theorem zmi (c n : Int) (h0 : 0 ≤ c) (h1 : c ≤ 255) (w : World) : Ret Tryd.prog 94 #[.int .u8 c, .int .u32 n] w (fun v w' => v = .int .i64 (zdS c n) ∧ St w NoM [] [] w') := by
 refine zaq (args := [.int .u8 c, .int .u32 n]) Tryd.func94 rfl rfl rfl ?_
 have hst := St.init w
 obtain ⟨o, ho⟩ : ∃ o, namesL.find? (enN c n) = o := ⟨_, rfl⟩
 refine SR <| AI rfl <| NL <| SQ <| SR <| MC rfl <| MU rfl <| CN <| zaF (v1 := .int .u8 _) (v2 := .int .u32 _) ent60 rfl rfl rfl <| Ret.det (zg5 ho h0 h1 _) hst fun w hst => CN <| zad (v := .tuple #[str _, .bool _]) rfl <| CN <| Ex (str _) rfl rfl <| CN <| Ex (.bool _) rfl rfl <| AS rfl <| AB rfl ?_
 refine NSR <| MB rfl <| CN <| zbI rfl <| NL <| zaN rfl (fun g1 => ?_) (fun g1 => ?_)
 ·refine SR <| AI rfl <| NL <| zac Tryd.func94 rfl (TP (v := .int .i64 _) rfl) ?_
  exact ⟨Vi (by unfold zdS; rw [ho, if_neg (by simpa using g1)]), hst.pure⟩
 refine zah <| SR <| AI rfl <| NL <| zac Tryd.func94 rfl (TP (v := .int .i64 _) rfl) ?_
 exact ⟨Vi (by unfold zdS; rw [ho, if_pos (by simpa using g1)]), hst.pure⟩
theorem zmb {op : Int} {ks : List Int} {fa : Int} {fb : Bool} {n : Nat} (hfit : zdj op ks = (fa, fb)) (hn : n = ks.length) (h0 : 0 ≤ op) (ao : Option Addr) (cp : Nat) (w : World) (hA : (Res.rs ao n 1 (ks.flatMap u8C)).holds w) (hlen : n ≤ 9000000000000000) : Ret Tryd.prog 95 #[.int .u16 op, .slice ao n cp] w (fun v w' => v = .tuple #[.int .i64 fa, .bool fb] ∧ St w NoM [] [] w') := by
 subst hn
 exact (zn1 op h0 ks ao cp w hA (by omega)).mono fun v w' h => ⟨h.1.trans (by rw [hfit]), h.2⟩
theorem zmg (fm : FormL) (hf : FOk fm) (l : List ArgP) (ao : Option Addr) (cp : Nat) (w : World) (hA : (Res.rs ao l.length 3 (l.flatMap zhM)).holds w) (hl : l.length ≤ 9000000000000) : Ret Tryd.prog 72 #[.agg #[.int .u16 fm.op, str fm.name, .bool fm.ty, .bool fm.res, str fm.fixed, str fm.rest, .int .i64 fm.most, .int .u8 fm.part], .slice ao l.length cp] w (fun v w' => v = .int .i64 (zda fm.op l) ∧ St w NoM [] [] w') := by
 refine zaq (args := [.agg #[.int .u16 fm.op, str fm.name, .bool fm.ty, .bool fm.res, str fm.fixed, str fm.rest, .int .i64 fm.most, .int .u8 fm.part], .slice ao l.length cp]) Tryd.func72 rfl rfl rfl ?_
 have hst : St w NoM [] [Res.rs ao l.length 3 (l.flatMap zhM)] w := St.init_D hA
 clear hA
 obtain ⟨fa, fb, hfit⟩ : ∃ fa fb, zdj fm.op (l.map ArgP.kind) = (fa, fb) := ⟨_, _, rfl⟩
 refine SR <| CN <| zbf (v := zaJ _ _ _ _ _ _ _ _) hst rfl rfl fun w b2 hst => AI rfl <| NSR <| AL rfl <| NL <| SQ <| SR <| ML rfl <| CN <| zaK (rest := []) zd6 rfl <| MI rfl ?_
 refine NL <| zan <| zaY ?_
 replace hst := hst.pushNil 5 1
 refine za4 [(2, Pp _ _), (10, .slice _ _ _), (11, .int .i64 _)] E3 (fun (q : Nat × Option Addr × Nat) => [(5, .slice q.2.1 q.1 q.2.2), (12, .int .i64 (q.1 : Int))]) (fun (q : Nat × Option Addr × Nat) => [Res.sl q.2.1 q.1 q.2.2 5 1 (((l.map ArgP.kind).take q.1).flatMap u8C)]) (fun (q : Nat × Option Addr × Nat) => q.1 ≤ l.length) (fun (q : Nat × Option Addr × Nat) => l.length - q.1) ((0, none, 0)) hst (Nat.zero_le _) E2 ?_
 intro ⟨i, aq, cq⟩ f w hst hJ ih1
 replace hst : St _ _ ([Res.sl aq i cq 5 1 (((l.map ArgP.kind).take i).flatMap u8C)] ++ [_]) _ _ := hst
 replace hJ : i ≤ l.length := hJ
 refine zbp (sl := [(5, .slice aq i cq), (12, .int .i64 (i : Int))]) E2 <| SR <| CN <| zaR rfl rfl <| NL <| SQ <| zaa rfl (fun g2 => ?_) (fun g2 => ?_)
 ·have hidx : l.getD ((i : Int)).toNat zeroA = l.getD i zeroA := rfl
  refine zah <| SQ <| zan <| SR <| CN <| zaV zd6 zbJ (hst.hD _ Q0) rfl rfl Om Om <| CN <| zaA (vs := znk _ _ _) zbJ rfl rfl rfl (Res.rs2_cells (m := 3) (hst.hD _ Q0) _ (zbr (g := zhM) (d := zeroA) zcu _ _ Om)) <| CN <| zaz hst zbJ fun w b7 hst => CN (SO (v := zlW _ _ _) hst zbJ rfl rfl .u0 fun w hst => ?_)
  refine NR <| ML rfl <| CN <| zab zeq rfl <| CN <| zae (v := .int .u8 _) ty5 rfl rfl (hst.cellL Q0 rfl) <| CN (zaG (z0 := [.int .u8 0]) hst zcU ty5 rfl rfl Kr (.c (v := .int .u8 _) rfl (h := .nil)) fun w b19 hst => ?_)
  refine CN (zaW (news := [.int .u8 _]) hst zcU ty5 rfl rfl .u2 rfl rfl rfl (zag (n := 1) (hst.objL Q0) _ rfl) rfl rfl Om fun w ao3 cp4 hst => ?_)
  replace hst := hst.drop .u1
  refine AL rfl <| NL <| zaj <| RG <| CN <| zaC rfl rfl rfl zck <| MI rfl <| NL <| zax ?_
  have e1 : ((l.map ArgP.kind).take i).flatMap u8C ++ [.int .u8 (l.getD i zeroA).kind] = ((l.map ArgP.kind).take (i + 1)).flatMap u8C := by rw [zbL (l := l.map ArgP.kind) (d := zeroA.kind) (by rw [List.length_map]; omega), zcJ _ _ (by omega), List.flatMap_append]; rfl
  replace hst := hst.pick (.cons .u0 (.cons .u1 .nil))
  exact ih1 ((i + 1, ao3, cp4)) _ w (by (try dsimp only); omega) (by (try dsimp only); rw [← e1]; exact hst) (by (try dsimp only); omega) E3 ⟨rfl, (Vi (by (try dsimp only); omega)), trivial⟩
 obtain rfl : i = l.length := by omega
 have hlk : l.length = (l.map ArgP.kind).length := by rw [List.length_map]
 rw [List.take_of_length_le (by omega)] at hst
 refine zaI (id := 0) rfl <| SQ <| SR <| CN <| zab znt rfl <| CN <| zae (v := .int .u16 _) zpS rfl rfl (hst.cellL Q1 rfl) <| ML rfl <| CN <| zaF (v1 := .int .u16 _) (v2 := .slice _ _ _) ent95 rfl rfl rfl <| Ret.det (zmb hfit hlk hf.op.1 _ _ _ (Res.rs_of_sl (hst.hL _ Q0)) Om) hst fun w hst => CN <| zad (v := .tuple #[.int .i64 _, .bool _]) rfl <| CN <| Ex (.int .i64 _) rfl rfl <| CN <| Ex (.bool _) rfl rfl <| AI rfl <| AB rfl <| NL <| SQ ?_
 refine RG <| MB rfl <| CN <| zbI rfl <| NL <| zaN rfl (fun g5 => ?_) (fun g5 => ?_)
 ·refine SR <| AI rfl <| NL <| zac Tryd.func72 rfl (TP (v := .int .i64 _) rfl) ?_
  exact ⟨Vi (by unfold zda; rw [hfit, if_neg (by simpa using g5)]), hst.pure⟩
 refine zah <| SR <| AI rfl <| NL <| zac Tryd.func72 rfl (TP (v := .int .i64 _) rfl) ?_
 exact ⟨Vi (by unfold zda; rw [hfit, if_pos (by simpa using g5)]), hst.pure⟩
end Go.SK
namespace Go.SK
open Go Go.Proofs
open Go.RowKit
theorem zi5 {op c : Int} {fm : FormL} {i : Int} (h0 : 0 ≤ op) (hfm : zaO op = fm) (hc : zav fm i = c) (h1 : i ≤ 9223372036854775807) (w : World) : Ret Tryd.prog 61 #[.int .u16 op, .int .i64 i] w (fun v w' => v = .int .u8 c ∧ St w NoM [] [] w') := by
 subst hfm; subst hc; exact zgh op h0 i h1 w
theorem zma {c kd : Int} (hk : zbd c = kd) (w : World) : Ret Tryd.prog 92 #[.int .u8 c] w (fun v w' => v = .int .u8 kd ∧ St w NoM [] [] w') := by
 subst hk; exact zi6 c w
end Go.SK
namespace Go.SK
open Go Go.Proofs
theorem ent89 : zaB Tryd.prog 89 := ⟨Tryd.f89, _, Tryd.func89, Kr, rfl⟩
end Go.SK
namespace Go.SK
open Go Go.Proofs
open Go.RowKit
theorem znY (s : List UInt8) (w : World) : Ret Tryd.prog 89 #[str s, .int .u8 0] w (fun v w' => v = .int .i64 (zq7 s) ∧ St w NoM [] [] w') := by
 refine zaq (args := [str s, .int .u8 0]) Tryd.func89 rfl rfl rfl ?_
 have hst := St.init w
 refine SR <| AI rfl <| NSR <| MS rfl <| MC rfl <| CN <| zpK (v1 := str s) (v2 := .int .u8 0) Tryd.func114 Kr Kr Kr Kr rfl rfl rfl (run_indexByte_string ⟨s.toArray⟩ 0 _) <| AI rfl <| NL <| zac Tryd.func89 rfl (TP (v := .int .i64 _) rfl) ?_
 exact ⟨Vi (zhD s), hst.pure⟩
theorem zi4 (s : List UInt8) (w : World) : Ret Tryd.prog 68 #[str s, .int .u8 0] w (fun v w' => v = .int .i64 (zq7 s) ∧ St w NoM [] [] w') := by
 refine zaq (args := [str s, .int .u8 0]) Tryd.func68 rfl rfl rfl ?_
 have hst := St.init w
 refine SR <| AI rfl <| NSR <| MS rfl <| MC rfl <| CN <| zaF (v1 := str _) (v2 := .int .u8 _) ent89 rfl rfl rfl <| Ret.det (znY _ _) hst fun w hst => AI rfl <| NL <| zac Tryd.func68 rfl (TP (v := .int .i64 _) rfl) ?_
 exact ⟨rfl, hst.pure⟩
end Go.SK
namespace Go.SK
open Go Go.Proofs
theorem zep : FldF Tryd.prog 141 2 9 := FldF.of (n := 0) Kr
theorem zcX : FldF Tryd.prog 141 3 10 := FldF.of (n := 0) Kr
theorem ent90 : zaB Tryd.prog 90 := ⟨Tryd.f90, _, Tryd.func90, Kr, rfl⟩
theorem zkP : FldF Tryd.prog 141 1 8 := FldF.of (n := 0) Kr
theorem ent91 : zaB Tryd.prog 91 := ⟨Tryd.f91, _, Tryd.func91, Kr, rfl⟩
theorem ent115 : zaB Tryd.prog 115 := ⟨Tryd.f115, _, Tryd.func115, Kr, rfl⟩
end Go.SK
namespace Go.SK
open Go Go.Proofs
open Go.RowKit
theorem zk5 (bq : Nat) (fm : FormL) (bound : Int) (ao : Option Addr) (cp : Nat) (ws : List Int) (room : Int) (n : Int) (w : World) (hR : (WrC 141 22 bq fm bound ao cp ws room).holds w) (hl : ws.length ≤ 1000000000000) (hr0 : 0 ≤ room) (hr1 : room ≤ 1000000000000) : Ret Tryd.prog 90 #[.pointer (some ⟨bq, 0, none⟩), .int .u32 n] w (fun v w' => ∃ ao' cp', St w (WrC 141 22 bq fm bound ao cp ws room).foot [WrC 141 22 bq fm bound ao' cp' (ws ++ [n]) (room + 1)] [] w') := by
 refine zaq (args := [.pointer (some ⟨bq, 0, none⟩), .int .u32 n]) Tryd.func90 rfl rfl rfl ?_
 have hst : St w (WrC 141 22 bq fm bound ao cp ws room).foot [WrC 141 22 bq fm bound ao cp ws room] [] w := St.enter1 hR (fun d hd => by cases hd) (fun d hd => by cases hd)
 replace hst : St _ _ [_, _] _ _ := hst.unpack
 refine SR <| MP rfl <| MP rfl <| CN <| zay rfl <| CN <| zab zep rfl <| CN <| zae (v := .slice _ _ _) zc4 rfl rfl (hst.cellL Q0 rfl) <| MU rfl <| CN (zaG (z0 := [.int .u32 0]) hst zc4 zbT rfl rfl Kr (.c (v := .int .u32 _) rfl (h := .nil)) fun w b10 hst => ?_)
 refine CN (zaW (news := [.int .u32 _]) hst zc4 zbT rfl rfl .u2 rfl rfl rfl (zag (n := 1) (hst.objL Q0) _ rfl) rfl rfl Om fun w ao1 cp2 hst => ?_)
 replace hst := hst.drop .u1
 refine CN <| zay rfl <| CN <| zab zep rfl <| CN (SO (v := .slice _ _ _) hst zc4 rfl rfl .u1 fun w hst => ?_)
 refine NR <| MP rfl <| CN <| zay rfl <| CN <| zab zcX rfl <| CN <| zae (v := .int .i64 _) ty3 rfl rfl (hst.cellL Q1 rfl) <| CN <| zaC rfl rfl rfl zck <| CN <| zay rfl <| CN <| zab zcX rfl <| CN (SO (v := .int .i64 _) hst ty3 rfl rfl .u1 fun w hst => ?_)
 refine NL <| zdv Tryd.func90 rfl  ?_
 replace hst := hst.pick (.cons .u1 (.cons .u0 .nil))
 have e1 : ws.length + 1 = (ws ++ [n]).length := by simp
 have e2 : ws.flatMap zgl ++ [.int .u32 n] = (ws ++ [n]).flatMap zgl := by simp
 rw [e1, e2] at hst
 exact ⟨_, _, (St.pack (L1 := [_, _]) (L2 := []) hst)⟩
theorem zg6 (bq : Nat) (fm : FormL) (bound : Int) (ao : Option Addr) (cp : Nat) (ws : List Int) (room : Int) (must : Bool) (n lacks : Int) (hk : lacks ≠ 0) (w : World) (hR : (WrC 141 22 bq fm bound ao cp ws room).holds w) (hl : ws.length ≤ 1000000000000) (hr0 : 0 ≤ room) (hr1 : room ≤ 1000000000000) : Ret Tryd.prog 70 #[.pointer (some ⟨bq, 0, none⟩), .bool must, .int .u32 n, .int .i64 lacks] w (fun v w' => ∃ ao' cp' ws' room', v = .int .i64 (idH must n bound lacks) ∧ ((idH must n bound lacks) = 0 → ws' = ws ++ zlE must n ∧ room' = room + b2n must) ∧ ws'.length ≤ ws.length + 1 ∧ 0 ≤ room' ∧ room' ≤ room + 1 ∧ St w (WrC 141 22 bq fm bound ao cp ws room).foot [WrC 141 22 bq fm bound ao' cp' ws' room'] [] w') := by
 refine zaq (args := [.pointer (some ⟨bq, 0, none⟩), .bool must, .int .u32 n, .int .i64 lacks]) Tryd.func70 rfl rfl rfl ?_
 have hst : St w (WrC 141 22 bq fm bound ao cp ws room).foot [WrC 141 22 bq fm bound ao cp ws room] [] w := St.enter1 hR (fun d hd => by cases hd) (fun d hd => by cases hd)
 replace hst : St _ _ [_, _] _ _ := hst.unpack
 refine SR <| AI rfl <| NL <| SQ <| zan <| SR <| MB rfl <| MU rfl <| CN <| zbc rfl rfl <| CN <| zpG ty4 rfl rfl <| AB rfl <| NL <| zaN rfl (fun g1 => ?_) (fun g1 => ?_)
 ·refine SR <| MI rfl <| AI rfl <| NL <| zac Tryd.func70 rfl (TP (v := .int .i64 _) rfl) ?_
  replace hst := hst.pick (.cons .u0 (.cons .u0 .nil))
  have hE := znn (must := must) (n := n) (bound := bound) (e := lacks) (bne_iff_ne.1 g1)
  rw [hE]
  exact ⟨ao, cp, ws, room, rfl, fun h => absurd h hk, by omega, hr0, by omega, (St.pack (L1 := [_, _]) (L2 := []) hst)⟩
 refine SR <| MB rfl <| CN <| zbI rfl <| AB rfl <| NL <| zaN rfl (fun g2 => ?_) (fun g2 => ?_)
 ·refine SR <| AI rfl <| NL <| zac Tryd.func70 rfl (TP (v := .int .i64 _) rfl) ?_
  replace hst := hst.pick (.cons .u0 (.cons .u0 .nil))
  have hm : must = false := by simpa using g2
  have hE := idH_no (must := must) (n := n) (bound := bound) (e := lacks) (fun hx => by have hy := bne_iff_ne.2 hx; rw [g1] at hy; cases hy) hm
  rw [hE]
  exact ⟨ao, cp, ws, room, rfl, fun _ => ⟨by rw [zlE, hm]; simp, by rw [b2n, hm]; simp⟩, by omega, hr0, by omega, (St.pack (L1 := [_, _]) (L2 := []) hst)⟩
 refine zah <| zaj <| SR <| MP rfl <| MU rfl ?_
 replace hst := hst.pick (.cons .u0 (.cons .u0 .nil))
 replace hst : St _ _ (WrC 141 22 bq fm bound ao cp ws room :: _) _ _ := hst.pack (L1 := [_, _])
 refine CN (zaF (v1 := Pp _ _) (v2 := .int .u32 _) ent90 rfl rfl rfl ((zk5 bq fm bound ao cp ws room _ _ (hst.hL _ Q0) hl hr0 hr1).mono fun v w hp => ?_))
 obtain ⟨ao2, cp2, hp⟩ := hp
 replace hst : St _ _ (WrC 141 22 bq fm bound ao2 cp2 (ws ++ [n]) (room + 1) :: _) _ _ := hst.call1 hp
 replace hst : St _ _ (_ :: _ :: _) _ _ := hst.unpack
 clear hp
 refine NSR <| MU rfl <| MP rfl <| CN <| zay rfl <| CN <| zab zkP rfl <| CN <| zae (v := .int .u32 _) zbT rfl rfl (hst.cellL Q0 rfl) <| CN <| zaF (v1 := .int .u32 _) (v2 := .int .u32 _) ent91 rfl rfl rfl <| Ret.det (zn6 _ _ _) hst fun w hst => AI rfl <| NL <| zac Tryd.func70 rfl (TP (v := .int .i64 _) rfl) ?_
 replace hst := hst.pick (.cons .u0 (.cons .u0 .nil))
 have hm : must = true := by simpa using g2
 have hE := idH_id (must := must) (n := n) (bound := bound) (e := lacks) (fun hx => by have hy := bne_iff_ne.2 hx; rw [g1] at hy; cases hy) hm
 rw [hE]
 exact ⟨ao2, cp2, ws ++ [n], room + 1, rfl, fun _ => ⟨by rw [zlE, hm]; rfl, by rw [b2n, hm]; rfl⟩, by simp, by omega, by omega, (St.pack (L1 := [_, _]) (L2 := []) hst)⟩
theorem zmf (bq : Nat) (fm : FormL) (bound : Int) (ao : Option Addr) (cp : Nat) (ws : List Int) (room : Int) (s : List UInt8) (hs : s.length ≤ 100000000000) (w : World) (hR : (WrC 141 22 bq fm bound ao cp ws room).holds w) (hl : ws.length ≤ 1000000000000) (hr0 : 0 ≤ room) (hr1 : room ≤ 1000000000000) : Ret Tryd.prog 93 #[.pointer (some ⟨bq, 0, none⟩), str s] w (fun v w' => ∃ ao' cp' ws' room', v = .int .i64 (zln s) ∧ ((zln s) = 0 → ws' = ws ++ zbu s ∧ room' = room + ((s.length / 4 + 1 : Nat) : Int)) ∧ ws'.length ≤ ws.length + (s.length / 4 + 1) ∧ 0 ≤ room' ∧ room' ≤ room + ((s.length / 4 + 1 : Nat) : Int) ∧ St w (WrC 141 22 bq fm bound ao cp ws room).foot [WrC 141 22 bq fm bound ao' cp' ws' room'] [] w') := by
 refine zaq (args := [.pointer (some ⟨bq, 0, none⟩), str s]) Tryd.func93 rfl rfl rfl ?_
 have hst : St w (WrC 141 22 bq fm bound ao cp ws room).foot [WrC 141 22 bq fm bound ao cp ws room] [] w := St.enter1 hR (fun d hd => by cases hd) (fun d hd => by cases hd)
 replace hst : St _ _ [_, _] _ _ := hst.unpack
 have hle := zna s
 refine SR <| AI rfl <| NL <| SQ <| SR <| MS rfl <| CN <| zaF (v1 := str _) (v2 := .int .u8 _) ent68 rfl rfl rfl <| Ret.det (zi4 s _) hst fun w hst => CN <| za1 rfl rfl <| NL <| zaa rfl (fun g1 => ?_) (fun g1 => ?_)
 ·refine SR <| AI rfl <| NL <| zac Tryd.func93 rfl (TP (v := .int .i64 _) rfl) ?_
  replace hst := hst.pick (.cons .u0 (.cons .u0 .nil))
  have hE : zln s = 13 := if_pos (idxZ_neg.1 (by omega))
  rw [hE]
  exact ⟨ao, cp, ws, room, rfl, fun h => absurd h De, by omega, hr0, by omega, (St.pack (L1 := [_, _]) (L2 := []) hst)⟩
 refine zah <| SR <| MS rfl <| CN (zao (v1 := str _) ent115 rfl rfl ((zj5 s _ Om).mono fun v w hp => ?_))
 obtain ⟨aT, cT, rfl, hp⟩ := hp
 replace hst : St _ _ (_ :: _) _ _ := hst.call0 hp
 clear hp
 refine CN <| zad (v := .tuple #[.slice _ _ _, .int .i64 _]) rfl <| CN <| Ex (.slice _ _ _) rfl rfl <| CN <| Ex (.int .i64 _) rfl rfl <| AL rfl <| AI rfl <| NL <| SQ <| SR <| MI rfl <| CN <| zbc rfl rfl <| NL <| zaa rfl (fun g2 => ?_) (fun g2 => ?_)
 ·refine SQ <| RunD.start [] hst (bs := [0, 1, 3, 7, 0, 16, 63, 127, 255, 511]) (ds := [some 17, some 18, some 19, some 20, some 21, some 22, some 23, some 24, some 25, none]) ⟨Kr, Kr, Kr⟩ (fun tab3 => ?_)
  refine DO tab3 1 (fun f' L' w' hc=> zad (v := Pp _ _) (hc.old rfl rfl rfl) hc.z) <| DO tab3 2 (fun f' L' w' hc=> zay (hc.d 0 rfl rfl rfl rfl) hc.z) <| DO tab3 3 (fun f' L' w' hc=> zab zcX (hc.d 1 rfl rfl rfl rfl) hc.z) <| DO tab3 4 (fun f' L' w' hc=> zae (v := .int .i64 _) ty3 rfl (hc.d 2 rfl rfl rfl rfl) (hc.st.cellL (List.mem_append_right _ Q1) rfl) hc.z) <| DO tab3 5 (fun f' L' w' hc=> zad (v := str _) (hc.old rfl rfl rfl) hc.z) <| DO tab3 6 (fun _ _ _ hc => zao (v1 := str _) znF rfl (hc.d 4 rfl rfl rfl rfl) ((zgd s _ Om).mono fun v w hp => ⟨[], ⟨hp.1, rfl⟩, hc.st.keepc hp.2⟩)) <| RunD.fin zaE tab3 hst rfl (fun f4 w R7 hs5 hd6 hr8 hst => ?_)
  obtain ⟨h17_, r0⟩ := hd6 0 17 rfl rfl
  obtain ⟨h18_, r1⟩ := hd6 1 18 rfl rfl
  obtain ⟨h19_, r2⟩ := hd6 2 19 rfl rfl
  obtain ⟨h20_, r3⟩ := hd6 3 20 rfl rfl
  obtain ⟨h21_, r4⟩ := hd6 4 21 rfl rfl
  obtain ⟨h22_, r5⟩ := hd6 5 22 rfl rfl
  simp only [rg6, Fc, Fn, Mc, Mn, r0, r1, r2, r3, r4, r5, Na, An, Ca] at hst
  refine zaL (sl := [(17, Pp _ _), (20, .int .i64 _), (22, .int .i64 _)]) ⟨h17_, h20_, h22_, trivial⟩ ?_
  clear hs5 hd6 hr8 tab3
  refine CN <| zaC rfl rfl rfl zck <| CN <| zay rfl <| CN <| zab zcX rfl <| CN (SO (v := .int .i64 _) hst ty3 rfl rfl .u1 fun w hst => ?_)
  refine NL <| zak [] trivial fun f => SR <| AI rfl <| NL <| zac Tryd.func93 rfl (TP (v := .int .i64 _) rfl) ?_
  replace hst := hst.pick (.cons .u1 (.cons .u1 .nil))
  have hE : zln s = 0 := if_neg (fun h => by have := idxZ_neg.2 h; omega)
  rw [hE]
  have hT : zbu s = [] := zcW g2
  exact ⟨ao, cp, ws, room + ((s.length / 4 + 1 : Nat) : Int), rfl, fun _ => ⟨by rw [hT]; simp, rfl⟩, by omega, by omega, by omega, (St.pack (L1 := [_, _]) (L2 := []) hst)⟩
 refine zah <| SR <| MP rfl <| MP rfl <| CN <| zay rfl <| CN <| zab zep rfl <| CN <| zae (v := .slice _ _ _) zc4 rfl rfl (hst.cellL Q1 rfl) <| ML rfl <| CN <| zji hst zc4 zbT rfl rfl .u2 rfl rfl (Res.rs_of_sl (hst.hL _ Q0)) (zjV (fun _ => rfl) _) rfl Om fun w ao2 cp2 hst => CN <| zay rfl <| CN <| zab zep rfl <| CN (SO (v := .slice _ _ _) hst zc4 rfl rfl .u2 fun w hst => ?_)
 refine NL <| zak [(0, Pp _ _), (5, .slice _ _ _)] E2 fun f => SR <| MP rfl <| CN <| zay rfl <| CN <| zab zcX rfl <| CN <| zae (v := .int .i64 _) ty3 rfl rfl (hst.cellL Q2 rfl) <| ML rfl <| CN <| zaK (rest := []) zc4 rfl <| CN <| zaC rfl rfl rfl zck <| CN <| zay rfl <| CN <| zab zcX rfl <| CN (SO (v := .int .i64 _) hst ty3 rfl rfl .u2 fun w hst => ?_)
 refine NSR <| AI rfl <| NL <| zac Tryd.func93 rfl (TP (v := .int .i64 _) rfl) ?_
 replace hst := hst.pick (.cons .u2 (.cons .u0 .nil))
 have hE : zln s = 0 := if_neg (fun h => by have := idxZ_neg.2 h; omega)
 rw [hE]
 have hT := zeQ (Nn g2)
 have e1 : ws.length + (zbu s).length = (ws ++ zbu s).length := by simp
 have e2 : ws.flatMap zgl ++ (zbu s).flatMap zgl = (ws ++ zbu s).flatMap zgl := by simp
 rw [e1, e2] at hst
 exact ⟨ao2, cp2, ws ++ zbu s, room + ((zbu s).length : Int), rfl, fun _ => ⟨rfl, by rw [hT]⟩, by rw [List.length_append]; omega, by omega, by omega, (St.pack (L1 := [_, _]) (L2 := []) hst)⟩
end Go.SK
namespace Go.SK
open Go Go.Proofs
theorem zo9 : FldF Tryd.prog 141 0 0 := FldF.of (n := 7) Kr
theorem ent93 : zaB Tryd.prog 93 := ⟨Tryd.f93, _, Tryd.func93, Kr, rfl⟩
theorem ent94 : zaB Tryd.prog 94 := ⟨Tryd.f94, _, Tryd.func94, Kr, rfl⟩
end Go.SK
namespace Go.SK
open Go Go.Proofs
open Go.RowKit
theorem zn4 (bq : Nat) (fm : FormL) (bound : Int) (ao : Option Addr) (cp : Nat) (ws : List Int) (room : Int) (k : Nat) (hk : k ≤ 9000000000000000) (a : ArgP) (hs : a.s.length ≤ 100000000000) (c : Int) (hfm : zaO fm.op = fm) (hc : zav fm (k : Int) = c) (w : World) (hR : (WrC 141 22 bq fm bound ao cp ws room).holds w) (hl : ws.length ≤ 1000000000000) (hr0 : 0 ≤ room) (hr1 : room ≤ 1000000000000) : Ret Tryd.prog 71 #[.pointer (some ⟨bq, 0, none⟩), .int .i64 (k : Int), .agg #[.int .u8 a.kind, .int .u32 a.n, str a.s]] w (fun v w' => ∃ ao' cp' ws' room', v = .int .i64 (za2 c a bound) ∧ ((za2 c a bound) = 0 → ws' = ws ++ znM a ∧ room' = room + (zaD a : Int)) ∧ ws'.length ≤ ws.length + zaD a ∧ 0 ≤ room' ∧ room' ≤ room + (zaD a : Int) ∧ St w (WrC 141 22 bq fm bound ao cp ws room).foot [WrC 141 22 bq fm bound ao' cp' ws' room'] [] w') := by
 refine zaq (args := [.pointer (some ⟨bq, 0, none⟩), .int .i64 (k : Int), .agg #[.int .u8 a.kind, .int .u32 a.n, str a.s]]) Tryd.func71 rfl rfl rfl ?_
 have hst : St w (WrC 141 22 bq fm bound ao cp ws room).foot [WrC 141 22 bq fm bound ao cp ws room] [] w := St.enter1 hR (fun d hd => by cases hd) (fun d hd => by cases hd)
 replace hst : St _ _ [_, _] _ _ := hst.unpack
 have hf : FOk fm := hfm ▸ zef fm.op
 have hop := hf.op
 have hcb : 0 ≤ c ∧ c ≤ 255 := hc ▸ zcb fm _
 obtain ⟨kd, hkd⟩ : ∃ kd, zbd c = kd := ⟨_, rfl⟩
 refine SR <| CN <| zbf (v := zlW _ _ _) hst rfl rfl fun w b5 hst => AI rfl <| NSR <| MP rfl <| CN <| zay rfl <| CN <| zab zo9 rfl <| CN <| zab znt rfl <| CN <| zae (v := .int .u16 _) zpS rfl rfl (hst.cellL Q1 rfl) <| MI rfl <| CN <| zaF (v1 := .int .u16 _) (v2 := .int .i64 _) ent61 rfl rfl rfl <| Ret.det (zi5 hop.1 hfm hc Om _) hst fun w hst => AC rfl ?_
 refine NSR <| CN <| zab zeq rfl <| CN <| zae (v := .int .u8 _) ty5 rfl rfl (hst.cellL Q0 rfl) <| CN <| zai rfl rfl <| AB rfl <| NL <| SQ <| zan <| SQ <| RunD.start [] hst (bs := [0, 1, 3, 7, 15, 7, 39, 127, 255, 511, 1023, 2047, 4095, 8191, 16383, 32767, 65535, 131071, 262143, 524287, 1048575, 2097151, 4194303, 8388607, 16777215, 33554431, 67108863]) (ds := [some 20, some 21, some 22, some 23, some 24, some 25, some 26, some 27, some 28, some 29, some 30, some 31, some 32, some 33, some 34, some 35, some 36, some 37, some 38, some 39, some 40, some 41, some 42, some 43, some 44, some 45, some 19]) ⟨Kr, Kr, Kr⟩ (fun tab1 => ?_)
 refine DO tab1 1 (fun f' L' w' hc=> zad (v := .int .u8 _) (hc.old rfl rfl rfl) hc.z) <| DO tab1 2 (fun f' L' w' hc=> zai (hc.d 0 rfl rfl rfl rfl) rfl hc.z) <| DO tab1 3 (fun _ _ _ hc => zad (v := .bool _) (hc.d 1 rfl rfl rfl rfl) hc.z) <| zdV (j := 2) rfl (fun g2 => ?_) (fun g2 => ?_)
 ·refine zaU tab1 4 rfl rfl (fun f' L' w' hc=> (hc.d 2 rfl rfl rfl rfl).trans (Vb (Dt g2))) <| zaU tab1 5 rfl rfl (fun f' L' w' hc=> (hc.d 2 rfl rfl rfl rfl).trans (Vb (Dt g2))) <| zaU tab1 6 rfl rfl (fun f' L' w' hc=> (hc.d 2 rfl rfl rfl rfl).trans (Vb (Dt g2))) <| zaU tab1 7 rfl rfl (fun _ _ _ hc => (hc.d 2 rfl rfl rfl rfl).trans (Vb (Dt g2))) <| RunD.fin zaE tab1 hst rfl (fun f3 w R6 hs4 hd5 hr7 hst => ?_)
  obtain ⟨h20_, r0⟩ := hd5 0 20 rfl rfl
  obtain ⟨h21_, r1⟩ := hd5 1 21 rfl rfl
  obtain ⟨h22_, r2⟩ := hd5 2 22 rfl rfl
  obtain ⟨h23_, r3⟩ := hd5 3 23 rfl rfl
  obtain ⟨h24_, r4⟩ := hd5 4 24 rfl rfl
  obtain ⟨h25_, r5⟩ := hd5 5 25 rfl rfl
  obtain ⟨h26_, r6⟩ := hd5 6 26 rfl rfl
  simp only [rg7, Fc, Fn, Mc, Mn, r0, r1, r2, r3, r4, r5, r6, Na, An, Ca] at hst
  refine zaL (sl := [(0, Pp _ _), (5, Pp _ _), (7, .int .u8 _), (8, .bool _), (22, .bool _), (24, _), (26, _)]) ⟨(hs4 0 rfl).trans rfl, (hs4 5 rfl).trans rfl, (hs4 7 rfl).trans rfl, (hs4 8 rfl).trans rfl, h22_, h24_, h26_, trivial⟩ ?_
  clear hs4 hd5 hr7 tab1
  refine OM (t := 22) rfl (Vb (Dt g2)) rfl <| CN <| zar (u := .bool _) (Vb (Dt g2)) rfl <| MB rfl <| OM (t := 29) rfl (Vb (rfl : true = _)) rfl <| OM (t := 29) rfl (Vb (rfl : true = _)) rfl <| zaw (t := 31) rfl rfl <| zaw (t := 31) rfl rfl <| zaw (t := 31) rfl rfl <| OM (t := 29) rfl (Vb (rfl : true = _)) rfl <| CN <| zar (u := .bool _) (Vb (rfl : true = _)) rfl <| MB rfl <| OM (t := 37) rfl (Vb (rfl : true = _)) rfl <| OM (t := 37) rfl (Vb (rfl : true = _)) rfl <| OM (t := 37) rfl (Vb (rfl : true = _)) rfl <| zaw (t := 40) rfl rfl ?_
  refine zaw (t := 40) rfl rfl <| zaw (t := 40) rfl rfl <| OM (t := 37) rfl (Vb (rfl : true = _)) rfl <| CN <| zar (u := .bool _) (Vb (rfl : true = _)) rfl <| AB rfl <| NL <| zak [(0, Pp _ _), (5, Pp _ _), (7, .int .u8 _), (8, .bool _), (19, .bool _)] E5 fun f => zas (Vb (rfl : true = _)) <| SR <| AI rfl <| NL <| zac Tryd.func71 rfl (TP (v := .int .i64 _) rfl) ?_
  replace hst := hst.pick (.cons .u1 (.cons .u1 .nil))
  have hX : za2 c a bound = 42 := zcT (.inl Om)
  rw [hX]
  exact ⟨ao, cp, ws, room, rfl, fun h => absurd h De, by omega, hr0, by omega, (St.pack (L1 := [_, _]) (L2 := []) hst)⟩
 refine RunD.take (det _) tab1 4 rfl (fun f' L' w' hc=> (hc.d 2 rfl rfl rfl rfl).trans (Vb (Df g2))) (fun f' L' w' hc=> zab zeq (hc.old (v := Pp _ _) rfl rfl rfl) hc.z) <| RunD.take (det _) tab1 5 rfl (fun f' L' w' hc=> (hc.d 2 rfl rfl rfl rfl).trans (Vb (Df g2))) (fun f' L' w' hc=> zae (v := .int .u8 _) ty5 rfl (hc.d 3 rfl rfl rfl rfl) (hc.st.cellL (List.mem_append_right _ Q0) rfl) hc.z) <| RunD.take (det _) tab1 6 rfl (fun f' L' w' hc=> (hc.d 2 rfl rfl rfl rfl).trans (Vb (Df g2))) (fun f' L' w' hc=> zad (v := .int .u8 _) (hc.old rfl rfl rfl) hc.z) <| RunD.take (det _) tab1 7 rfl (fun f' L' w' hc=> (hc.d 2 rfl rfl rfl rfl).trans (Vb (Df g2))) (fun _ _ _ hc => zao (v1 := .int .u8 _) ent92 rfl (hc.d 5 rfl rfl rfl rfl) ((zma hkd _).mono fun v w hp => ⟨[], ⟨hp.1, rfl⟩, hc.st.keepc hp.2⟩)) <| RunD.fin zaE tab1 hst rfl (fun f8 w R11 hs9 hd10 hr12 hst => ?_)
 obtain ⟨h20_, r0⟩ := hd10 0 20 rfl rfl
 obtain ⟨h21_, r1⟩ := hd10 1 21 rfl rfl
 obtain ⟨h22_, r2⟩ := hd10 2 22 rfl rfl
 obtain ⟨h23_, r3⟩ := hd10 3 23 rfl rfl
 obtain ⟨h24_, r4⟩ := hd10 4 24 rfl rfl
 obtain ⟨h25_, r5⟩ := hd10 5 25 rfl rfl
 obtain ⟨h26_, r6⟩ := hd10 6 26 rfl rfl
 simp only [rg7, Fc, Fn, Mc, Mn, r0, r1, r2, r3, r4, r5, r6, Na, An, Ca] at hst
 refine zaL (sl := [(0, Pp _ _), (5, Pp _ _), (7, .int .u8 _), (8, .bool _), (22, .bool _), (24, .int .u8 _), (26, .int .u8 _)]) ⟨(hs9 0 rfl).trans rfl, (hs9 5 rfl).trans rfl, (hs9 7 rfl).trans rfl, (hs9 8 rfl).trans rfl, h22_, h24_, h26_, trivial⟩ ?_
 clear hs9 hd10 hr12 tab1
 refine TK (t := 22) rfl (Vb (Df g2)) <| zbc rfl rfl <| CN <| zam (u := .bool _) (Vb (Df g2)) rfl <| MB rfl <| zap (d := 29) rfl (fun g13 => ?_) (fun g13 => ?_)
 ·refine OM (t := 29) rfl (Vb (Dt g13)) rfl <| OM (t := 29) rfl (Vb (Dt g13)) rfl <| zaw (t := 31) rfl rfl <| zaw (t := 31) rfl rfl <| zaw (t := 31) rfl rfl <| OM (t := 29) rfl (Vb (Dt g13)) rfl <| CN <| zar (u := .bool _) (Vb (Dt g13)) rfl <| MB rfl <| OM (t := 37) rfl (Vb (rfl : true = _)) rfl <| OM (t := 37) rfl (Vb (rfl : true = _)) rfl <| OM (t := 37) rfl (Vb (rfl : true = _)) rfl <| zaw (t := 40) rfl rfl <| zaw (t := 40) rfl rfl <| zaw (t := 40) rfl rfl <| OM (t := 37) rfl (Vb (rfl : true = _)) rfl ?_
  refine CN <| zar (u := .bool _) (Vb (rfl : true = _)) rfl <| AB rfl <| NL <| zak [(0, Pp _ _), (5, Pp _ _), (7, .int .u8 _), (8, .bool _), (19, .bool _)] E5 fun f => zas (Vb (rfl : true = _)) <| SR <| AI rfl <| NL <| zac Tryd.func71 rfl (TP (v := .int .i64 _) rfl) ?_
  replace hst := hst.pick (.cons .u1 (.cons .u1 .nil))
  have hX : za2 c a bound = 42 := zcT (.inr (.inl (by rw [hkd]; omega)))
  rw [hX]
  exact ⟨ao, cp, ws, room, rfl, fun h => absurd h De, by omega, hr0, by omega, (St.pack (L1 := [_, _]) (L2 := []) hst)⟩
 refine TK (t := 29) rfl (Vb (Df g13)) <| zad (v := .bool _) rfl <| TK (t := 29) rfl (Vb (Df g13)) <| zad (v := .bool _) rfl <| zap (d := 31) rfl (fun g14 => ?_) (fun g14 => ?_)
 ·refine TK (t := 31) rfl (Vb (Dt g14)) <| zab zcY rfl <| TK (t := 31) rfl (Vb (Dt g14)) <| zae (v := .int .u32 _) zbT rfl rfl (hst.cellL Q0 rfl) <| TK (t := 31) rfl (Vb (Dt g14)) <| zbc rfl rfl <| TK (t := 29) rfl (Vb (Df g13)) <| zar (u := .bool _) (Vb (Dt g14)) rfl <| CN <| zam (u := .bool _) (Vb (Df g13)) rfl <| MB rfl <| zap (d := 37) rfl (fun g15 => ?_) (fun g15 => ?_)
  ·refine OM (t := 37) rfl (Vb (Dt g15)) rfl <| OM (t := 37) rfl (Vb (Dt g15)) rfl <| OM (t := 37) rfl (Vb (Dt g15)) rfl <| zaw (t := 40) rfl rfl <| zaw (t := 40) rfl rfl <| zaw (t := 40) rfl rfl <| OM (t := 37) rfl (Vb (Dt g15)) rfl <| CN <| zar (u := .bool _) (Vb (Dt g15)) rfl <| AB rfl <| NL <| zak [(0, Pp _ _), (5, Pp _ _), (7, .int .u8 _), (8, .bool _), (19, .bool _)] E5 fun f => zas (Vb (rfl : true = _)) <| SR <| AI rfl ?_
   refine NL <| zac Tryd.func71 rfl (TP (v := .int .i64 _) rfl) ?_
   replace hst := hst.pick (.cons .u1 (.cons .u1 .nil))
   have hX : za2 c a bound = 42 := zcT (.inr (.inr (.inl ⟨by omega, by omega⟩)))
   rw [hX]
   exact ⟨ao, cp, ws, room, rfl, fun h => absurd h De, by omega, hr0, by omega, (St.pack (L1 := [_, _]) (L2 := []) hst)⟩
  refine TK (t := 37) rfl (Vb (Df g15)) <| zad (v := .bool _) rfl <| TK (t := 37) rfl (Vb (Df g15)) <| zk9 rfl <| TK (t := 37) rfl (Vb (Df g15)) <| zad (v := .bool _) rfl <| zap (d := 40) rfl (fun g16 => ?_) (fun g16 => ?_)
  ·exfalso
   omega
  refine OM (t := 40) rfl (Vb (Df g16)) rfl <| OM (t := 40) rfl (Vb (Df g16)) rfl <| OM (t := 40) rfl (Vb (Df g16)) rfl <| TK (t := 37) rfl (Vb (Df g15)) <| zam (u := .bool _) (Vb (Df g16)) rfl <| CN <| zam (u := .bool _) (Vb (Df g15)) rfl <| AB rfl <| NL <| zak [(0, Pp _ _), (5, Pp _ _), (7, .int .u8 _), (8, .bool _), (19, .bool _)] E5 fun f => zal (Vb (rfl : false = _)) <| SR <| MB rfl <| AB rfl <| NL <| zaa rfl (fun g17 => ?_) (fun g17 => ?_)
  ·refine SR <| MP rfl <| CN <| zab zhB rfl <| CN (zae (v := str _) ty9 rfl rfl (hst.cellL Q0 rfl) ?_)
   replace hst := hst.pick (.cons .u1 (.cons .u1 (.cons .u0 .nil)))
   replace hst : St _ _ (WrC 141 22 bq fm bound ao cp ws room :: _) _ _ := hst.pack (L1 := [_, _])
   refine CN (zaF (v1 := Pp _ _) (v2 := str _) ent93 rfl rfl rfl ((zmf bq fm bound ao cp ws room a.s hs _ (hst.hL _ Q0) hl hr0 hr1).mono fun v w hp => ?_))
   obtain ⟨ao2, cp2, ws2, room2, rfl, hE, hw2, hr2, hr3, hp⟩ := hp
   replace hst : St _ _ (WrC 141 22 bq fm bound ao2 cp2 ws2 room2 :: _) _ _ := hst.call1 hp
   clear hp
   refine AI rfl <| NL <| zac Tryd.func71 rfl (TP (v := .int .i64 _) rfl) ?_
   replace hst := hst.pick (.cons .u0 .nil)
   have hX := zjn (c := c) (a := a) (bound := bound) (by omega) (by rw [hkd]; omega) (by omega) (by omega)
   have hY := zew (a := a) Om
   rw [hX, hY.1, hY.2]
   exact ⟨ao2, cp2, ws2, room2, rfl, hE, hw2, hr2, hr3, hst⟩
  exfalso
  omega
 refine OM (t := 31) rfl (Vb (Df g14)) rfl <| OM (t := 31) rfl (Vb (Df g14)) rfl <| OM (t := 31) rfl (Vb (Df g14)) rfl <| TK (t := 29) rfl (Vb (Df g13)) <| zam (u := .bool _) (Vb (Df g14)) rfl <| CN <| zam (u := .bool _) (Vb (Df g13)) rfl <| MB rfl <| TK (t := 37) rfl (Vb (rfl : false = _)) <| zad (v := .bool _) rfl <| TK (t := 37) rfl (Vb (rfl : false = _)) <| zk9 rfl <| TK (t := 37) rfl (Vb (rfl : false = _)) <| zad (v := .bool _) rfl <| zap (d := 40) rfl (fun g18 => ?_) (fun g18 => ?_)
 ·refine TK (t := 40) rfl (Vb (Dt g18)) <| zab zhB rfl <| TK (t := 40) rfl (Vb (Dt g18)) <| zae (v := str _) ty9 rfl rfl (hst.cellL Q0 rfl) <| TK (t := 40) rfl (Vb (Dt g18)) <| zeA rfl rfl <| TK (t := 37) rfl (Vb (rfl : false = _)) <| zar (u := .bool _) (Vb (Dt g18)) rfl <| CN <| zam (u := .bool _) (Vb (rfl : false = _)) rfl <| AB rfl <| NL <| zak [(0, Pp _ _), (5, Pp _ _), (7, .int .u8 _), (8, .bool _), (19, .bool _)] E5 fun f => zaa rfl (fun g19 => ?_) (fun g19 => ?_)
  ·refine SR <| AI rfl <| NL <| zac Tryd.func71 rfl (TP (v := .int .i64 _) rfl) ?_
   replace hst := hst.pick (.cons .u1 (.cons .u1 .nil))
   have hX : za2 c a bound = 42 := zcT (.inr (.inr (.inr ⟨by omega, by simpa using g19⟩)))
   rw [hX]
   exact ⟨ao, cp, ws, room, rfl, fun h => absurd h De, by omega, hr0, by omega, (St.pack (L1 := [_, _]) (L2 := []) hst)⟩
  refine SR <| MB rfl <| AB rfl <| NL <| zaa rfl (fun g20 => ?_) (fun g20 => ?_)
  ·exfalso
   omega
  refine zah <| zaj <| SR <| MP rfl <| CN <| zab zcY rfl <| CN (zae (v := .int .u32 _) zbT rfl rfl (hst.cellL Q0 rfl) ?_)
  replace hst := hst.pick (.cons .u1 (.cons .u1 (.cons .u0 .nil)))
  replace hst : St _ _ (WrC 141 22 bq fm bound ao cp ws room :: _) _ _ := hst.pack (L1 := [_, _])
  refine CN (zaF (v1 := Pp _ _) (v2 := .int .u32 _) ent90 rfl rfl rfl ((zk5 bq fm bound ao cp ws room _ _ (hst.hL _ Q0) hl hr0 hr1).mono fun v w hp => ?_))
  obtain ⟨ao2, cp2, hp⟩ := hp
  replace hst : St _ _ (WrC 141 22 bq fm bound ao2 cp2 (ws ++ [a.n]) (room + 1) :: _) _ _ := hst.call1 hp
  replace hst : St _ _ (_ :: _ :: _) _ _ := hst.unpack
  clear hp
  refine NL <| SQ <| SR <| CN <| zab zeq rfl <| CN <| zae (v := .int .u8 _) ty5 rfl rfl (hst.cellL Q2 rfl) <| NL <| zan <| SR <| CN <| zai rfl rfl <| AB rfl <| NL <| zaa rfl (fun g21 => ?_) (fun g21 => ?_)
  ·refine SQ <| RunD.start [] hst (bs := [0, 1, 0, 4, 12, 28, 63, 127]) (ds := [some 60, some 61, some 62, some 63, some 64, some 65, some 66, some 6]) ⟨Kr, Kr, Kr⟩ (fun tab22 => ?_)
   refine DO tab22 1 (fun f' L' w' hc=> zab zcY (hc.old (v := Pp _ _) rfl rfl rfl) hc.z) <| DO tab22 2 (fun f' L' w' hc=> zae (v := .int .u32 _) zbT rfl (hc.d 0 rfl rfl rfl rfl) (hc.st.cellL (List.mem_append_right _ Q2) rfl) hc.z) <| DO tab22 3 (fun f' L' w' hc=> zad (v := Pp _ _) (hc.old rfl rfl rfl) hc.z) <| DO tab22 4 (fun f' L' w' hc=> zay (hc.d 2 rfl rfl rfl rfl) hc.z) <| DO tab22 5 (fun f' L' w' hc=> zab zkP (hc.d 3 rfl rfl rfl rfl) hc.z) <| DO tab22 6 (fun _ _ _ hc => zae (v := .int .u32 _) zbT rfl (hc.d 4 rfl rfl rfl rfl) (hc.st.cellL (List.mem_append_right _ Q0) rfl) hc.z) <| RunD.fin zaE tab22 hst rfl (fun f23 w R26 hs24 hd25 hr27 hst => ?_)
   obtain ⟨h60_, r0⟩ := hd25 0 60 rfl rfl
   obtain ⟨h61_, r1⟩ := hd25 1 61 rfl rfl
   obtain ⟨h62_, r2⟩ := hd25 2 62 rfl rfl
   obtain ⟨h63_, r3⟩ := hd25 3 63 rfl rfl
   obtain ⟨h64_, r4⟩ := hd25 4 64 rfl rfl
   obtain ⟨h65_, r5⟩ := hd25 5 65 rfl rfl
   simp only [rg6, Fc, Fn, Mc, Mn, r0, r1, r2, r3, r4, r5, Na, An, Ca] at hst
   refine zaL (sl := [(61, .int .u32 _), (65, .int .u32 _)]) ⟨h61_, h65_, trivial⟩ ?_
   clear hs24 hd25 hr27 tab22
   refine CN <| zaF (v1 := .int .u32 _) (v2 := .int .u32 _) ent91 rfl rfl rfl <| Ret.det (zn6 _ _ _) hst fun w hst => AI rfl <| NL <| zac Tryd.func71 rfl (TP (v := .int .i64 _) rfl) ?_
   replace hst := hst.pick (.cons .u0 (.cons .u0 .nil))
   have hX := zeI (c := c) (a := a) (bound := bound) (by omega) (by rw [hkd]; omega) (by omega) (by simpa using g19)
   have hY := zex (a := a) Om
   rw [if_pos (by omega)] at hX
   rw [hX, hY.1, hY.2]
   exact ⟨ao2, cp2, ws ++ [a.n], room + 1, rfl, fun _ => ⟨rfl, rfl⟩, by simp, by omega, by omega, (St.pack (L1 := [_, _]) (L2 := []) hst)⟩
  refine SR <| CN <| zai rfl rfl <| AB rfl <| NL <| zaa rfl (fun g28 => ?_) (fun g28 => ?_)
  ·refine SR <| MC rfl <| CN <| zab zcY rfl <| CN <| zae (v := .int .u32 _) zbT rfl rfl (hst.cellL Q2 rfl) <| CN <| zaF (v1 := .int .u8 _) (v2 := .int .u32 _) ent94 rfl rfl rfl <| Ret.det (zmi _ _ hcb.1 hcb.2 _) hst fun w hst => AI rfl <| NL <| zac Tryd.func71 rfl (TP (v := .int .i64 _) rfl) ?_
   replace hst := hst.pick (.cons .u0 (.cons .u0 .nil))
   have hX := zeI (c := c) (a := a) (bound := bound) (by omega) (by rw [hkd]; omega) (by omega) (by simpa using g19)
   have hY := zex (a := a) Om
   rw [if_neg (by omega), if_pos (by omega)] at hX
   rw [hX, hY.1, hY.2]
   exact ⟨ao2, cp2, ws ++ [a.n], room + 1, rfl, fun _ => ⟨rfl, rfl⟩, by simp, by omega, by omega, (St.pack (L1 := [_, _]) (L2 := []) hst)⟩
  refine zah <| zaj <| SR <| AI rfl <| NL <| zac Tryd.func71 rfl (TP (v := .int .i64 _) rfl) ?_
  replace hst := hst.pick (.cons .u0 (.cons .u0 .nil))
  have hX := zeI (c := c) (a := a) (bound := bound) (by omega) (by rw [hkd]; omega) (by omega) (by simpa using g19)
  have hY := zex (a := a) Om
  rw [if_neg (by omega), if_neg (by omega)] at hX
  rw [hX, hY.1, hY.2]
  exact ⟨ao2, cp2, ws ++ [a.n], room + 1, rfl, fun _ => ⟨rfl, rfl⟩, by simp, by omega, by omega, (St.pack (L1 := [_, _]) (L2 := []) hst)⟩
 exfalso
 omega
end Go.SK
namespace Go.SK
open Go Go.Proofs
theorem ty141 : TyF Tryd.prog 141 (.struct (za8 Tryd.prog 141)) 11 120 [.int .u16 0, str [], .bool false, .bool false, str [], str [], .int .i64 0, .int .u8 0, .int .u32 0, .slice none 0 0, .int .i64 0] := zaZ Kr Kr
theorem stf141 : zcz Tryd.prog 141 [(0, 8), (8, 1), (9, 1), (10, 1)] := ⟨za8 Tryd.prog 141, Kr, fun w => Kr⟩
theorem ent70 : zaB Tryd.prog 70 := ⟨Tryd.f70, _, Tryd.func70, Kr, rfl⟩
theorem ent71 : zaB Tryd.prog 71 := ⟨Tryd.f71, _, Tryd.func71, Kr, rfl⟩
theorem ent72 : zaB Tryd.prog 72 := ⟨Tryd.f72, _, Tryd.func72, Kr, rfl⟩
end Go.SK
namespace Go.SK
open Go Go.Proofs
open Go.RowKit
theorem zpD (p : InstP) (bound : Int) (h0 : 0 ≤ p.op) (w : World) (hA : (Res.rargs p).holds w) (hsm : (p.args.map zaD).sum ≤ 900000000) (hla : ∀ a ∈ p.args, a.s.length ≤ 100000000000) : Ret Tryd.prog 53 #[.agg #[.int .u16 p.op, .int .u32 p.ty, .int .u32 p.res, .slice p.ao p.args.length p.cap], .int .u32 bound] w (fun v w' => ∃ ro rc, v = .tuple #[.agg #[.int .u16 (zjk bound p.L).1.1, .slice ro (zjk bound p.L).1.2.length rc], .int .i64 (zjk bound p.L).2] ∧ St w NoM [Res.sl ro (zjk bound p.L).1.2.length rc 22 1 ((zjk bound p.L).1.2.flatMap zgl)] [] w') := by
 refine zaq (args := [.agg #[.int .u16 p.op, .int .u32 p.ty, .int .u32 p.res, .slice p.ao p.args.length p.cap], .int .u32 bound]) Tryd.func53 rfl rfl rfl ?_
 have hst : St w NoM [] [Res.rargs p] w := St.init_D hA
 clear hA
 obtain ⟨fm, hfm⟩ : ∃ fm, zaO p.op = fm := ⟨_, rfl⟩
 obtain ⟨ob, hob⟩ : ∃ ob, (zcR p.op).isSome = ob := ⟨_, rfl⟩
 obtain ⟨we, hwe⟩ : ∃ we, zda fm.op p.args = we := ⟨_, rfl⟩
 have hf : FOk fm := hfm ▸ zef p.op
 have hlen := zeU p.args
 refine SR <| CN <| zbf (v := zdg _ _ _ _ _ _) hst rfl rfl fun w b2 hst => CN <| zaz hst zbX fun w b4 hst => AI rfl <| NSR <| CN <| zab zeX rfl <| CN <| zae (v := .int .u16 _) zpS rfl rfl (hst.cellL Q1 rfl) <| CN <| zao (v1 := .int .u16 _) zpi rfl rfl <| Ret.det (zhP h0 hfm hob _) hst fun w hst => CN <| zad (v := .tuple #[zaJ _ _ _ _ _ _ _ _, .bool _]) rfl <| CN <| Ex (zaJ _ _ _ _ _ _ _ _) rfl rfl <| CN <| Ex (.bool _) rfl rfl <| CN (zaz hst zfi fun w b6 hst => ?_)
 refine CN (SO (v := zaJ _ _ _ _ _ _ _ _) hst zfi rfl rfl .u0 fun w hst => ?_)
 refine AB rfl <| NL <| SQ <| SR <| MB rfl <| CN <| zbI rfl <| NL <| zaN rfl (fun g1 => ?_) (fun g1 => ?_)
 ·refine SR <| CN (zau zbX zh8 .nil ?_)
  refine CN (SO (v := gHL _ _ _ _) hst zbX rfl rfl .u1 fun w hst => ?_)
  refine AI rfl <| NL <| zat Tryd.func53 rfl (zaM (vs := lHL _ _ _ _) rfl zbX rfl rfl (zag (n := 2) (hst.objL Q1) _ rfl)) (TP (v := .int .i64 _) rfl) ?_
  replace hst := hst.pick .nil
  have hI := zeg (bound := bound) (i := p.L) (ziN (by rw [hob]; simpa using g1)) (by decide)
  rw [hI]
  exact ⟨none, 0, rfl, (hst.pushNil 22 1).noD⟩
 have hobt : ob = true := by simpa using g1
 have hisS : (zcR p.op).isSome = true := hob.trans hobt
 have hfo : fm.op = p.op := by rw [← hfm]; exact (zmU hisS).2
 have hfm2 : zaO fm.op = fm := by rw [hfo]; exact hfm
 refine zah <| SR <| CN <| zaA (vs := zbm _ _ _ _ _ _ _ _) zfi rfl rfl rfl (zag (n := 8) (hst.objL Q0) _ rfl) <| MU rfl <| CN (zau ty141 stf141 (.c (v := zaJ _ _ _ _ _ _ _ _) rfl (h := (.c (v := .int .u32 _) rfl (h := .nil)))) ?_)
 refine CN <| zbf (v := .agg #[.int .u16 _, str _, .bool _, .bool _, str _, str _, .int .i64 _, .int .u8 _, .int .u32 _, .slice _ _ _, .int .i64 _]) hst rfl rfl fun w b25 hst => AP rfl <| NL <| SQ ?_
 replace hst := hst.pushNil 22 1
 replace hst := hst.pick (.cons .u1 (.cons .u0 (.cons .u0 (.cons .u0 (.cons .u0 .nil)))))
 replace hst : St _ _ (WrC 141 22 b25 fm bound none 0 [] 0 :: _) _ _ := hst.pack (L1 := [_, _])
 refine RG <| MP rfl <| CN <| zab zf1 rfl <| CN <| zae (v := .bool _) ty4 rfl rfl (hst.cellL Q1 rfl) <| CN <| zab zhy rfl <| CN (zae (v := .int .u32 _) zbT rfl rfl (hst.cellL Q3 rfl) ?_)
 replace hst := hst.pick (.cons .u0 (.cons .u0 (.cons .u0 (.cons .u0 .nil))))
 refine CN (zjg (v1 := Pp _ _) (v2 := .bool _) (v3 := .int .u32 _) (v4 := .int .i64 _) ent70 rfl rfl rfl rfl rfl ((zg6 b25 fm bound none 0 [] 0 fm.ty p.ty 40 De _ (hst.hL _ Q0) De De De).mono fun v w hp => ?_))
 obtain ⟨ao1, cp1, ws1, rm1, rfl, hE1, hw1, hr1, hs1, hp⟩ := hp
 replace hst : St _ _ (WrC 141 22 b25 fm bound ao1 cp1 ws1 rm1 :: _) _ _ := hst.call1 hp
 clear hp
 refine AI rfl <| NL <| zak [(2, Pp _ _), (4, Pp _ _), (6, Pp _ _), (8, Pp _ _), (9, .int .i64 _)] E5 fun f => SQ <| zhN (L1 := [_]) [(2, Pp _ _), (4, Pp _ _), (6, Pp _ _), (8, Pp _ _)] hst E4 (fun (q : Option Addr × Nat × List Int × Int × Int) => [(9, .int .i64 q.2.2.2.2)]) (fun (q : Option Addr × Nat × List Int × Int × Int) => [WrC 141 22 b25 fm bound q.1 q.2.1 q.2.2.1 q.2.2.2.1]) (fun (q : Option Addr × Nat × List Int × Int × Int) => RW bound p.L 0 q.2.2.1 q.2.2.2.1 q.2.2.2.2) (fun ⟨ao0, cp0, ws0, rm0, e0⟩ f w hst hJ1 => ?_) (fun cut2 => ?_)
 replace hst : St _ _ ([WrC 141 22 b25 fm bound ao0 cp0 ws0 rm0] ++ [_, _, _]) _ _ := hst
 replace hJ1 : RW bound p.L 0 ws0 rm0 e0 := hJ1
 refine zbp (sl := [(9, .int .i64 e0)]) ⟨rfl, trivial⟩ ?_
 ·refine SR <| MP rfl <| CN <| zbW <| CN <| zaf (v := .func _ _ _) rfl <| NL <| SQ <| SR <| CN <| zab zbZ rfl <| CN <| zae (v := .slice _ _ _) zd6 rfl rfl (hst.cellL Q3 rfl) <| CN <| zaK (rest := []) zd6 rfl <| MI rfl <| NL <| zan ?_
  refine zaY <| za4 [(2, Pp _ _), (4, Pp _ _), (6, Pp _ _), (8, Pp _ _), (10, .func _ _ _), (43, .slice _ _ _), (44, .int .i64 _)] E7 (fun (q : Nat × Option Addr × Nat × List Int × Int × Int) => [(9, .int .i64 q.2.2.2.2.2), (45, .int .i64 (q.1 : Int))]) (fun (q : Nat × Option Addr × Nat × List Int × Int × Int) => [WrC 141 22 b25 fm bound q.2.1 q.2.2.1 q.2.2.2.1 q.2.2.2.2.1]) (fun (q : Nat × Option Addr × Nat × List Int × Int × Int) => q.1 ≤ p.args.length ∧ RW bound p.L q.1 q.2.2.2.1 q.2.2.2.2.1 q.2.2.2.2.2) (fun (q : Nat × Option Addr × Nat × List Int × Int × Int) => p.args.length - q.1) ((0, ao0, cp0, ws0, rm0, e0)) hst ⟨Nat.zero_le _, hJ1⟩ E2 ?_
  intro ⟨k, ao, cp, ws, room, e⟩ f w hst hK0 ih4
  replace hst : St _ _ ([WrC 141 22 b25 fm bound ao cp ws room] ++ [_, _, _]) _ _ := hst
  replace hK0 : k ≤ p.args.length ∧ RW bound p.L k ws room e := hK0
  refine zbp (sl := [(9, .int .i64 e), (45, .int .i64 (k : Int))]) E2 ?_
  have hK := hK0.2
  refine SR <| CN <| zaR rfl rfl <| NL <| SQ <| zaa rfl (fun g5 => ?_) (fun g5 => ?_)
  ·have hsum : zmP p.L.args k ≤ (p.args.map zaD).sum := zmO
   have hlk := hK.len
   have hrk := hK.r1
   have hr0 := hK.r0
   have hmem : (p.args.getD k zeroA) ∈ p.args := zbG Om
   have hsl := hla _ hmem
   have hidx : p.args.getD ((k : Int)).toNat zeroA = (p.args.getD k zeroA) := rfl
   refine zah <| SQ <| zan <| SR <| MI rfl <| CN <| zaV zd6 zbJ (hst.hD _ Q0) rfl rfl Om Om <| CN <| zaA (vs := znk _ _ _) zbJ rfl rfl rfl (Res.rs2_cells (m := 3) (hst.hD _ Q0) _ (zbr (g := zhM) (d := zeroA) zcu _ _ Om)) <| CN <| zaz hst zbJ fun w b12 hst => AI rfl <| CN (SO (v := zlW _ _ _) hst zbJ rfl rfl .u0 fun w hst => ?_)
   refine NSR <| MI rfl <| CN <| zai rfl rfl <| NL <| zaa rfl (fun g6 => ?_) (fun g6 => ?_)
   ·refine RG <| CN <| zad (v := .func _ _ _) rfl <| MI rfl <| CN (zaA (vs := znk _ _ _) zbJ rfl rfl rfl (zag (n := 3) (hst.objL Q0) _ rfl) ?_)
    replace hst := hst.pick (.cons .u1 (.cons .u0 (.cons .u0 (.cons .u0 (.cons .u0 .nil)))))
    obtain rfl : e = 0 := by omega
    refine CN (zg7 (v1 := .int .i64 _) (v2 := zlW _ _ _) rfl rfl rfl (zd0 ent71 ((zn4 b25 fm bound ao cp ws room k Om (p.args.getD k zeroA) hsl _ hfm2 rfl _ (hst.hL _ Q0) Om hr0 Om).mono fun v w hp => ?_)))
    obtain ⟨ao3, cp3, ws3, rm3, rfl, hE3, hw3, hr3, hs3, hp⟩ := hp
    replace hst : St _ _ (WrC 141 22 b25 fm bound ao3 cp3 ws3 rm3 :: _) _ _ := hst.call1 hp
    clear hp
    refine AI rfl <| NL <| zaj <| RG <| CN <| zaC rfl rfl rfl zck <| MI rfl <| NL <| zax ?_
    replace hst := hst.pick (.cons .u0 (.cons .u0 (.cons .u0 (.cons .u0 (.cons .u0 .nil)))))
    have hst2 := hK.step (ws2 := ws3) (room2 := rm3) hisS (by (try dsimp only); omega) (by rw [hfm]; exact hE3) hw3 hr3 hs3
    rw [hfm] at hst2
    replace hst := hst.pick (.cons .u0 (.cons .u1 (.cons .u1 (.cons .u1 .nil))))
    exact ih4 ((k + 1, ao3, cp3, ws3, rm3, (za2 (zav fm (k : Int)) (p.args.getD k zeroA) bound))) _ w Od hst (⟨by (try dsimp only); omega, hst2⟩) E7 ⟨rfl, (Vi Od), trivial⟩
   refine zah <| zaj <| RG <| CN <| zaC rfl rfl rfl zck <| MI rfl <| NL <| zax ?_
   replace hst := hst.pick (.cons .u1 (.cons .u0 (.cons .u0 (.cons .u0 (.cons .u0 .nil)))))
   have hst2 := hK.skip g6 Od
   replace hst := hst.pick (.cons .u0 (.cons .u1 (.cons .u1 (.cons .u1 .nil))))
   exact ih4 ((k + 1, ao, cp, ws, room, e)) _ w Od hst (⟨by (try dsimp only); omega, hst2⟩) E7 ⟨rfl, (Vi Od), trivial⟩
  obtain rfl : k = p.args.length := by omega
  refine zaI (id := 0) rfl <| SQ <| SR <| MI rfl <| CN <| zai rfl rfl <| NL <| zaa rfl (fun g7 => ?_) (fun g7 => ?_)
  ·refine RG <| CN <| zaA (vs := zbm _ _ _ _ _ _ _ _) zfi rfl rfl rfl (zag (n := 8) (hst.objL Q1) _ rfl) <| CN <| zab zbZ rfl <| CN (zae (v := .slice _ _ _) zd6 rfl rfl (hst.cellL Q3 rfl) ?_)
   obtain rfl : e = 0 := by omega
   have hfu := hK.full hisS
   have hsum := zmO (l := p.args) (k := p.args.length)
   have hrk := hK.r1
   have hr0 := hK.r0
   refine CN <| zaF (v1 := zaJ _ _ _ _ _ _ _ _) (v2 := .slice _ _ _) ent72 rfl rfl rfl <| zpx (zmg fm hf p.args _ _ _ (hst.hD _ Q0) Om) (Vi hwe) hst fun w hst => AI rfl <| NL <| SQ <| SQ ?_
   replace hst := hst.pick (.cons .u0 (.cons .u0 (.cons .u0 (.cons .u0 .nil))))
   replace hst : St _ _ (_ :: _ :: _) _ _ := hst.unpack
   refine RG <| MI rfl <| CN <| zai rfl rfl <| MB rfl <| zap (d := 65) rfl (fun g8 => ?_) (fun g8 => ?_)
   ·refine TK (t := 65) rfl (Vb (Dt g8)) <| zad (v := Pp _ _) rfl <| TK (t := 65) rfl (Vb (Dt g8)) <| zay rfl <| TK (t := 65) rfl (Vb (Dt g8)) <| zab zcX rfl <| TK (t := 65) rfl (Vb (Dt g8)) <| zae (v := .int .i64 _) ty3 rfl rfl (hst.cellL Q0 rfl) <| TK (t := 65) rfl (Vb (Dt g8)) <| za1 rfl rfl <| CN <| zar (u := .bool _) (Vb (Dt g8)) rfl <| NL <| zaa rfl (fun g9 => ?_) (fun g9 => ?_)
    ·refine RG <| AI rfl <| NL <| SQ <| SR <| MI rfl <| CN <| zbc rfl rfl <| NL <| zak [(2, Pp _ _), (4, Pp _ _), (8, Pp _ _), (9, .int .i64 _), (73, .bool _)] E5 fun f => zaa rfl (fun g10 => ?_) (fun g10 => ?_)
     ·refine SR <| CN (zau zbX zh8 .nil ?_)
      refine MI rfl <| CN (SO (v := gHL _ _ _ _) hst zbX rfl rfl .u3 fun w hst => ?_)
      refine AI rfl <| NL <| zat Tryd.func53 rfl (zaM (vs := lHL _ _ _ _) rfl zbX rfl rfl (zag (n := 2) (hst.objL Q3) _ rfl)) (TP (v := .int .i64 _) rfl) ?_
      replace hst := hst.pick .nil
      have hf2 := hfu.2.2
      rw [show zda p.L.op p.L.args = we from by rw [← hwe, hfo]] at hf2
      rw [if_neg (fun h => h (by omega))] at hf2
      have hr2 := hfu.2.1
      rw [hfm] at hr2 hf2
      rw [if_pos (by (try dsimp only at hr2 ⊢); omega)] at hf2
      have hI := zeg (bound := bound) (i := p.L) (hf2) De
      rw [hI]
      exact ⟨none, 0, rfl, (hst.pushNil 22 1).noD⟩
     exfalso
     exact g10 De
    refine zah <| SQ <| SR <| MI rfl <| CN <| zbc rfl rfl <| NL <| zak [(2, Pp _ _), (4, Pp _ _), (8, Pp _ _), (9, .int .i64 _), (73, .bool _)] E5 fun f => zaa rfl (fun g11 => ?_) (fun g11 => ?_)
    ·exfalso
     omega
    refine zah <| SQ <| RunD.start [] hst (bs := [0, 1, 0, 4, 12, 28, 63, 127, 255]) (ds := [some 76, some 77, some 78, some 79, some 80, some 81, some 82, none, some 5]) ⟨Kr, Kr, Kr⟩ (fun tab12 => ?_)
    refine DO tab12 1 (fun f' L' w' hc=> zab zeX (hc.old (v := Pp _ _) rfl rfl rfl) hc.z) <| DO tab12 2 (fun f' L' w' hc=> zae (v := .int .u16 _) zpS rfl (hc.d 0 rfl rfl rfl rfl) (hc.st.cellL (List.mem_append_right _ Q4) rfl) hc.z) <| DO tab12 3 (fun f' L' w' hc=> zad (v := Pp _ _) (hc.old rfl rfl rfl) hc.z) <| DO tab12 4 (fun f' L' w' hc=> zay (hc.d 2 rfl rfl rfl rfl) hc.z) <| DO tab12 5 (fun f' L' w' hc=> zab zep (hc.d 3 rfl rfl rfl rfl) hc.z) <| DO tab12 6 (fun _ _ _ hc => zae (v := .slice _ _ _) zc4 rfl (hc.d 4 rfl rfl rfl rfl) (hc.st.cellL (List.mem_append_right _ Q0) rfl) hc.z) <| RunD.fin zaE tab12 hst rfl (fun f13 w R16 hs14 hd15 hr17 hst => ?_)
    obtain ⟨h76_, r0⟩ := hd15 0 76 rfl rfl
    obtain ⟨h77_, r1⟩ := hd15 1 77 rfl rfl
    obtain ⟨h78_, r2⟩ := hd15 2 78 rfl rfl
    obtain ⟨h79_, r3⟩ := hd15 3 79 rfl rfl
    obtain ⟨h80_, r4⟩ := hd15 4 80 rfl rfl
    obtain ⟨h81_, r5⟩ := hd15 5 81 rfl rfl
    simp only [rg6, Fc, Fn, Mc, Mn, r0, r1, r2, r3, r4, r5, Na, An, Ca] at hst
    refine zaL (sl := [(4, Pp _ _), (77, .int .u16 _), (81, .slice _ _ _)]) ⟨(hs14 4 rfl).trans rfl, h77_, h81_, trivial⟩ ?_
    clear hs14 hd15 hr17 tab12
    refine CN (zau zbX zh8 (.c (v := .int .u16 _) rfl (h := (.c (v := .slice _ _ _) rfl (h := .nil)))) ?_)
    refine CN (SO (v := gHL _ _ _ _) hst zbX rfl rfl .u3 fun w hst => ?_)
    refine AI rfl <| NL <| zat Tryd.func53 rfl (zaM (vs := lHL _ _ _ _) rfl zbX rfl rfl (zag (n := 2) (hst.objL Q3) _ rfl)) (TP (v := .int .i64 _) rfl) ?_
    replace hst := hst.pick (.cons .u1 .nil)
    have hf2 := hfu.2.2
    rw [show zda p.L.op p.L.args = we from by rw [← hwe, hfo]] at hf2
    rw [if_neg (fun h => h (by omega))] at hf2
    have hr2 := hfu.2.1
    rw [hfm] at hr2 hf2
    rw [if_neg (by (try dsimp only at hr2 ⊢); omega)] at hf2
    have hI := zmX (bound := bound) (i := p.L) hf2
    rw [hI, ← hfu.1]
    exact ⟨ao, cp, rfl, hst.noD⟩
   refine OM (t := 65) rfl (Vb (Df g8)) rfl <| OM (t := 65) rfl (Vb (Df g8)) rfl <| OM (t := 65) rfl (Vb (Df g8)) rfl <| OM (t := 65) rfl (Vb (Df g8)) rfl <| OM (t := 65) rfl (Vb (Df g8)) rfl <| CN <| zam (u := .bool _) (Vb (Df g8)) rfl <| NL <| zal (Vb (rfl : false = _)) <| zah <| SQ <| SR <| MI rfl <| CN <| zbc rfl rfl <| NL ?_
   refine zaa rfl (fun g18 => ?_) (fun g18 => ?_)
   ·refine SR <| CN (zau zbX zh8 .nil ?_)
    refine MI rfl <| CN (SO (v := gHL _ _ _ _) hst zbX rfl rfl .u3 fun w hst => ?_)
    refine AI rfl <| NL <| zat Tryd.func53 rfl (zaM (vs := lHL _ _ _ _) rfl zbX rfl rfl (zag (n := 2) (hst.objL Q3) _ rfl)) (TP (v := .int .i64 _) rfl) ?_
    replace hst := hst.pick .nil
    have hf2 := hfu.2.2
    rw [show zda p.L.op p.L.args = we from by rw [← hwe, hfo]] at hf2
    rw [if_pos g8] at hf2
    have hI := zeg (bound := bound) (i := p.L) (hf2) g8
    rw [hI]
    exact ⟨none, 0, rfl, (hst.pushNil 22 1).noD⟩
   exfalso
   omega
  refine zah <| SQ <| SQ ?_
  replace hst := hst.pick (.cons .u0 (.cons .u0 (.cons .u0 (.cons .u0 .nil))))
  replace hst : St _ _ (_ :: _ :: _) _ _ := hst.unpack
  refine RG <| MI rfl <| CN <| zai rfl rfl <| MB rfl <| zap (d := 65) rfl (fun g19 => ?_) (fun g19 => ?_)
  ·exfalso
   omega
  refine OM (t := 65) rfl (Vb (Df g19)) rfl <| OM (t := 65) rfl (Vb (Df g19)) rfl <| OM (t := 65) rfl (Vb (Df g19)) rfl <| OM (t := 65) rfl (Vb (Df g19)) rfl <| OM (t := 65) rfl (Vb (Df g19)) rfl <| CN <| zam (u := .bool _) (Vb (Df g19)) rfl <| NL <| zal (Vb (rfl : false = _)) <| zah <| SQ <| SR <| MI rfl <| CN <| zbc rfl rfl <| NL ?_
  refine zaa rfl (fun g20 => ?_) (fun g20 => ?_)
  ·refine SR <| CN (zau zbX zh8 .nil ?_)
   refine MI rfl <| CN (SO (v := gHL _ _ _ _) hst zbX rfl rfl .u3 fun w hst => ?_)
   refine AI rfl <| NL <| zat Tryd.func53 rfl (zaM (vs := lHL _ _ _ _) rfl zbX rfl rfl (zag (n := 2) (hst.objL Q3) _ rfl)) (TP (v := .int .i64 _) rfl) ?_
   replace hst := hst.pick .nil
   have hI := zeg (bound := bound) (i := p.L) (hK.err g7) g7
   rw [hI]
   exact ⟨none, 0, rfl, (hst.pushNil 22 1).noD⟩
  exfalso
  omega
 ·refine SR <| MI rfl <| CN <| zai rfl rfl <| NL <| zaa rfl (fun g21 => ?_) (fun g21 => ?_)
  ·refine RG <| MP rfl <| CN <| zab zdi rfl <| CN <| zae (v := .bool _) ty4 rfl rfl (hst.cellL Q1 rfl) <| CN <| zab zhx rfl <| CN (zae (v := .int .u32 _) zbT rfl rfl (hst.cellL Q3 rfl) ?_)
   replace hst := hst.pick (.cons .u0 (.cons .u0 (.cons .u0 (.cons .u0 .nil))))
   have h10 : idH fm.ty p.ty bound 40 = 0 := by simpa using g21
   have hx1 := hE1 h10
   have hw1b : ws1.length ≤ 1 := hw1
   refine CN (zjg (v1 := Pp _ _) (v2 := .bool _) (v3 := .int .u32 _) (v4 := .int .i64 _) ent70 rfl rfl rfl rfl rfl ((zg6 b25 fm bound ao1 cp1 ws1 rm1 fm.res p.res 41 De _ (hst.hL _ Q0) Om hr1 Om).mono fun v w hp => ?_))
   obtain ⟨ao2, cp2, ws2, rm2, rfl, hE2, hw2, hr2, hs2, hp⟩ := hp
   replace hst : St _ _ (WrC 141 22 b25 fm bound ao2 cp2 ws2 rm2 :: _) _ _ := hst.call1 hp
   clear hp
   refine AI rfl <| NL ?_
   replace hst := hst.pick (.cons .u0 (.cons .u0 (.cons .u0 (.cons .u0 .nil))))
   exact cut2 ((ao2, cp2, ws2, rm2, idH fm.res p.res bound 41)) _ w (hst) ((by have hq := RW.start (i := p.L) (bound := bound) (ws2 := ws2) (room2 := rm2) hisS (by rw [hfm]; exact h10) (fun he => by rw [hfm] at he ⊢; have h2 := hE2 he; rw [hx1.1, hx1.2] at h2; exact h2) (by omega) hr2 (by omega); rw [hfm] at hq; exact hq)) E4 ⟨rfl, trivial⟩
  refine zah ?_
  replace hst := hst.pick (.cons .u0 (.cons .u0 (.cons .u0 (.cons .u0 .nil))))
  have hq := RW.ty (i := p.L) (bound := bound) (ws := ws1) (room := rm1) hisS (by rw [hfm]; exact g21) hw1 hr1 (by omega)
  rw [hfm] at hq
  exact cut2 ((ao1, cp1, ws1, rm1, idH fm.ty p.ty bound 40)) _ w (hst) (hq) E4 ⟨rfl, trivial⟩
end Go.SK
namespace Go.SK
open Go Go.Proofs
theorem ent52 : zaB Tryd.prog 52 := ⟨Tryd.f52, _, Tryd.func52, Kr, rfl⟩
theorem ent53 : zaB Tryd.prog 53 := ⟨Tryd.f53, _, Tryd.func53, Kr, rfl⟩
end Go.SK
namespace Go.SK
open Go Go.Proofs
open Go.RowKit
theorem zn7 {p : InstP} {bound rop re : Int} {rws : List Int} (hR : zjk bound p.L = ((rop, rws), re)) (h0 : 0 ≤ p.op) (w : World) (hA : (Res.rargs p).holds w) (hsm : (p.args.map zaD).sum ≤ 900000000) (hla : ∀ a ∈ p.args, a.s.length ≤ 100000000000) : Ret Tryd.prog 53 #[.agg #[.int .u16 p.op, .int .u32 p.ty, .int .u32 p.res, .slice p.ao p.args.length p.cap], .int .u32 bound] w (fun v w' => ∃ ro rc, v = .tuple #[.agg #[.int .u16 rop, .slice ro rws.length rc], .int .i64 re] ∧ St w NoM [Res.sl ro rws.length rc 22 1 (rws.flatMap zgl)] [] w') := by
 have h := zpD p bound h0 w hA hsm hla
 rw [hR] at h; exact h
theorem zi8 (w : World) : Ret Tryd.prog 52 #[.slice none 0 0] w (fun v w' => v = .tuple #[.int .i64 5, .int .i64 0] ∧ St w NoM [] [] w') := zn3 [] none 0 w ⟨rfl, .inl rfl⟩ De (fun _ h => by cases h)
theorem zn5 (gn bd : Int) (l : List InstP) (ao : Option Addr) (cp : Nat) (w : World) (hA : (Res.rmod ao l).holds w) (hl : l.length ≤ 3000000000000) (hop : ∀ i ∈ l, 0 ≤ i.op) (hsm : ∀ i ∈ l, (i.args.map zaD).sum ≤ 900000000) (hla : ∀ i ∈ l, ∀ a ∈ i.args, a.s.length ≤ 100000000000) : Ret Tryd.prog 35 #[.agg #[.int .u32 gn, .int .u32 bd, .slice ao l.length cp]] w (fun v w' => ∃ ro rc done, v = .tuple #[.slice ro done.length rc, .agg #[.int .i64 (za7 bd (l.map InstP.L)).1, .int .i64 (za7 bd (l.map InstP.L)).2]] ∧ done.map RawP.L = (if (za7 bd (l.map InstP.L)).1 = 0 then zhn bd (l.map InstP.L) else []) ∧ St w NoM [Res.oraws 116 22 ro rc done] [] w') := by
 refine zaq (args := [.agg #[.int .u32 gn, .int .u32 bd, .slice ao l.length cp]]) Tryd.func35 rfl rfl rfl ?_
 have hst : St w NoM [] [Res.rmod ao l] w := St.init_D hA
 clear hA
 refine SR <| CN <| zbf (v := zgS _ _ _ _ _) hst rfl rfl fun w b1 hst => AL rfl <| CN <| zaz hst zb2 fun w b3 hst => NL <| SQ <| SR <| CN <| zab zeZ rfl <| CN <| zae (v := .int .u32 _) zbT rfl rfl (hst.cellL Q1 rfl) <| CN <| zai rfl rfl <| MB rfl <| zap (d := 14) rfl (fun g1 => ?_) (fun g1 => ?_)
 ·refine OM (t := 14) rfl (Vb (Dt g1)) rfl <| OM (t := 14) rfl (Vb (Dt g1)) rfl <| OM (t := 14) rfl (Vb (Dt g1)) rfl <| CN <| zar (u := .bool _) (Vb (Dt g1)) rfl <| NL <| zas (Vb (rfl : true = _)) <| SR <| CN (zau zb2 zhg (.c (v := .int .i64 _) rfl (h := .nil)) ?_)
  refine AL rfl <| CN (SO (v := gII _ _) hst zb2 rfl rfl .u0 fun w hst => ?_)
  refine NL <| zat Tryd.func35 rfl (TP (v := .slice _ _ _) rfl) (zaM (vs := lII _ _) rfl zb2 rfl rfl (zag (n := 2) (hst.objL Q0) _ rfl)) ?_
  replace hst := hst.pick .nil
  have hS := zfb (bound := bd) (l := (l.map InstP.L)) Om
  have hne : (24 : Int) ≠ 0 := by decide
  replace hst := St.starCons ((hst.starNil).pushNil 116 2)
  refine ⟨none, 0, [], ?_, ?_, hst.noD⟩
  ·rw [hS] <;> rfl
  ·rw [hS, if_neg hne] <;> rfl
 refine TK (t := 14) rfl (Vb (Df g1)) <| zab zeZ rfl <| TK (t := 14) rfl (Vb (Df g1)) <| zae (v := .int .u32 _) zbT rfl rfl (hst.cellL Q1 rfl) <| TK (t := 14) rfl (Vb (Df g1)) <| zb1 rfl rfl <| CN <| zam (u := .bool _) (Vb (Df g1)) rfl <| NL <| zaa rfl (fun g2 => ?_) (fun g2 => ?_)
 ·refine SR <| CN (zau zb2 zhg (.c (v := .int .i64 _) rfl (h := .nil)) ?_)
  refine AL rfl <| CN (SO (v := gII _ _) hst zb2 rfl rfl .u0 fun w hst => ?_)
  refine NL <| zat Tryd.func35 rfl (TP (v := .slice _ _ _) rfl) (zaM (vs := lII _ _) rfl zb2 rfl rfl (zag (n := 2) (hst.objL Q0) _ rfl)) ?_
  replace hst := hst.pick .nil
  have hS := zfb (bound := bd) (l := (l.map InstP.L)) Om
  have hne : (24 : Int) ≠ 0 := by decide
  replace hst := St.starCons ((hst.starNil).pushNil 116 2)
  refine ⟨none, 0, [], ?_, ?_, hst.noD⟩
  ·rw [hS] <;> rfl
  ·rw [hS, if_neg hne] <;> rfl
 refine zah <| SR <| CN <| zao (v1 := .slice _ _ _) ent52 rfl rfl <| Ret.det (zi8 _) hst fun w hst => CN <| zad (v := .tuple #[.int .i64 _, .int .i64 _]) rfl <| CN <| Ex (.int .i64 _) rfl rfl <| CN <| Ex (.int .i64 _) rfl rfl <| AI rfl <| AI rfl <| NSR <| MI rfl <| CN <| zbA rfl rfl rfl zck <| AI rfl ?_
 refine NL <| zak [(1, Pp _ _), (3, Pp _ _), (4, .int .i64 _)] E3 fun f => SR <| AL rfl <| NL <| SQ <| SQ ?_
 replace hst := hst.pushNil 116 2
 replace hst := hst.starNil
 refine RG <| CN <| zab zbQ rfl <| CN <| zae (v := .slice _ _ _) zd7 rfl rfl (hst.cellL Q3 rfl) <| CN <| zaK (rest := []) zd7 rfl <| MI rfl <| NL <| zan <| zaY <| za4 [(1, Pp _ _), (3, Pp _ _), (27, .slice _ _ _), (28, .int .i64 _)] E4 (fun (q : Nat × Nat × Option Addr × Nat × List RawP) => [(4, .int .i64 (1048576 - (q.2.1 : Int))), (6, .slice q.2.2.1 q.2.2.2.2.length q.2.2.2.1), (29, .int .i64 (q.1 : Int))]) (fun (q : Nat × Nat × Option Addr × Nat × List RawP) => [Res.star (q.2.2.2.2.map (Res.oword 22)), Res.sl q.2.2.1 q.2.2.2.2.length q.2.2.2.1 116 2 (q.2.2.2.2.flatMap zmY)]) (fun (q : Nat × Nat × Option Addr × Nat × List RawP) => q.1 ≤ l.length ∧ zbF bd 5 0 (l.map InstP.L) = zbF bd q.2.1 q.1 ((l.map InstP.L).drop q.1) ∧ q.2.1 ≤ 1048576 ∧ q.2.2.2.2.map RawP.L = zhn bd ((l.map InstP.L).take q.1)) (fun (q : Nat × Nat × Option Addr × Nat × List RawP) => l.length - q.1) ((0, 5, none, 0, [])) hst ⟨Nat.zero_le _, rfl, by decide, rfl⟩ E3 ?_
 intro ⟨i, n, aq, cq, done⟩ f w hst hJ ih3
 replace hst : St _ _ ([Res.star (done.map (Res.oword 22)), Res.sl aq done.length cq 116 2 (done.flatMap zmY)] ++ [_, _]) _ _ := hst
 replace hJ : i ≤ l.length ∧ zbF bd 5 0 (l.map InstP.L) = zbF bd n i ((l.map InstP.L).drop i) ∧ n ≤ 1048576 ∧ done.map RawP.L = zhn bd ((l.map InstP.L).take i) := hJ
 refine zbp (sl := [(4, .int .i64 (1048576 - (n : Int))), (6, .slice aq done.length cq), (29, .int .i64 (i : Int))]) E3 <| SR <| CN <| zaR rfl rfl <| NL <| SQ <| zaa rfl (fun g4 => ?_) (fun g4 => ?_)
 ·have hmem : (l.getD i zeroI) ∈ l := zbG Om
  have hidx : l.getD ((i : Int)).toNat zeroI = (l.getD i zeroI) := rfl
  obtain ⟨⟨⟨rop, rws⟩, re⟩, hR⟩ : ∃ q, zjk bd (l.getD i zeroI).L = q := ⟨_, rfl⟩
  have hrl := zoO hR
  have hsh := zjx (bound := bd) (n := n) (k := i) (l := (l.map InstP.L)) (j := i) (by rw [List.length_map]; omega)
  rw [zir (by omega), ← hrl.1] at hsh
  have hdl : done.length ≤ i := by have := congrArg List.length hJ.2.2.2; simp only [zhn, List.length_map, List.length_take] at this; omega
  have hrn : rws.length < 65535 := by
   by_cases he : re = 0
   ·exact (hrl.2.1 he).2.1
   ·rw [show rws = [] from congrArg Prod.snd (hrl.2.2 he)]; decide
  refine zah <| SQ <| zan <| SR <| MI rfl <| CN <| zaV zd7 ze8 (Res.rmod_insts (hst.hD _ Q0)) rfl rfl Om Om <| CN <| zaA (vs := zgu _ _ _ _ _ _) ze8 rfl rfl rfl (Res.rs2_cells (m := 4) (Res.rmod_insts (hst.hD _ Q0)) _ (zbr (g := zdF) (d := zeroI) zci _ _ Om)) <| CN <| zaz hst ze8 fun w b8 hst => AI rfl <| CN (SO (v := zdg _ _ _ _ _ _) hst ze8 rfl rfl .u0 fun w hst => ?_)
  refine NSR <| CN <| zaA (vs := zgu _ _ _ _ _ _) ze8 rfl rfl rfl (zag (n := 4) (hst.objL Q0) _ rfl) <| CN <| zab zeZ rfl <| CN <| zae (v := .int .u32 _) zbT rfl rfl (hst.cellL Q4 rfl) <| CN (zaF (v1 := zdg _ _ _ _ _ _) (v2 := .int .u32 _) ent53 rfl rfl rfl ((zn7 hR (hop _ hmem) _ (Res.rmod_argsI (hst.hD _ Q0) (i := i) Om) (hsm _ hmem) (hla _ hmem)).mono fun v w hp => ?_))
  obtain ⟨ro, rc, rfl, hp⟩ := hp
  replace hst : St _ _ (_ :: _) _ _ := hst.call0 hp
  clear hp
  refine CN <| zad (v := .tuple #[gHL _ _ _ _, .int .i64 _]) rfl <| CN <| Ex (gHL _ _ _ _) rfl rfl <| CN <| Ex (.int .i64 _) rfl rfl <| CN <| zaz hst zbX fun w b9 hst => CN (SO (v := gHL _ _ _ _) hst zbX rfl rfl .u0 fun w hst => ?_)
  refine AI rfl <| NSR <| MI rfl <| CN <| zab zhA rfl <| CN <| zae (v := .slice _ _ _) zc4 rfl rfl (hst.cellL Q0 rfl) <| CN <| zaK (rest := []) zc4 rfl <| CN <| zaC rfl rfl rfl zck <| CN <| zbA rfl rfl rfl zck <| AI rfl <| NL <| zak [(1, Pp _ _), (3, Pp _ _), (4, .int .i64 _), (6, .slice _ _ _), (7, .int .i64 _), (9, Pp _ _), (10, .int .i64 _), (27, .slice _ _ _), (28, .int .i64 _), (29, .int .i64 _)] E10 fun f => SQ <| zan ?_
  refine SR <| MI rfl <| CN <| zbc rfl rfl <| AB rfl <| NL <| zaa rfl (fun g5 => ?_) (fun g5 => ?_)
  ·refine SR <| MI rfl <| MI rfl <| CN (zau zb2 zhg (.c (v := .int .i64 _) rfl (h := (.c (v := .int .i64 _) rfl (h := .nil)))) ?_)
   refine AL rfl <| CN (SO (v := gII _ _) hst zb2 rfl rfl .u5 fun w hst => ?_)
   refine NL <| zat Tryd.func35 rfl (TP (v := .slice _ _ _) rfl) (zaM (vs := lII _ _) rfl zb2 rfl rfl (zag (n := 2) (hst.objL Q5) _ rfl)) ?_
   replace hst := hst.pick .nil
   rw [if_pos g5] at hsh
   have hS := zfN (bound := bd) (l := (l.map InstP.L)) Om Om
   rw [hJ.2.1, hsh] at hS
   have hne := g5
   replace hst := St.starCons ((hst.starNil).pushNil 116 2)
   refine ⟨none, 0, [], ?_, ?_, hst.noD⟩
   ·rw [hS] <;> rfl
   ·rw [hS, if_neg hne] <;> rfl
  refine SR <| MI rfl <| CN <| zaR rfl rfl <| AB rfl <| NL <| zaa rfl (fun g6 => ?_) (fun g6 => ?_)
  ·refine SR <| MI rfl <| CN (zau zb2 zhg (.c (v := .int .i64 _) rfl (h := (.c (v := .int .i64 _) rfl (h := .nil)))) ?_)
   refine AL rfl <| CN (SO (v := gII _ _) hst zb2 rfl rfl .u5 fun w hst => ?_)
   refine NL <| zat Tryd.func35 rfl (TP (v := .slice _ _ _) rfl) (zaM (vs := lII _ _) rfl zb2 rfl rfl (zag (n := 2) (hst.objL Q5) _ rfl)) ?_
   replace hst := hst.pick .nil
   have hr0 : re = 0 := Nn g5
   have hrm := (hrl.2.1 hr0).1
   dsimp only at hrm hsh
   rw [if_neg g5, if_pos (by omega)] at hsh
   have hS := zfN (bound := bd) (l := (l.map InstP.L)) Om Om
   rw [hJ.2.1, hsh] at hS
   have hne : (4 : Int) ≠ 0 := by decide
   replace hst := St.starCons ((hst.starNil).pushNil 116 2)
   refine ⟨none, 0, [], ?_, ?_, hst.noD⟩
   ·rw [hS] <;> rfl
   ·rw [hS, if_neg hne] <;> rfl
  refine zah <| zaj <| RG <| ML rfl <| CN <| zaA (vs := lHL _ _ _ _) zbX rfl rfl rfl (zag (n := 2) (hst.objL Q0) _ rfl) <| CN (zaG (z0 := [.int .u16 0, .slice none 0 0]) hst ty85 zbX rfl rfl Kr (.c (v := gHL _ _ _ _) rfl (h := .nil)) fun w b60 hst => ?_)
  refine CN (zaW (news := (lHL _ _ _ _)) hst ty85 zbX rfl rfl .u5 rfl rfl rfl (zag (n := 2) (hst.objL Q0) _ rfl) rfl rfl Om fun w ao7 cp8 hst => ?_)
  replace hst := hst.drop .u1
  refine AL rfl <| NL <| zaj <| RG <| CN <| zaC rfl rfl rfl zck <| MI rfl <| NL <| zax ?_
  replace hst := hst.pick (.cons .u2 (.cons .u3 (.cons .u0 (.cons .u0 (.cons .u0 (.cons .u0 (.cons .u0 .nil)))))))
  replace hst := hst.starSnoc
  have e1 : done.length + 1 = (done ++ [(⟨rop, ro, rc, rws⟩ : RawP)]).length := by simp
  have e2 : done.flatMap zmY ++ [.int .u16 rop, .slice ro rws.length rc] = (done ++ [(⟨rop, ro, rc, rws⟩ : RawP)]).flatMap zmY := by simp
  have e3 : done.map (Res.oword 22) ++ [Res.sl ro rws.length rc 22 1 (rws.flatMap zgl)] = (done ++ [(⟨rop, ro, rc, rws⟩ : RawP)]).map (Res.oword 22) := by simp
  rw [e1, e2, e3] at hst
  have hr0 : re = 0 := Nn g5
  have hrm := (hrl.2.1 hr0).1
  dsimp only at hrm hsh
  rw [if_neg g5, if_neg (by omega)] at hsh
  have hI2 : (done ++ [(⟨rop, ro, rc, rws⟩ : RawP)]).map RawP.L = zhn bd ((l.map InstP.L).take (i + 1)) := by rw [List.map_append, hJ.2.2.2, zlv (by omega), hR]; rfl
  replace hst := hst.pick (.cons .u0 (.cons .u0 (.cons .u2 (.cons .u2 .nil))))
  exact ih3 ((i + 1, n + zbD (zaO (l.getD i zeroI).op) (l.getD i zeroI).args, ao7, cp8, done ++ [(⟨rop, ro, rc, rws⟩ : RawP)])) _ w (by (try dsimp only); omega) hst (⟨by (try dsimp only); omega, hJ.2.1.trans hsh, by (try dsimp only); omega, hI2⟩) E4 ⟨(Vi (by (try dsimp only); omega)), (by (try dsimp only); rw [← e1]; rfl), (Vi (by (try dsimp only); omega)), trivial⟩
 obtain rfl : i = l.length := by omega
 refine zaI (id := 0) rfl <| SR <| ML rfl <| CN (zau zb2 zhg .nil ?_)
 refine AL rfl <| CN (SO (v := gII _ _) hst zb2 rfl rfl .u2 fun w hst => ?_)
 refine NL <| zat Tryd.func35 rfl (TP (v := .slice _ _ _) rfl) (zaM (vs := lII _ _) rfl zb2 rfl rfl (zag (n := 2) (hst.objL Q2) _ rfl)) ?_
 replace hst := hst.pick (.cons .u1 (.cons .u0 .nil))
 have hll : l.length = (l.map InstP.L).length := by rw [List.length_map]
 have hS := zfN (bound := bd) (l := (l.map InstP.L)) Om Om
 rw [hJ.2.1, hll, zlo] at hS
 refine ⟨aq, cq, done, ?_, ?_, (St.starCons hst).noD⟩
 ·rw [hS]
 ·rw [hS, if_pos rfl, hJ.2.2.2, hll, List.take_length]
end Go.SK
namespace Go.SK
open Go Go.Proofs
theorem zhZ : TyF Tryd.prog 33 (.struct (za8 Tryd.prog 33)) 3 32 [.int .u32 0, .int .u32 0, .slice none 0 0] := zaZ Kr Kr
theorem ent35 : zaB Tryd.prog 35 := ⟨Tryd.f35, _, Tryd.func35, Kr, rfl⟩
end Go.SK
namespace Go.SK
open Go Go.Proofs
open Go.RowKit
theorem zmh (gn bd : Int) (l : List InstP) (ao : Option Addr) (cp : Nat) {se sa : Int} (hS : za7 bd (l.map InstP.L) = (se, sa)) (w : World) (hA : (Res.rmod ao l).holds w) (hl : l.length ≤ 3000000000000) (hop : ∀ i ∈ l, 0 ≤ i.op) (hsm : ∀ i ∈ l, (i.args.map zaD).sum ≤ 900000000) (hla : ∀ i ∈ l, ∀ a ∈ i.args, a.s.length ≤ 100000000000) : Ret Tryd.prog 35 #[.agg #[.int .u32 gn, .int .u32 bd, .slice ao l.length cp]] w (fun v w' => ∃ ro rc done, v = .tuple #[.slice ro done.length rc, .agg #[.int .i64 se, .int .i64 sa]] ∧ done.map RawP.L = (if se = 0 then zhn bd (l.map InstP.L) else []) ∧ St w NoM [Res.oraws 116 22 ro rc done] [] w') := by
 have h := zn5 gn bd l ao cp w hA hl hop hsm hla
 rw [hS] at h; exact h
theorem zmj (gn bd : Int) (l : List InstP) (ao : Option Addr) (cp : Nat) (w : World) (hA : (Res.rmod ao l).holds w) (hl : l.length ≤ 3000000000000) (hop : ∀ i ∈ l, 0 ≤ i.op) (hsm : ∀ i ∈ l, (i.args.map zaD).sum ≤ 900000000) (hla : ∀ i ∈ l, ∀ a ∈ i.args, a.s.length ≤ 100000000000) : Ret Tryd.prog 16 #[.agg #[.int .u32 gn, .int .u32 bd, .slice ao l.length cp]] w (fun v w' => v = .agg #[.int .i64 (za7 bd (l.map InstP.L)).1, .int .i64 (za7 bd (l.map InstP.L)).2] ∧ St w NoM [] [] w') := by
 refine zaq (args := [.agg #[.int .u32 gn, .int .u32 bd, .slice ao l.length cp]]) Tryd.func16 rfl rfl rfl ?_
 have hst : St w NoM [] [Res.rmod ao l] w := St.init_D hA
 clear hA
 obtain ⟨se, sa, hS⟩ : ∃ se sa, za7 bd (l.map InstP.L) = (se, sa) := ⟨_, _, rfl⟩
 refine SR <| CN <| zbf (v := zgS _ _ _ _ _) hst rfl rfl fun w b1 hst => CN <| zaz hst zb2 fun w b2 hst => NSR <| CN <| zaA (vs := zoh _ _ _ _ _) zhZ rfl rfl rfl (zag (n := 3) (hst.objL Q1) _ rfl) <| CN (zao (v1 := zgS _ _ _ _ _) ent35 rfl rfl ((zmh _ _ _ _ _ hS _ (hst.hD _ Q0) hl hop hsm hla).mono fun v w hp => ?_))
 obtain ⟨aR, cR, done, rfl, hd, hp⟩ := hp
 replace hst : St _ _ (_ :: _) _ _ := hst.call0 hp
 clear hp
 refine CN <| zad (v := .tuple #[.slice _ _ _, gII _ _]) rfl <| CN <| Ex (.slice _ _ _) rfl rfl <| CN <| Ex (gII _ _) rfl rfl <| CN <| zaz hst zb2 fun w b4 hst => AL rfl <| CN (SO (v := gII _ _) hst zb2 rfl rfl .u0 fun w hst => ?_)
 refine NSR <| CN <| zaA (vs := lII _ _) zb2 rfl rfl rfl (zag (n := 2) (hst.objL Q0) _ rfl) <| CN (SO (v := gII _ _) hst zb2 rfl rfl .u2 fun w hst => ?_)
 refine NL <| zac Tryd.func16 rfl (zaM (vs := lII _ _) rfl zb2 rfl rfl (zag (n := 2) (hst.objL Q2) _ rfl)) ?_
 rw [hS]
 exact ⟨rfl, hst.pure⟩
end Go.SK
namespace Go.SK
open Go Go.Proofs
open Go.RowKit
theorem zkk (gn bd : Int) (l : List InstP) (ao : Option Addr) (cp : Nat) {se sa : Int} (hS : za7 bd (l.map InstP.L) = (se, sa)) (w : World) (hA : (Res.rmod ao l).holds w) (hl : l.length ≤ 3000000000000) (hop : ∀ i ∈ l, 0 ≤ i.op) (hsm : ∀ i ∈ l, (i.args.map zaD).sum ≤ 900000000) (hla : ∀ i ∈ l, ∀ a ∈ i.args, a.s.length ≤ 100000000000) : Ret Tryd.prog 16 #[.agg #[.int .u32 gn, .int .u32 bd, .slice ao l.length cp]] w (fun v w' => v = .agg #[.int .i64 se, .int .i64 sa] ∧ St w NoM [] [] w') := by
 have h := zmj gn bd l ao cp w hA hl hop hsm hla
 rw [hS] at h; exact h
end Go.SK
namespace Go.SK
open Go Go.Proofs
theorem stf102 : zcz Tryd.prog 102 [(0, 1), (1, 1), (2, 1)] := ⟨za8 Tryd.prog 102, Kr, fun w => Kr⟩
end Go.SK
namespace Go.SK
open Go Go.Proofs
open Go.RowKit
theorem zk4 (n : Int) (w : World) : Ret Tryd.prog 44 #[.int .u32 n] w (fun v w' => v = .agg #[.int .u8 1, .int .u32 n, str []] ∧ St w NoM [] [] w') := by
 refine zaq (args := [.int .u32 n]) Tryd.func44 rfl rfl rfl ?_
 have hst := St.init w
 refine SR <| CN <| zaz hst zbJ fun w b2 hst => NSR <| MU rfl <| CN (zau zbJ stf102 (.c (v := .int .u8 _) rfl (h := (.c (v := .int .u32 _) rfl (h := .nil)))) ?_)
 refine CN (SO (v := zlW _ _ _) hst zbJ rfl rfl .u0 fun w hst => ?_)
 refine NL <| zac Tryd.func44 rfl (zaM (vs := znk _ _ _) rfl zbJ rfl rfl (zag (n := 3) (hst.objL Q0) _ rfl)) ?_
 exact ⟨rfl, hst.pure⟩
end Go.SK
namespace Go.SK
open Go Go.Proofs
theorem ent22 : zaB Tryd.prog 22 := ⟨Tryd.f22, _, Tryd.func22, Kr, rfl⟩
end Go.SK
namespace Go.SK
open Go Go.Proofs
open Go.RowKit
theorem zhO (p : InstP) (w : World) (hA : (Res.rargs p).holds w) (hl : p.args.length ≤ 5864062014806) : Ret Tryd.prog 22 #[.agg #[.int .u16 p.op, .int .u32 p.ty, .int .u32 p.res, .slice p.ao p.args.length p.cap]] w (fun v w' => ∃ bC, v = .agg #[.int .u16 p.op, .int .u32 p.ty, .int .u32 p.res, .slice (some ⟨bC, 0, none⟩) p.args.length p.args.length] ∧ St w NoM [Res.sl (some ⟨bC, 0, none⟩) p.args.length p.args.length 102 3 (p.args.flatMap zhM)] [] w') := by
 refine zaq (args := [.agg #[.int .u16 p.op, .int .u32 p.ty, .int .u32 p.res, .slice p.ao p.args.length p.cap]]) Tryd.func22 rfl rfl rfl ?_
 have hst : St w NoM [] [Res.rargs p] w := St.init_D hA
 clear hA
 refine SR <| CN <| zbf (v := zdg _ _ _ _ _ _) hst rfl rfl fun w b1 hst => CN <| zaz hst ze8 fun w b2 hst => NSR <| CN <| zab zbZ rfl <| CN <| zae (v := .slice _ _ _) zd6 rfl rfl (hst.cellL Q1 rfl) <| CN <| zaK (rest := []) zd6 rfl <| CN (zdY hst zd6 zbJ rfl rfl rfl De Om Om fun w bC hst => ?_)
 rw [zhI (g := zhM) (d := zeroA) (ez := [.int .u8 0, .int .u32 0, str []]) rfl p.args] at hst
 refine AL rfl <| NL <| SQ <| SR <| AI rfl <| NL <| zan <| zaY <| za4 [(1, Pp _ _), (2, Pp _ _), (3, .slice _ _ _)] E3 (fun (i : Nat) => [(4, .int .i64 (i : Int))]) (fun (i : Nat) => [Res.sl (some ⟨bC, 0, none⟩) p.args.length p.args.length 102 3 ((cpG zeroA p.args p.args.length i).flatMap zhM)]) (fun (i : Nat) => i ≤ p.args.length) (fun (i : Nat) => p.args.length - i) (0) hst (Nat.zero_le _) ⟨rfl, trivial⟩ ?_
 intro i f w hst hJ ih1
 refine SQ <| SR <| MI rfl <| CN <| zab zbZ rfl <| CN <| zae (v := .slice _ _ _) zd6 rfl rfl (hst.cellL Q2 rfl) <| CN <| zaK (rest := []) zd6 rfl <| CN <| zaR rfl rfl <| NL <| zaa rfl (fun g2 => ?_) (fun g2 => ?_)
 ·refine zah <| SQ <| zan <| RG <| ML rfl <| MI rfl <| CN <| zab zbZ rfl <| CN <| zae (v := .slice _ _ _) zd6 rfl rfl (hst.cellL Q2 rfl) <| MI rfl <| CN <| zaV zd6 zbJ (hst.hD _ Q0) rfl rfl (by omega) (by omega) <| CN <| zaA (vs := znk _ _ _) zbJ rfl rfl rfl (Res.rs2_cells (m := 3) (hst.hD _ Q0) _ (zbr (g := zhM) (d := zeroA) zcu _ _ (by omega))) <| CN <| zbv zd6 zbJ rfl rfl (by omega) (by omega) <| CN <| zdX (v := zlW _ _ _) hst zbJ rfl rfl rfl rfl rfl .u0 (by simp only [List.length_cons, List.length_nil]; omega) fun w hst => NL <| zaj ?_
  refine RG <| MI rfl <| CN <| zaC rfl rfl rfl zck <| AI rfl <| NL <| zax ?_
  exact ih1 (i + 1) _ w (by omega) (by (try dsimp only); rw [← zpo (g := zhM) (es := 3) zcu (i := i) (x := zhM (p.args.getD i zeroA)) (by omega) rfl]; exact hst) (by omega) E3 ⟨(Vi (by omega)), trivial⟩
 obtain rfl : i = p.args.length := by omega
 rw [zqQ] at hst
 refine zaI (id := 0) rfl <| SR <| ML rfl <| CN <| zab zbZ rfl <| CN (SO (v := .slice _ _ _) hst zd6 rfl rfl .u2 fun w hst => ?_)
 refine NSR <| CN <| zaA (vs := zgu _ _ _ _ _ _) ze8 rfl rfl rfl (zag (n := 4) (hst.objL Q2) _ rfl) <| CN (SO (v := zdg _ _ _ _ _ _) hst ze8 rfl rfl .u1 fun w hst => ?_)
 refine NL <| zac Tryd.func22 rfl (zaM (vs := zgu _ _ _ _ _ _) rfl ze8 rfl rfl (zag (n := 4) (hst.objL Q1) _ rfl)) ?_
 replace hst := hst.pick (.cons .u0 .nil)
 exact ⟨bC, rfl, hst.noD⟩
theorem zdp (ga ba : Int) (l : List InstP) (ao : Option Addr) (cp : Nat) (w : World) (hA : (Res.rmod ao l).holds w) (hl : l.length ≤ 3518437208884) (hla : ∀ i ∈ l, i.args.length ≤ 5864062014806) : Ret Tryd.prog 8 #[.agg #[.int .u32 ga, .int .u32 ba, .slice ao l.length cp]] w (fun v w' => ∃ bC done, v = .agg #[.int .u32 ga, .int .u32 ba, .slice (some ⟨bC, 0, none⟩) done.length done.length] ∧ done.map InstP.L = l.map InstP.L ∧ St w NoM [Res.omod 67 102 (some ⟨bC, 0, none⟩) done.length done] [] w') := by
 refine zaq (args := [.agg #[.int .u32 ga, .int .u32 ba, .slice ao l.length cp]]) Tryd.func8 rfl rfl rfl ?_
 have hst : St w NoM [] [Res.rmod ao l] w := St.init_D hA
 clear hA
 refine SR <| CN <| zbf (v := zgS _ _ _ _ _) hst rfl rfl fun w b1 hst => CN <| zaz hst zhZ fun w b2 hst => NSR <| CN <| zab zbQ rfl <| CN <| zae (v := .slice _ _ _) zd7 rfl rfl (hst.cellL Q1 rfl) <| CN <| zaK (rest := []) zd7 rfl <| CN (zdY hst zd7 ze8 rfl rfl rfl De Om Om fun w bC hst => ?_)
 rw [zmq (g := zdF) (d := zeroI) (ez := [.int .u16 0, .int .u32 0, .int .u32 0, .slice none 0 0]) rfl] at hst
 refine AL rfl <| NL <| SQ <| SQ ?_
 replace hst := hst.starNil
 refine RG <| AI rfl <| NL <| zan <| zaY <| za4 [(1, Pp _ _), (2, Pp _ _), (3, .slice _ _ _)] E3 (fun (q : Nat × List InstP) => [(4, .int .i64 (q.1 : Int))]) (fun (q : Nat × List InstP) => [Res.star (q.2.map (Res.oargs 102)), Res.sl (some ⟨bC, 0, none⟩) l.length l.length 67 4 ((q.2 ++ List.replicate (l.length - q.1) zeroI).flatMap zdF)]) (fun (q : Nat × List InstP) => q.1 ≤ l.length ∧ q.2.length = q.1 ∧ q.2.map InstP.L = (l.take q.1).map InstP.L) (fun (q : Nat × List InstP) => l.length - q.1) ((0, [])) hst ⟨Nat.zero_le _, rfl, rfl⟩ ⟨rfl, trivial⟩ ?_
 intro ⟨i, done⟩ f w hst hJ ih1
 replace hst : St _ _ ([Res.star (done.map (Res.oargs 102)), Res.sl (some ⟨bC, 0, none⟩) l.length l.length 67 4 ((done ++ List.replicate (l.length - i) zeroI).flatMap zdF)] ++ [_, _]) _ _ := hst
 replace hJ : i ≤ l.length ∧ done.length = i ∧ done.map InstP.L = (l.take i).map InstP.L := hJ
 refine zbp (sl := [(4, .int .i64 (i : Int))]) ⟨rfl, trivial⟩ <| SQ <| SR <| MI rfl <| CN <| zab zbQ rfl <| CN <| zae (v := .slice _ _ _) zd7 rfl rfl (hst.cellL Q3 rfl) <| CN <| zaK (rest := []) zd7 rfl <| CN <| zaR rfl rfl <| NL <| zaa rfl (fun g2 => ?_) (fun g2 => ?_)
 ·refine zah <| SQ <| zan <| RG <| ML rfl <| MI rfl <| CN <| zab zbQ rfl <| CN <| zae (v := .slice _ _ _) zd7 rfl rfl (hst.cellL Q3 rfl) <| MI rfl <| CN <| zaV zd7 ze8 (Res.rmod_insts (hst.hD _ Q0)) rfl rfl Om Om <| CN <| zaA (vs := zgu _ _ _ _ _ _) ze8 rfl rfl rfl (Res.rs2_cells (m := 4) (Res.rmod_insts (hst.hD _ Q0)) _ (zbr (g := zdF) (d := zeroI) zci _ _ Om)) <| CN (zao (v1 := zdg _ _ _ _ _ _) ent22 rfl rfl ((zhO _ _ (Res.rmod_argsI (hst.hD _ Q0) Om) (hla _ (zbG Om))).mono fun v w hp => ?_))
  obtain ⟨bN, rfl, hp⟩ := hp
  replace hst := hst.call0 hp
  clear hp
  refine CN <| zbv zd7 ze8 rfl rfl (by omega) (by omega) <| CN <| zdX (v := zdg _ _ _ _ _ _) hst ze8 rfl rfl rfl rfl rfl .u2 (by simp only [List.length_cons, List.length_nil]; omega) fun w hst => NL <| zaj <| RG <| MI rfl <| CN <| zaC rfl rfl rfl zck <| AI rfl <| NL <| zax ?_
  replace hst := hst.pick (.cons .u0 (.cons .u0 (.cons .u0 (.cons .u0 (.cons .u0 .nil)))))
  replace hst := hst.starSnoc
  exact ih1 ((i + 1, done ++ [⟨(l.getD i zeroI).op, (l.getD i zeroI).ty, (l.getD i zeroI).res, some ⟨bN, 0, none⟩, (l.getD i zeroI).args.length, (l.getD i zeroI).args⟩])) _ w (by (try dsimp only); omega) (by (try dsimp only); rw [List.map_append, ← zpn (g := zdF) (es := 4) zci (y := ⟨(l.getD i zeroI).op, (l.getD i zeroI).ty, (l.getD i zeroI).res, some ⟨bN, 0, none⟩, (l.getD i zeroI).args.length, (l.getD i zeroI).args⟩) (x := zdF ⟨(l.getD i zeroI).op, (l.getD i zeroI).ty, (l.getD i zeroI).res, some ⟨bN, 0, none⟩, (l.getD i zeroI).args.length, (l.getD i zeroI).args⟩) hJ.2.1 (by omega) rfl]; exact hst) (⟨by (try dsimp only); omega, by simp [hJ.2.1], by rw [List.map_append, hJ.2.2, zbL (d := zeroI) (by omega), List.map_append]; rfl⟩) E3 ⟨(Vi (by (try dsimp only); omega)), trivial⟩
 obtain rfl : i = l.length := by omega
 rw [Nat.sub_self, List.replicate_zero, List.append_nil done] at hst
 have hdl := hJ.2.1
 have hdn := hJ.2.2
 rw [List.take_length] at hdn
 refine zaI (id := 0) rfl <| SR <| ML rfl <| CN <| zab zbQ rfl <| CN (SO (v := .slice _ _ _) hst zd7 rfl rfl .u3 fun w hst => ?_)
 refine NSR <| CN <| zaA (vs := zoh _ _ _ _ _) zhZ rfl rfl rfl (zag (n := 3) (hst.objL Q3) _ rfl) <| CN (SO (v := zgS _ _ _ _ _) hst zhZ rfl rfl .u2 fun w hst => ?_)
 refine NL <| zac Tryd.func8 rfl (zaM (vs := zoh _ _ _ _ _) rfl zhZ rfl rfl (zag (n := 3) (hst.objL Q2) _ rfl)) ?_
 replace hst := hst.pick (.cons .u1 (.cons .u0 .nil))
 rw [← hdl] at hst
 exact ⟨bC, done, (by rw [hdl]), hdn, (St.starCons hst).noD⟩
end Go.SK
namespace Go.SK
open Go Go.Proofs
theorem ent36 : zaB Tryd.prog 36 := ⟨Tryd.f36, _, Tryd.func36, Kr, rfl⟩
theorem zjT : FldF Tryd.prog 60 0 0 := FldF.of (n := 1) Kr
theorem ent37 : zaB Tryd.prog 37 := ⟨Tryd.f37, _, Tryd.func37, Kr, rfl⟩
theorem ent38 : zaB Tryd.prog 38 := ⟨Tryd.f38, _, Tryd.func38, Kr, rfl⟩
theorem ent16 : zaB Tryd.prog 16 := ⟨Tryd.f16, _, Tryd.func16, Kr, rfl⟩
theorem ty60 : TyF Tryd.prog 60 (.struct (za8 Tryd.prog 60)) 2 32 [.pointer none, .slice none 0 0] := zaZ Kr Kr
theorem ent17 : zaB Tryd.prog 17 := ⟨Tryd.f17, _, Tryd.func17, Kr, rfl⟩
theorem ent20 : zaB Tryd.prog 20 := ⟨Tryd.f20, _, Tryd.func20, Kr, rfl⟩
theorem ent21 : zaB Tryd.prog 21 := ⟨Tryd.f21, _, Tryd.func21, Kr, rfl⟩
end Go.SK
namespace Go.SK
open Go Go.Proofs
open Go.RowKit
theorem zkb {gn bd se sa : Int} {l : List InstP} (hS : za7 bd (l.map InstP.L) = (se, sa)) (ao : Option Addr) (cp : Nat) (w : World) (hA : (Res.rmod ao l).holds w) (hs : Small l) : Ret Tryd.prog 16 #[.agg #[.int .u32 gn, .int .u32 bd, .slice ao l.length cp]] w (fun v w' => v = .agg #[.int .i64 se, .int .i64 sa] ∧ St w NoM [] [] w') :=
 zkk gn bd l ao cp hS w hA hs.len hs.op hs.sum hs.txt
theorem zi2 (b : Nat) (p : Value) (ao : Option Addr) (cp : Nat) (l : Tx) (ts : List TokL) (ao2 : Option Addr) (c2 : Nat) (rT : Res) (hrs : ∀ w : World, rT.holds w → (Res.rs ao2 ts.length 3 (ts.flatMap zfa)).holds w) (w : World) (hG : LxG.holds w) (hR : (BdR 60 5 b p ao cp l).holds w) (hp0 : p = .pointer none ∨ p = .pointer (some ⟨b, 0, none⟩)) (hT : rT.holds w) (hRG : Apart (BdR 60 5 b p ao cp l) LxG) (hRT : Apart (BdR 60 5 b p ao cp l) rT) (hlt : ts.length ≤ 1099511627776) (hwt : wsz ts ≤ 1099511627776) (hl : l.length + (wrS ts).length + 1 ≤ 140737488355328) : Ret Tryd.prog 17 #[.pointer (some ⟨b, 0, none⟩), .slice ao2 ts.length c2] w (fun v w' => ∃ ao' cp', v = .tuple #[] ∧ St w (BdR 60 5 b p ao cp l).foot [BdR 60 5 b (.pointer (some ⟨b, 0, none⟩)) ao' cp' (l ++ wrS ts ++ [10])] [] w') := by
 refine zaq (args := [.pointer (some ⟨b, 0, none⟩), .slice ao2 ts.length c2]) Tryd.func17 rfl rfl rfl ?_
 have hst : St w (BdR 60 5 b p ao cp l).foot [BdR 60 5 b p ao cp l] [LxG, rT] w := St.enter1 hR (by simp only [List.forall_mem_cons]; exact ⟨hG, hT, fun _ h => absurd h List.not_mem_nil⟩) (by simp only [List.forall_mem_cons]; exact ⟨hRG, hRT, fun _ h => absurd h List.not_mem_nil⟩)
 refine SR <| ML rfl <| CN <| zao (v1 := .slice _ _ _) ent36 rfl rfl <| Ret.det (zkd ts _ _ _ (hst.hD _ Q0) (hrs _ (hst.hD _ Q1)) hlt hwt) hst fun w hst => CN <| zad (v := .tuple #[str _, .int .i64 _]) rfl <| CN <| Ex (str _) rfl rfl <| CN <| Ex (.int .i64 _) rfl rfl <| AS rfl <| AI rfl <| NSR <| MP rfl <| CN <| zay rfl <| CN (zab zjT rfl ?_)
 refine MS rfl <| CN (zaF (v1 := Pp _ _) (v2 := str _) ent37 rfl rfl rfl ((zfp b p ao cp l (wrS ts) _ (hst.hL _ Q0) hp0 Om).mono fun v w hp => ?_))
 obtain ⟨ao1, cp1, rfl, hp⟩ := hp
 replace hst : St _ _ [_] _ _ := hst.call1 hp
 clear hp
 refine NR <| MP rfl <| CN <| zay rfl <| CN <| zab zjT rfl <| CN (zaF (v1 := Pp _ _) (v2 := .int .u8 _) ent38 rfl rfl rfl ((zgx b _ ao1 cp1 (l ++ wrS ts) _ (hst.hL _ Q0) (.inr rfl) (by rw [List.length_append]; omega)).mono fun v w hp => ?_))
 obtain ⟨ao3, cp3, rfl, hp⟩ := hp
 replace hst : St _ _ [_] _ _ := hst.call1 hp
 clear hp
 refine NL <| zdv Tryd.func17 rfl  ?_
 replace hst := hst.pick (.cons .u0 .nil)
 exact ⟨_, _, rfl, hst.noD⟩
theorem znV (gn bd : Int) (l : List InstP) (ao : Option Addr) (cp : Nat) (w : World) (hG : LxG.holds w) (hA0 : (Res.rmod ao l).holds w) (hs : Small l) (hu : ∀ x ∈ l, x.L.U32) (hgn : 0 ≤ gn ∧ gn < 4294967296) (hbd : 0 ≤ bd ∧ bd < 4294967296) : Ret Tryd.prog 7 #[.agg #[.int .u32 gn, .int .u32 bd, .slice ao l.length cp]] w (fun v w' => v = .tuple #[str (zce gn bd (l.map InstP.L)).1, .agg #[.int .i64 (zce gn bd (l.map InstP.L)).2.1, .int .i64 (zce gn bd (l.map InstP.L)).2.2]] ∧ St w NoM [] [] w') := by
 refine zaq (args := [.agg #[.int .u32 gn, .int .u32 bd, .slice ao l.length cp]]) Tryd.func7 rfl rfl rfl ?_
 have hst : St w NoM [] [LxG, Res.rmod ao l] w := St.init_Ds (by simp only [List.forall_mem_cons]; exact ⟨hG, hA0, fun _ h => absurd h List.not_mem_nil⟩)
 have hln := hs.len
 refine SR <| CN <| zbf (v := zgS _ _ _ _ _) hst rfl rfl fun w b1 hst => AS rfl <| CN <| zaz hst zb2 fun w b3 hst => NL <| SQ <| SR <| CN (zaA (vs := zoh _ _ _ _ _) zhZ rfl rfl rfl (zag (n := 3) (hst.objL Q1) _ rfl) ?_)
 obtain ⟨se, sa, hS⟩ : ∃ se sa, za7 bd (l.map InstP.L) = (se, sa) := ⟨_, _, rfl⟩
 refine CN <| zao (v1 := zgS _ _ _ _ _) ent16 rfl rfl <| Ret.det (zkb hS _ _ _ (hst.hD _ Q1) hs) hst fun w hst => CN <| zaz hst zb2 fun w b4 hst => CN (SO (v := gII _ _) hst zb2 rfl rfl .u0 fun w hst => ?_)
 refine NSR <| CN <| zab zf2 rfl <| CN <| zae (v := .int .i64 _) ty25 rfl rfl (hst.cellL Q0 rfl) <| CN <| zbc rfl rfl <| NL <| zaa rfl (fun g1 => ?_) (fun g1 => ?_)
 ·refine SQ <| RunD.start [] hst (bs := [0, 0, 3]) (ds := [some 13, some 2, none]) ⟨Kr, Kr, Kr⟩ (fun tab2 => ?_)
  refine DO tab2 1 (fun f' L' w' hc=> zaA (vs := lII _ _) zb2 rfl (hc.old (v := Pp _ _) rfl rfl rfl) rfl (zag (n := 2) (hc.st.objL (List.mem_append_right _ Q0)) _ rfl) hc.z) <| DO tab2 2 (fun _ _ _ hc => zaf (v := str _) rfl hc.z) <| RunD.fin zaE tab2 hst rfl (fun f3 w R6 hs4 hd5 hr7 hst => ?_)
  obtain ⟨h13_, r0⟩ := hd5 0 13 rfl rfl
  obtain ⟨h2_, r1⟩ := hd5 1 2 rfl rfl
  simp only [rg2, Fc, Fn, Mc, Mn, r0, r1, Na, An, Ca] at hst
  refine zaL (sl := [(2, str _), (3, Pp _ _), (13, gII _ _)]) ⟨h2_, (hs4 3 rfl).trans rfl, h13_, trivial⟩ ?_
  clear hs4 hd5 hr7 tab2
  refine CN (SO (v := gII _ _) hst zb2 rfl rfl .u1 fun w hst => ?_)
  refine NL <| zat Tryd.func7 rfl (TP (v := str _) rfl) (zaM (vs := lII _ _) rfl zb2 rfl rfl (zag (n := 2) (hst.objL Q1) _ rfl)) ?_
  rw [zoB (gn := gn) (by rw [hS]; exact g1), hS]
  exact ⟨rfl, hst.pure⟩
 have hs0 : (za7 bd (l.map InstP.L)).1 = 0 := by rw [hS]; exact Nn g1
 refine zah <| SR <| CN <| zaz hst ty60 fun w b5 hst => NL <| SQ ?_
 replace hst := hst.pushNil 5 1
 replace hst := hst.pick (.cons .u1 (.cons .u0 (.cons .u0 (.cons .u0 (.cons .u0 .nil)))))
 replace hst : St _ _ (BdR 60 5 b5 (.pointer none) none 0 ([] : Tx) :: _) _ _ := St.pack (L1 := [_, _]) hst
 have hwh := zo8 (gn := gn) (bd := bd) hgn hbd
 have hjl := fun i => zlm (gn := gn) hs0 hgn hbd.1 hu i
 have hj0 := hjl 0
 rw [zfM, List.length_append] at hj0
 refine RunD.start [] hst (bs := [0, 0, 2, 7, 0, 16, 63, 127, 255]) (ds := [some 14, some 15, some 16, some 17, some 18, some 19, some 20, some 21, some 22]) ⟨Kr, Kr, Kr⟩ (fun tab8 => ?_)
 refine DO tab8 1 (fun f' L' w' hc=> zao (v1 := str _) zqM rfl rfl ((zge modW _).mono fun v w hp => ⟨[], ⟨hp.1, rfl⟩, hc.st.keepc hp.2⟩)) <| DO tab8 2 (fun f' L' w' hc=> zab zjU (hc.old (v := Pp _ _) rfl rfl rfl) hc.z) <| DO tab8 3 (fun f' L' w' hc=> zae (v := .int .u32 _) zbT rfl (hc.d 1 rfl rfl rfl rfl) (hc.st.cellL (List.mem_append_right _ Q3) rfl) hc.z) <| DO tab8 4 (fun f' L' w' hc=> zao (v1 := .int .u32 _) zqL rfl (hc.d 2 rfl rfl rfl rfl) ((zdW gn hgn.1 hgn.2 _ (hc.st.hD _ Q0)).mono fun v w hp => ⟨[], ⟨hp.1, rfl⟩, hc.st.keepc hp.2⟩)) <| DO tab8 5 (fun f' L' w' hc=> zab zeZ (hc.old (v := Pp _ _) rfl rfl rfl) hc.z) <| DO tab8 6 (fun _ _ _ hc => zae (v := .int .u32 _) zbT rfl (hc.d 4 rfl rfl rfl rfl) (hc.st.cellL (List.mem_append_right _ Q3) rfl) hc.z) <| RunD.fin zaE tab8 hst rfl (fun f9 w R12 hs10 hd11 hr13 hst => ?_)
 obtain ⟨h14_, r0⟩ := hd11 0 14 rfl rfl
 obtain ⟨h15_, r1⟩ := hd11 1 15 rfl rfl
 obtain ⟨h16_, r2⟩ := hd11 2 16 rfl rfl
 obtain ⟨h17_, r3⟩ := hd11 3 17 rfl rfl
 obtain ⟨h18_, r4⟩ := hd11 4 18 rfl rfl
 obtain ⟨h19_, r5⟩ := hd11 5 19 rfl rfl
 simp only [rg6, Fc, Fn, Mc, Mn, r0, r1, r2, r3, r4, r5, Na, An, Ca] at hst
 refine zaL (sl := [(1, Pp _ _), (3, Pp _ _), (5, Pp _ _), (14, zgT _ _ _), (17, zgT _ _ _), (19, .int .u32 _)]) ⟨(hs10 1 rfl).trans rfl, (hs10 3 rfl).trans rfl, (hs10 5 rfl).trans rfl, h14_, h17_, h19_, trivial⟩ ?_
 clear hs10 hd11 hr13 tab8
 refine CN <| zao (v1 := .int .u32 _) zqL rfl rfl <| Ret.det (zdW bd hbd.1 hbd.2 _ (hst.hD _ Q0)) hst fun w hst => CN (zaG (z0 := [.int .u8 0, str [], .int .i64 0, .int .u8 0, str [], .int .i64 0, .int .u8 0, str [], .int .i64 0]) hst zmn zds rfl rfl Kr (.c (v := zgT _ _ _) rfl (h := (.c (v := zgT _ _ _) rfl (h := (.c (v := zgT _ _ _) rfl (h := .nil)))))) fun w b21 hst => ?_)
 replace hst := hst.pick (.cons .u1 (.cons .u0 (.cons .u0 (.cons .u0 (.cons .u0 .nil)))))
 refine CN (zaF (v1 := Pp _ _) (v2 := .slice _ _ _) ent17 rfl rfl rfl ((zi2 b5 (.pointer none) none 0 [] (znr gn bd) (some ⟨b21, 0, none⟩) _ (Res.row b21 43 ((znr gn bd).flatMap zfa)) (fun w h => row_rs h rfl) _ (hst.hD _ Q0) (hst.hL _ Q0) (.inl rfl) (hst.hL _ Q1) (hst.sepD _ Q0 _ Q0) ((List.pairwise_cons.1 hst.sep).1 _ Q0) (by show 3 ≤ 1099511627776; omega) (by omega) (by simp only [List.length_nil, List.length_cons] at hj0 ⊢; omega)).mono fun v w hp => ?_))
 obtain ⟨aq0, cq0, rfl, hp⟩ := hp
 replace hst : St _ _ (_ :: _) _ _ := hst.call1 hp
 clear hp
 replace hst := hst.drop .u1
 refine NL <| zak [(1, Pp _ _), (3, Pp _ _), (5, Pp _ _)] E3 fun f => SQ <| SR <| CN <| zab zbQ rfl <| CN <| zae (v := .slice _ _ _) zd7 rfl rfl (hst.cellL Q3 rfl) <| CN <| zaK (rest := []) zd7 rfl <| MI rfl <| NL <| zan <| zaY <| za4 [(3, Pp _ _), (5, Pp _ _), (24, .slice _ _ _), (25, .int .i64 _)] E4 (fun (qq : Nat × Option Addr × Nat) => [(26, .int .i64 (qq.1 : Int))]) (fun (qq : Nat × Option Addr × Nat) => [BdR 60 5 b5 (.pointer (some ⟨b5, 0, none⟩)) qq.2.1 qq.2.2 (zdb gn bd (l.map InstP.L) qq.1)]) (fun (qq : Nat × Option Addr × Nat) => qq.1 ≤ l.length) (fun (qq : Nat × Option Addr × Nat) => l.length - qq.1) ((0, aq0, cq0)) (by (try dsimp only); rw [zfM]; exact hst) (Nat.zero_le _) ⟨rfl, trivial⟩ ?_
 intro ⟨i, aq, cq⟩ f w hst hJ ih14
 replace hst : St _ _ ([BdR 60 5 b5 (.pointer (some ⟨b5, 0, none⟩)) aq cq (zdb gn bd (l.map InstP.L) i)] ++ [_, _, _]) _ _ := hst
 replace hJ : i ≤ l.length := hJ
 refine zbp (sl := [(26, .int .i64 (i : Int))]) ⟨rfl, trivial⟩ <| SR <| CN <| zaR rfl rfl <| NL <| SQ <| zaa rfl (fun g15 => ?_) (fun g15 => ?_)
 ·have hi : i < l.length := by omega
  have hym : (l.getD i zeroI) ∈ l := zbG hi
  have hyu := hu _ hym
  have hyo := hs.op _ hym
  have hys := hs.sum _ hym
  have hyw := zlh hyu hys
  have hyn := zll (gn := gn) hi hs0 hbd.1 hu
  refine zah <| SQ <| zan <| SR <| CN <| zaV zd7 ze8 (Res.rmod_insts (hst.hD _ Q1)) rfl rfl Om Om <| CN <| zaA (vs := zgu _ _ _ _ _ _) ze8 rfl rfl rfl (Res.rs2_cells (m := 4) (Res.rmod_insts (hst.hD _ Q1)) _ (zbr (g := zdF) (d := zeroI) zci _ _ Om)) <| CN <| zaz hst ze8 fun w b7 hst => CN (SO (v := zdg _ _ _ _ _ _) hst ze8 rfl rfl .u0 fun w hst => ?_)
  refine NR <| CN <| zaA (vs := zgu _ _ _ _ _ _) ze8 rfl rfl rfl (zag (n := 4) (hst.objL Q0) _ rfl) <| CN (zao (v1 := zdg _ _ _ _ _ _) ent20 rfl rfl ((zj6 (l.getD ((i : Int).toNat) zeroI) _ (hst.hD _ Q0) (Res.rmod_argsI (hst.hD _ Q1) hi) hyu hyo hys).mono fun v w hp => ?_))
  obtain ⟨aoK, cpK, rfl, hp⟩ := hp
  replace hst : St _ _ (_ :: _) _ _ := hst.call0 hp
  clear hp
  replace hst := hst.pick (.cons .u2 (.cons .u0 (.cons .u0 (.cons .u0 (.cons .u0 (.cons .u0 .nil))))))
  refine CN (zaF (v1 := Pp _ _) (v2 := .slice _ _ _) ent17 rfl rfl rfl ((zi2 b5 (.pointer (some ⟨b5, 0, none⟩)) aq cq (zdb gn bd (l.map InstP.L) i) (zeL (l.getD i zeroI).L) aoK _ _ (fun w h => Res.rs_of_sl h) _ (hst.hD _ Q0) (hst.hL _ Q0) (.inr rfl) (hst.hL _ Q1) (hst.sepD _ Q0 _ Q0) ((List.pairwise_cons.1 hst.sep).1 _ Q0) hyw.2 hyw.1 (by have h1 := congrArg List.length hyn.1; simp only [List.length_append, List.length_cons, List.length_nil] at h1; have h2 := hjl (i + 1); show (zdb gn bd (l.map InstP.L) i).length + (wrS (zeL (l.getD i zeroI).L)).length + 1 ≤ _; omega)).mono fun v w hp => ?_))
  obtain ⟨aq2, cq2, rfl, hp⟩ := hp
  replace hst : St _ _ (_ :: _) _ _ := hst.call1 hp
  clear hp
  rw [hyn.1] at hst
  refine NL <| zaj <| RG <| CN <| zaC rfl rfl rfl zck <| MI rfl <| NL <| zax ?_
  replace hst := hst.pick (.cons .u0 (.cons .u2 (.cons .u2 (.cons .u2 .nil))))
  exact ih14 ((i + 1, aq2, cq2)) _ w (Od) hst (Od) E4 ⟨(Vi Od), trivial⟩
 have hi : i = l.length := by omega
 refine zaI (id := 0) rfl <| SR <| CN (zab zjT rfl ?_)
 replace hst := hst.pick (.cons .u0 (.cons .u0 (.cons .u0 (.cons .u0 .nil))))
 refine CN (zao (v1 := Pp _ _) ent21 rfl rfl ((zka b5 _ aq cq _ _ (hst.hL _ Q0) zoC).mono fun v w hp => ?_))
 obtain ⟨rfl, hp⟩ := hp
 replace hst : St _ _ _ _ _ := hst.call1 hp
 clear hp
 rw [List.nil_append] at hst
 refine CN (zau zb2 zhg .nil ?_)
 refine AS rfl <| CN (SO (v := gII _ _) hst zb2 rfl rfl .u1 fun w hst => ?_)
 refine NL <| zat Tryd.func7 rfl (TP (v := str _) rfl) (zaM (vs := lII _ _) rfl zb2 rfl rfl (zag (n := 2) (hst.objL Q1) _ rfl)) ?_
 rw [zh4 (gn := gn) hs0, List.length_map, ← hi]
 exact ⟨rfl, hst.pure⟩
theorem ze5 {gn bd se sa : Int} {l : List InstP} {x : Tx} (hT : zce gn bd (l.map InstP.L) = (x, (se, sa))) (ao : Option Addr) (cp : Nat) (w : World) (hG : LxG.holds w) (hA0 : (Res.rmod ao l).holds w) (hs : Small l) (hu : ∀ x ∈ l, x.L.U32) (hgn : 0 ≤ gn ∧ gn < 4294967296) (hbd : 0 ≤ bd ∧ bd < 4294967296) : Ret Tryd.prog 7 #[.agg #[.int .u32 gn, .int .u32 bd, .slice ao l.length cp]] w (fun v w' => v = .tuple #[str x, .agg #[.int .i64 se, .int .i64 sa]] ∧ St w NoM [] [] w') := by
 have h := znV gn bd l ao cp w hG hA0 hs hu hgn hbd
 rw [hT] at h; exact h
end Go.SK
namespace Go.SK
open Go Go.Proofs
theorem stf67 : zcz Tryd.prog 67 [(0, 1), (1, 1), (2, 1), (3, 1)] := ⟨za8 Tryd.prog 67, Kr, fun w => Kr⟩
theorem stf33 : zcz Tryd.prog 33 [(0, 1), (1, 1), (2, 1)] := ⟨za8 Tryd.prog 33, Kr, fun w => Kr⟩
theorem ent44 : zaB Tryd.prog 44 := ⟨Tryd.f44, _, Tryd.func44, Kr, rfl⟩
theorem ent23 : zaB Tryd.prog 23 := ⟨Tryd.f23, _, Tryd.func23, Kr, rfl⟩
theorem ent7 : zaB Tryd.prog 7 := ⟨Tryd.f7, _, Tryd.func7, Kr, rfl⟩
end Go.SK
namespace Go.SK
open Go Go.Proofs
open Go.RowKit
theorem zpy  (w : World) : Ret Tryd.prog 23 #[] w (fun v w' => ∃ ro rc dm, v = .agg #[.int .u32 7, .int .u32 9, .slice ro dm.length rc] ∧ dm.map InstP.L = oneL ∧ St w NoM [Res.omod 67 102 ro rc dm] [] w') := by
 refine zaq (args := []) Tryd.func23 rfl rfl rfl ?_
 have hst := St.init w
 refine SR <| CN <| zaz hst zhZ fun w b0 hst => NSR <| CN (zau zhZ stf33 (.c (v := .int .u32 _) rfl (h := (.c (v := .int .u32 _) rfl (h := .nil)))) ?_)
 refine CN <| zaz hst zhZ fun w b1 hst => CN (SO (v := zgS _ _ _ _ _) hst zhZ rfl rfl .u0 fun w hst => ?_)
 refine NL <| SQ <| RunD.start [] hst (bs := [0, 1, 0, 4, 12, 28, 60, 127, 255, 511]) (ds := [some 3, some 4, some 5, some 6, some 7, some 8, some 9, some 10, some 11, none]) ⟨Kr, Kr, Kr⟩ (fun tab1 => ?_)
 refine DO tab1 1 (fun f' L' w' hc=> zab zbQ (hc.old (v := Pp _ _) rfl rfl rfl) hc.z) <| DO tab1 2 (fun f' L' w' hc=> zae (v := .slice _ _ _) zd7 rfl (hc.d 0 rfl rfl rfl rfl) (hc.st.cellL (List.mem_append_right _ Q0) rfl) hc.z) <| DO tab1 3 (fun f' L' w' hc=> zao (v1 := .int .u32 _) ent44 rfl rfl ((zk4 _ _).mono fun v w hp => ⟨[], ⟨hp.1, rfl⟩, hc.st.keepc hp.2⟩)) <| DO tab1 4 (fun f' L' w' hc=> zao (v1 := .int .u32 _) ent44 rfl rfl ((zk4 _ _).mono fun v w hp => ⟨[], ⟨hp.1, rfl⟩, hc.st.keepc hp.2⟩)) <| RunD.op (fun v rs => ∃ b, v = .slice (some ⟨b, 0, none⟩) 2 2 ∧ rs = [Res.row b 102 ([.int .u8 1, .int .u32 3, str [], .int .u8 1, .int .u32 4, str []])]) tab1 5 (fun _ _ _ hc => zaG (z0 := [.int .u8 0, .int .u32 0, str [], .int .u8 0, .int .u32 0, str []]) hc.st zd6 zbJ rfl rfl Kr (.c (v := zlW _ _ _) (hc.d 2 rfl rfl rfl rfl) (h := (.c (v := zlW _ _ _) (hc.d 3 rfl rfl rfl rfl) (h := .nil)))) fun w b hst => ⟨[_], ⟨b, rfl, rfl⟩, hst⟩) ?_
 refine zk2 (fun g v rs => (∀ b, g 7 = .slice (some ⟨b, 0, none⟩) 2 2 → v = .agg #[.int .u16 128, .int .u32 1, .int .u32 2, .slice (some ⟨b, 0, none⟩) 2 2]) ∧ rs = []) tab1 6 (fun _ _ _ hc => by obtain ⟨_, _, q1, _⟩ := hc.dep 4 7 rfl rfl; obtain ⟨b, h7, _⟩ := q1; exact zau ze8 stf67 (.c (v := .int .u16 128) rfl (h := (.c (v := .int .u32 1) rfl (h := (.c (v := .int .u32 2) rfl (h := (.c (v := .slice _ _ _) (evs h7 rfl) (h := .nil)))))))) ⟨[], fun g hg => ⟨fun b2 e => (by rw [hg 4 7 rfl rfl, h7] at e; cases e; rfl), rfl⟩, hc.st⟩) ?_
 refine zk2 (fun g v rs => ∃ c, v = .slice (some ⟨c, 0, none⟩) 1 1 ∧ ∀ b, g 7 = .slice (some ⟨b, 0, none⟩) 2 2 → rs = [Res.row c 67 [.int .u16 128, .int .u32 1, .int .u32 2, .slice (some ⟨b, 0, none⟩) 2 2]]) tab1 7 (fun _ _ _ hc => by obtain ⟨_, _, q1, _⟩ := hc.dep 4 7 rfl rfl; obtain ⟨b, h7, _⟩ := q1; obtain ⟨g5, _, q2, hg5, _⟩ := hc.dep 5 8 rfl rfl; have h8 := q2.1 b ((hg5 4 7 rfl rfl).trans h7); exact zaG (z0 := [.int .u16 0, .int .u32 0, .int .u32 0, .slice none 0 0]) hc.st zd7 ze8 rfl rfl (by kernel_rfl) (.c (v := zdg _ _ _ _ _ _) (evs h8 rfl) (h := .nil)) fun w c hst => ⟨[_], fun g hg => ⟨c, rfl, fun b2 e => (by rw [hg 4 7 rfl rfl, h7] at e; cases e; rfl)⟩, hst⟩) ?_
 refine RunD.fin zaE tab1 hst rfl (fun f2 w R5 hs3 hd4 hr6 hst => ?_)
 obtain ⟨h3_, r0⟩ := hd4 0 3 rfl rfl
 obtain ⟨h4_, r1⟩ := hd4 1 4 rfl rfl
 obtain ⟨h5_, r2⟩ := hd4 2 5 rfl rfl
 obtain ⟨h6_, r3⟩ := hd4 3 6 rfl rfl
 obtain ⟨b7, h7_, r4⟩ := hd4 4 7 rfl rfl
 obtain ⟨h8_, r5⟩ := hd4 5 8 rfl rfl
 replace h8_ := h8_ b7 ((DrawTab.mask tab1 _ (j := 5) (l := 4) (t := 7) rfl rfl).trans h7_)
 obtain ⟨b9, h9_, r6⟩ := hd4 6 9 rfl rfl
 replace r6 := r6 b7 ((DrawTab.mask tab1 _ (j := 6) (l := 4) (t := 7) rfl rfl).trans h7_)
 simp only [rg7, Fc, Fn, Mc, Mn, r0, r1, r2, r3, r4, r5, r6, Na, An, Ca] at hst
 refine zaL (sl := [(0, Pp _ _), (1, Pp _ _), (4, .slice _ _ _), (9, .slice _ _ _)]) ⟨(hs3 0 rfl).trans rfl, (hs3 1 rfl).trans rfl, h4_, h9_, trivial⟩ ?_
 clear hs3 hd4 hr6 tab1
 replace hst := hst.pushNil 67 4
 refine CN (zaW (news := (zgu _ _ _ _ _ _)) hst zd7 ze8 rfl rfl .u0 rfl rfl rfl (zag (n := 4) (hst.objL Q2) _ rfl) rfl rfl Om fun w ao7 cp8 hst => ?_)
 replace hst := hst.drop .u2
 refine CN <| zab zbQ rfl <| CN (SO (v := .slice _ _ _) hst zd7 rfl rfl .u2 fun w hst => ?_)
 refine NSR <| CN <| zaA (vs := zoh _ _ _ _ _) zhZ rfl rfl rfl (zag (n := 3) (hst.objL Q2) _ rfl) <| CN (SO (v := zgS _ _ _ _ _) hst zhZ rfl rfl .u3 fun w hst => ?_)
 refine NL <| zac Tryd.func23 rfl (zaM (vs := zoh _ _ _ _ _) rfl zhZ rfl rfl (zag (n := 3) (hst.objL Q3) _ rfl)) ?_
 replace hst := hst.pick (.cons .u1 (.cons .u0 (.cons .u0 (.cons .u0 .nil))))
 replace hst := St.rowSl (n := 2) (es := 3) hst rfl De
 replace hst := hst.pick (.cons .u1 (.cons .u0 .nil))
 exact ⟨_, _, [⟨128, 1, 2, some ⟨b7, 0, none⟩, 2, [⟨1, 3, []⟩, ⟨1, 4, []⟩]⟩], rfl, rfl, (St.pack (L1 := [_, _]) (L2 := []) hst)⟩
theorem ze4  (w : World) (hG : LxG.holds w) : Ret Tryd.prog 9 #[] w (fun v w' => v = .bool true ∧ St w NoM [] [] w') := by
 refine zaq (args := []) Tryd.func9 rfl rfl rfl ?_
 have hst : St w NoM [] [LxG] w := St.init_Ds (by simp only [List.forall_mem_cons]; exact ⟨hG, fun _ h => absurd h List.not_mem_nil⟩)
 refine SR <| AB rfl <| NSR <| CN (zeC  ent23 rfl  ((zpy _).mono fun v w hp => ?_))
 obtain ⟨aO1, cO1, dO1, rfl, hdO1, hp⟩ := hp
 replace hst : St _ _ (_ :: _) _ _ := hst.call0 hp
 clear hp
 refine CN <| zao (v1 := zgS _ _ _ _ _) ent7 rfl rfl <| Ret.det (ze5 (x := oneX) (se := 0) (sa := 0) (by rw [hdO1]; exact zoX) _ _ _ (hst.hD _ Q0) (Res.rmod_of_omod (hst.hL _ Q0)) (Small.one hdO1) (zmF hdO1 zoY) (by decide) (by decide)) hst fun w hst => CN <| zad (v := .tuple #[str _, gII _ _]) rfl <| CN <| Ex (str _) rfl rfl <| CN <| Ex (gII _ _) rfl rfl <| CN <| zaz hst zb2 fun w b2 hst => AS rfl <| CN (SO (v := gII _ _) hst zb2 rfl rfl .u0 fun w hst => ?_)
 refine NSR <| CN <| zab zf2 rfl <| CN <| zae (v := .int .i64 _) ty25 rfl rfl (hst.cellL Q0 rfl) <| CN <| zai rfl rfl <| MB rfl <| zap (d := 11) rfl (fun g1 => ?_) (fun g1 => ?_)
 ·refine TK (t := 11) rfl (Vb (Dt g1)) <| zad (v := str _) rfl <| TK (t := 11) rfl (Vb (Dt g1)) <| zb7 rfl rfl <| CN <| zar (u := .bool _) (Vb (Dt g1)) rfl <| AB rfl <| NL <| zac Tryd.func9 rfl (TP (v := .bool _) rfl) ?_
  exact ⟨Vb (Dt rfl), hst.pure⟩
 exfalso
 exact g1 rfl
end Go.SK
namespace Go.SK
open Go Go.Proofs
theorem ent8 : zaB Tryd.prog 8 := ⟨Tryd.f8, _, Tryd.func8, Kr, rfl⟩
theorem ent9 : zaB Tryd.prog 9 := ⟨Tryd.f9, _, Tryd.func9, Kr, rfl⟩
theorem ent10 : zaB Tryd.prog 10 := ⟨Tryd.f10, _, Tryd.func10, Kr, rfl⟩
end Go.SK
namespace Go.SK
open Go Go.Proofs
open Go.RowKit
theorem zl6 (ga ba : Int) (l : List InstP) (ao : Option Addr) (cp : Nat) (gb bb : Int) (m : List InstP) (bo : Option Addr) (cq : Nat) (w : World) (hG : LxG.holds w) (hA0 : (Res.rmod ao l).holds w) (hA1 : (Res.rmod bo m).holds w) (hsA : Small l) (huA : ∀ x ∈ l, x.L.U32) (hgnA : 0 ≤ ga ∧ ga < 4294967296) (hbdA : 0 ≤ ba ∧ ba < 4294967296) (hsB : Small m) (huB : ∀ x ∈ m, x.L.U32) (hgnB : 0 ≤ gb ∧ gb < 4294967296) (hbdB : 0 ≤ bb ∧ bb < 4294967296) : Ret Tryd.prog 4 #[.agg #[.int .u32 ga, .int .u32 ba, .slice ao l.length cp], .agg #[.int .u32 gb, .int .u32 bb, .slice bo m.length cq]] w (fun v w' => v = .bool true ∧ St w NoM [] [] w') := by
 refine zaq (args := [.agg #[.int .u32 ga, .int .u32 ba, .slice ao l.length cp], .agg #[.int .u32 gb, .int .u32 bb, .slice bo m.length cq]]) Tryd.func4 rfl rfl rfl ?_
 have hst : St w NoM [] [LxG, Res.rmod ao l, Res.rmod bo m] w := St.init_Ds (by simp only [List.forall_mem_cons]; exact ⟨hG, hA0, hA1, fun _ h => absurd h List.not_mem_nil⟩)
 obtain ⟨tx, se, sa, hT⟩ : ∃ tx se sa, zce ga ba (l.map InstP.L) = (tx, (se, sa)) := ⟨_, _, _, rfl⟩
 obtain ⟨ty, sv, sw, hV⟩ : ∃ ty sv sw, zce gb bb (m.map InstP.L) = (ty, (sv, sw)) := ⟨_, _, _, rfl⟩
 refine SR <| CN <| zbf (v := zgS _ _ _ _ _) hst rfl rfl fun w b2 hst => CN <| zbf (v := zgS _ _ _ _ _) hst rfl rfl fun w b3 hst => AB rfl <| NSR <| CN <| zaA (vs := zoh _ _ _ _ _) zhZ rfl rfl rfl (zag (n := 3) (hst.objL Q1) _ rfl) <| CN (zao (v1 := zgS _ _ _ _ _) ent8 rfl rfl ((zdp _ _ l _ _ _ (hst.hD _ Q1) hsA.lenC hsA.laC).mono fun v w hp => ?_))
 obtain ⟨bM1, dM1, rfl, hdM1, hp⟩ := hp
 replace hst : St _ _ (_ :: _) _ _ := hst.call0 hp
 clear hp
 refine CN <| zao (v1 := zgS _ _ _ _ _) ent7 rfl rfl <| Ret.det (ze5 (x := tx) (se := se) (sa := sa) (by rw [hdM1]; exact hT) _ _ _ (hst.hD _ Q0) (Res.rmod_of_omod (hst.hL _ Q0)) (Small.of hdM1 hsA) (zmF hdM1 (mapU huA)) hgnA hbdA) hst fun w hst => CN <| zad (v := .tuple #[str _, gII _ _]) rfl <| CN <| Ex (str _) rfl rfl <| CN <| Ex (gII _ _) rfl rfl <| CN <| zaz hst zb2 fun w b6 hst => AS rfl <| CN (SO (v := gII _ _) hst zb2 rfl rfl .u0 fun w hst => ?_)
 refine NSR <| CN <| zaA (vs := zoh _ _ _ _ _) zhZ rfl rfl rfl (zag (n := 3) (hst.objL Q2) _ rfl) <| CN (zao (v1 := zgS _ _ _ _ _) ent8 rfl rfl ((zdp _ _ m _ _ _ (hst.hD _ Q2) hsB.lenC hsB.laC).mono fun v w hp => ?_))
 obtain ⟨bM2, dM2, rfl, hdM2, hp⟩ := hp
 replace hst : St _ _ (_ :: _) _ _ := hst.call0 hp
 clear hp
 refine CN <| zao (v1 := zgS _ _ _ _ _) ent7 rfl rfl <| Ret.det (ze5 (x := ty) (se := sv) (sa := sw) (by rw [hdM2]; exact hV) _ _ _ (hst.hD _ Q0) (Res.rmod_of_omod (hst.hL _ Q0)) (Small.of hdM2 hsB) (zmF hdM2 (mapU huB)) hgnB hbdB) hst fun w hst => CN <| zad (v := .tuple #[str _, gII _ _]) rfl <| CN <| Ex (str _) rfl rfl <| CN <| Ex (gII _ _) rfl rfl <| CN <| zaz hst zb2 fun w b8 hst => AS rfl <| CN (SO (v := gII _ _) hst zb2 rfl rfl .u0 fun w hst => ?_)
 refine NL <| zak [(2, Pp _ _), (3, Pp _ _), (5, str _), (6, Pp _ _), (7, str _), (8, Pp _ _)] E6 fun f => SQ <| SR <| CN <| zab zf2 rfl <| CN <| zae (v := .int .i64 _) ty25 rfl rfl (hst.cellL Q2 rfl) <| CN <| zbc rfl rfl <| MB rfl <| zap (d := 24) rfl (fun g1 => ?_) (fun g1 => ?_)
 ·refine OM (t := 24) rfl (Vb (Dt g1)) rfl <| OM (t := 24) rfl (Vb (Dt g1)) rfl <| OM (t := 24) rfl (Vb (Dt g1)) rfl <| CN <| zar (u := .bool _) (Vb (Dt g1)) rfl <| NL <| zas (Vb (rfl : true = _)) <| SR <| CN <| zeC  ent9 rfl  <| Ret.det (ze4 _ (hst.hD _ Q0)) hst fun w hst => AB rfl <| NL <| zac Tryd.func4 rfl (TP (v := .bool _) rfl) ?_
  exact ⟨rfl, hst.pure⟩
 refine TK (t := 24) rfl (Vb (Df g1)) <| zab zf2 rfl <| TK (t := 24) rfl (Vb (Df g1)) <| zae (v := .int .i64 _) ty25 rfl rfl (hst.cellL Q0 rfl) <| TK (t := 24) rfl (Vb (Df g1)) <| zbc rfl rfl <| CN <| zam (u := .bool _) (Vb (Df g1)) rfl <| NL <| zaa rfl (fun g2 => ?_) (fun g2 => ?_)
 ·refine SR <| CN <| zeC  ent9 rfl  <| Ret.det (ze4 _ (hst.hD _ Q0)) hst fun w hst => AB rfl <| NL <| zac Tryd.func4 rfl (TP (v := .bool _) rfl) ?_
  exact ⟨rfl, hst.pure⟩
 have hz1 : se = 0 := Nn g1
 have hz2 : sv = 0 := Nn g2
 obtain ⟨hsa, hs1⟩ := (zgF hT).2 hz1
 obtain ⟨hsw, hs2⟩ := (zgF hV).2 hz2
 subst hz1
 subst hz2
 subst hsa
 subst hsw
 have hun := zjt hT hV hs1 hs2 hgnA hgnB hbdA.1 hbdB.1 huA huB
 refine zah <| SR <| MS rfl <| MS rfl <| CN <| zb7 rfl rfl <| CN <| zaA (vs := zoh _ _ _ _ _) zhZ rfl rfl rfl (zag (n := 3) (hst.objL Q5) _ rfl) <| CN <| zaA (vs := zoh _ _ _ _ _) zhZ rfl rfl rfl (zag (n := 3) (hst.objL Q4) _ rfl) <| CN <| zaF (v1 := zgS _ _ _ _ _) (v2 := zgS _ _ _ _ _) ent10 rfl rfl rfl <| Ret.det (zkc ga ba gb bb l m _ _ _ _ _ (hst.hD _ Q1) (hst.hD _ Q2) hsA.len9 hsA.la9) hst fun w hst => CN <| zpL ty4 rfl rfl <| MB rfl <| zcO (d := 37) rfl (fun g3 => ?_) (fun g3 => ?_)
 ·refine TK (t := 37) rfl (Vb g3) (zeC  ent9 rfl  ((ze4 _ (hst.hD _ Q0)).mono fun v w hp => ?_))
  obtain ⟨rfl, hp⟩ := hp
  replace hst := hst.keepc hp
  clear hp
  refine CN <| zar (u := .bool _) (Vb g3) rfl <| AB rfl <| NL <| zac Tryd.func4 rfl (TP (v := .bool _) rfl) ?_
  exact ⟨rfl, hst.pure⟩
 exfalso
 rw [hun] at g3; simp at g3
end Go.SK
