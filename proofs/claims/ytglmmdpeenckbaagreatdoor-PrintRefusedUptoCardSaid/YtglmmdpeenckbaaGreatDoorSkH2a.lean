/-
  Steps of functions, plain law, and walks of functions: what the laws rest on.
-/
import Derived.Test.YtglmmdpeenckbaaGreatDoorSkH0c
set_option linter.unusedVariables false
set_option linter.unusedSimpArgs false
set_option linter.unusedSectionVars false
namespace Go.SK
open Go.RowKit Go.ChangeShapes Go.WideShapes Go.ChangeAt
abbrev ztr (r : RawP) : List Value := [.int .u16 r.op, .slice r.ao r.ws.length r.cap]
theorem zvI (r : RawP) : (ztr r).length = 2 := rfl
def zhm : RawP := ⟨0, none, 0, []⟩
abbrev zpr (r : RawP) : Nat := r.ws.length
def zpL : Nat → Nat → List Nat → Int × Int × Int
  | n, _, [] => ((n : Int), 0, 0)
  | n, i, k :: ks => if k ≥ 65535 then (0, 25, (i : Int)) else if n + 1 + k > 1048576 then (0, 4, (i : Int)) else zpL (n + 1 + k) (i + 1) ks
abbrev cntV (c : Int × Int × Int) : Value := .tuple #[.int .i64 c.1, .agg #[.int .i64 c.2.1, .int .i64 c.2.2]]
theorem zmK {l : List RawP} {n i : Nat} (h : i < l.length) : zpL n i ((l.map zpr).drop i) = if (l.getD i zhm).ws.length ≥ 65535 then (0, 25, (i : Int)) else if n + 1 + (l.getD i zhm).ws.length > 1048576 then (0, 4, (i : Int)) else zpL (n + 1 + (l.getD i zhm).ws.length) (i + 1) ((l.map zpr).drop (i + 1)) := by
  have e : (l.map zpr)[i]'(by simpa using h) = (l.getD i zhm).ws.length := by simp [List.getD, h]
  rw [List.drop_eq_getElem_cons (by simpa using h), e]; rfl
theorem zuy {l : List RawP} {n i : Nat} (h : i < l.length) (h1 : (l.getD i zhm).ws.length ≥ 65535) : zpL n i ((l.map zpr).drop i) = (0, 25, (i : Int)) := by rw [zmK h, if_pos h1]
theorem zux {l : List RawP} {n i : Nat} (h : i < l.length) (h1 : ¬ (l.getD i zhm).ws.length ≥ 65535) (h2 : n + 1 + (l.getD i zhm).ws.length > 1048576) : zpL n i ((l.map zpr).drop i) = (0, 4, (i : Int)) := by rw [zmK h, if_neg h1, if_pos h2]
theorem zww {l : List RawP} {n i : Nat} (h : i < l.length) (h1 : ¬ (l.getD i zhm).ws.length ≥ 65535) (h2 : ¬ n + 1 + (l.getD i zhm).ws.length > 1048576) : zpL n i ((l.map zpr).drop i) = zpL (n + 1 + (l.getD i zhm).ws.length) (i + 1) ((l.map zpr).drop (i + 1)) := by rw [zmK h, if_neg h1, if_neg h2]
theorem zx2 {l : List RawP} {n : Nat} : zpL n l.length ((l.map zpr).drop l.length) = ((n : Int), 0, 0) := by rw [List.drop_of_length_le (by simp)]; rfl
end Go.SK
namespace Go.SK
open Go.RowKit Go.ChangeShapes Go.WideShapes Go.ChangeAt
abbrev Res.oword (Tw : TypeId) (r : RawP) : Res := Res.sl r.ao r.ws.length r.cap Tw 1 (r.ws.flatMap zdE)
abbrev Res.oraws (Tr Tw : TypeId) (ao : Option Addr) (cap : Nat) (l : List RawP) : Res := Res.star (Res.sl ao l.length cap Tr 2 (l.flatMap ztr) :: l.map (Res.oword Tw))
end Go.SK
namespace Go.SK
open Go.RowKit Go.ChangeShapes Go.WideShapes Go.ChangeAt
def zcP (bound : Int) : Nat → Nat → List InstL → Int × Int
  | _, _, [] => (0, 0)
  | n, k, i :: is => if zbu bound i ≠ 0 then (zbu bound i, (k : Int)) else if n + zbT (zbq i.op) i.args > 1048576 then (4, (k : Int)) else zcP bound (n + zbT (zbq i.op) i.args) (k + 1) is
def zbz (bound : Int) (l : List InstL) : Int × Int := if bound = 0 ∨ bound > 65536 then (24, 0) else zcP bound 5 0 l
abbrev zmi (bound : Int) (l : List InstL) : List RawL := l.map fun i => (zis bound i).1
def zhC : InstL := ⟨0, 0, 0, []⟩
section
variable {bound : Int}
theorem zjS {n k : Nat} {l : List InstL} {j : Nat} (h : j < l.length) : zcP bound n k (l.drop j) = if zbu bound (l.getD j zhC) ≠ 0 then (zbu bound (l.getD j zhC), (k : Int)) else if n + zbT (zbq (l.getD j zhC).op) (l.getD j zhC).args > 1048576 then (4, (k : Int)) else zcP bound (n + zbT (zbq (l.getD j zhC).op) (l.getD j zhC).args) (k + 1) (l.drop (j + 1)) := by
  have e : l.drop j = l.getD j zhC :: l.drop (j + 1) := by
    rw [List.drop_eq_getElem_cons h]; simp [List.getD, h]
  rw [e, zcP]
theorem zlk {n k : Nat} {l : List InstL} : zcP bound n k (l.drop l.length) = (0, 0) := by rw [List.drop_of_length_le (Nat.le_refl _)]; rfl
theorem zeY {l : List InstL} (h : bound = 0 ∨ bound > 65536) : zbz bound l = (24, 0) := if_pos h
theorem zfi {l : List InstL} (h : ¬ bound = 0) (h2 : ¬ bound > 65536) : zbz bound l = zcP bound 5 0 l := if_neg fun h3 => h3.elim h h2
end
end Go.SK
namespace Go.SK
theorem zj8 {l : List InstP} {i : Nat} (h : i < l.length) : (l.map InstP.L).getD i zhC = (l.getD i zeroI).L := zfs InstP.L zeroI h
theorem zrQ {bound : Int} {l : List InstP} {i : Nat} (h : i < l.length) : zmi bound ((l.map InstP.L).take (i + 1)) = zmi bound ((l.map InstP.L).take i) ++ [(zis bound (l.getD i zeroI).L).1] := by
  rw [zc4 (d := zhC) (by rw [List.length_map]; exact h), zj8 h]; simp [zmi]
theorem zhU {bound : Int} {i : InstL} {r : RawL} {e : Int} (h : zis bound i = (r, e)) : e = zbu bound i ∧ (e = 0 → r.2.length + 1 = zbT (zbq i.op) i.args ∧ r.2.length < 65535 ∧ r.1 = i.op) ∧ (e ≠ 0 → r = (0, [])) := by
  have hf := zlo (bound := bound) (i := i)
  rw [h] at hf
  refine ⟨hf, fun he => ?_, fun he => ?_⟩
  · have h0 : zbu bound i = 0 := by rw [← hf]; exact he
    rw [zps h0] at h
    injection h with h1 h2
    rw [← h1]
    have := zlb h0
    exact ⟨this.1, this.2, rfl⟩
  · rw [zgO hf.symm he] at h
    injection h with h1 h2
    exact h1.symm
end Go.SK
namespace Go.SK
theorem zju {a b : Tx} {i : Nat} (h : i < a.length) : (a ++ b).getD i 0 = a.getD i 0 := by
  simp [List.getD, List.getElem?_append_left h]
theorem zmR {p : UInt8 → Bool} {s : Tx} {i : Nat} (h : s.all p = true) (hi : i < s.length) : p (s.getD i 0) = true := by
  rw [List.all_eq_true] at h
  have : s.getD i 0 = s[i] := by simp [List.getD, hi]
  rw [this]; exact h _ (List.getElem_mem hi)
end Go.SK
namespace Go.SK
open Go Go.Proofs
theorem ty85 : TyF Tryz.prog 85 (.slice 62) 1 24 [.slice none 0 0] := zbK Kr Kr
end Go.SK
namespace Go.SK
open Go Go.Proofs
open Go.RowKit
theorem zoV (l : List RawP) (ao : Option Addr) (cp : Nat) (w : World) (hA : (Res.rs ao l.length 2 (l.flatMap ztr)).holds w) (hl : l.length ≤ 35184372088832) (hla : ∀ r ∈ l, r.ws.length ≤ 35184372088832) : Ret Tryz.prog 107 #[.slice ao l.length cp] w (fun v w' => v = cntV (zpL 5 0 (l.map zpr)) ∧ St w NoM [] [] w') := by
 refine zav (args := [.slice ao l.length cp]) Tryz.func107 rfl rfl rfl ?_
 have hst : St w NoM [] [Res.rs ao l.length 2 (l.flatMap ztr)] w := St.init_D hA
 clear hA
 refine SR <| AI rfl <| CN <| Op1.alloc hst za0 fun w b3 hst => NSR <| AI rfl <| NL <| SQ <| SR <| ML rfl <| CN <| zaQ (rest := []) ty85 rfl <| MI rfl ?_
 refine NL <| zao <| zaV <| zaU [(3, Pp _ _), (7, .slice _ _ _), (8, .int .i64 _)] E3 (fun (q : Nat × Nat) => [(4, .int .i64 (q.2 : Int)), (9, .int .i64 (q.1 : Int))]) (fun (q : Nat × Nat) => []) (fun (q : Nat × Nat) => q.1 ≤ l.length ∧ q.2 ≤ 1048576 ∧ zpL 5 0 (l.map zpr) = zpL q.2 q.1 ((l.map zpr).drop q.1)) (fun (q : Nat × Nat) => l.length - q.1) ((0, 5)) hst ⟨Nat.zero_le _, by decide, rfl⟩ E2 ?_
 intro ⟨i, n⟩ f w hst hJ ih1
 replace hst : St _ _ ([] ++ [_]) _ _ := hst
 replace hJ : i ≤ l.length ∧ n ≤ 1048576 ∧ zpL 5 0 (l.map zpr) = zpL n i ((l.map zpr).drop i) := hJ
 refine za2 (sl := [(4, .int .i64 (n : Int)), (9, .int .i64 (i : Int))]) E2 <| SR <| CN <| zaS rfl rfl <| NL <| SQ <| zab rfl (fun g2 => ?_) (fun g2 => ?_)
 ·have hlen := hla _ (zb8 (d := zhm) (i := i) Om)
  have hidx : (l.getD ((i : Int).toNat) zhm).ws.length = (l.getD i zhm).ws.length := rfl
  refine zaf <| SQ <| zao <| SR <| MI rfl <| CN <| zaO ty85 zeR (hst.hD _ Q0) rfl rfl Om Om <| CN <| zar (vs := lHL _ _ _ _) zeR rfl rfl rfl (Res.rs2_cells (m := 2) (hst.hD _ Q0) _ (zbG (g := ztr) (d := zhm) zvI _ _ Om)) <| CN <| Op1.alloc hst zeR fun w b6 hst => AI rfl <| CN (SO (v := gHL _ _ _ _) hst zeR rfl rfl .u0 fun w hst => ?_)
  refine NSR <| MI rfl <| CN <| zaa zdJ rfl <| CN <| zae (v := .slice _ _ _) ze7 rfl rfl (hst.cellL Q0 rfl) <| CN <| zaQ (rest := []) ze7 rfl <| CN <| zas rfl rfl rfl zbe <| CN <| zas rfl rfl rfl zbe <| AI rfl <| NL <| zao <| SR <| CN (zaa zdJ rfl ?_)
  refine CN <| zae (v := .slice _ _ _) ze7 rfl rfl (hst.cellL Q0 rfl) <| CN <| zaQ (rest := []) ze7 rfl <| CN <| zbo rfl rfl <| AB rfl <| NL <| zab rfl (fun g3 => ?_) (fun g3 => ?_)
  ·refine SR <| MI rfl <| CN (zag za0 zcE (.c (v := .int .i64 _) rfl (h := (.c (v := .int .i64 _) rfl (h := .nil)))) ?_)
   refine AI rfl <| CN (SO (v := gII _ _) hst za0 rfl rfl .u1 fun w hst => ?_)
   refine NL <| zai Tryz.func107 rfl (TP (v := .int .i64 _) rfl) (zal (vs := lII _ _) rfl za0 rfl rfl (zac (n := 2) (hst.objL Q1) _ rfl)) ?_
   rw [hJ.2.2, zuy (by omega) (by omega)]
   exact ⟨rfl, hst.pure⟩
  refine SR <| MI rfl <| CN <| zbm rfl rfl <| AB rfl <| NL <| zaj [(3, Pp _ _), (4, .int .i64 _), (5, .int .i64 _), (7, .slice _ _ _), (8, .int .i64 _), (9, .int .i64 _), (27, .bool _)] E7 fun f => zab rfl (fun g4 => ?_) (fun g4 => ?_)
  ·refine SR <| MI rfl <| CN (zag za0 zcE (.c (v := .int .i64 _) rfl (h := (.c (v := .int .i64 _) rfl (h := .nil)))) ?_)
   refine AI rfl <| CN (SO (v := gII _ _) hst za0 rfl rfl .u1 fun w hst => ?_)
   refine NL <| zai Tryz.func107 rfl (TP (v := .int .i64 _) rfl) (zal (vs := lII _ _) rfl za0 rfl rfl (zac (n := 2) (hst.objL Q1) _ rfl)) ?_
   rw [hJ.2.2, zux (by omega) (by omega) (by omega)]
   exact ⟨rfl, hst.pure⟩
  refine zaf <| zam <| zam <| RG <| CN <| zas rfl rfl rfl zbe <| MI rfl <| NL <| zay ?_
  replace hst := hst.pick (.cons .u1 .nil)
  exact ih1 ((i + 1, n + 1 + (l.getD i zhm).ws.length)) _ w (by (try dsimp only); omega) hst (⟨by (try dsimp only); omega, by (try dsimp only); omega, by (try dsimp only); rw [hJ.2.2, zww (by omega) (by omega) (by omega)]⟩) E3 ⟨(Vi (by (try dsimp only); omega)), (Vi (by (try dsimp only); omega)), trivial⟩
 obtain rfl : i = l.length := by omega
 refine zaJ (id := 0) rfl <| SR <| MI rfl <| CN (zag za0 zcE .nil ?_)
 refine AI rfl <| CN (SO (v := gII _ _) hst za0 rfl rfl .u0 fun w hst => ?_)
 refine NL <| zai Tryz.func107 rfl (TP (v := .int .i64 _) rfl) (zal (vs := lII _ _) rfl za0 rfl rfl (zac (n := 2) (hst.objL Q0) _ rfl)) ?_
 rw [hJ.2.2, zx2]
 exact ⟨rfl, hst.pure⟩
end Go.SK
namespace Go.SK
open Go Go.Proofs
theorem ent107 : zaN Tryz.prog 107 := ⟨Tryz.f107, _, Tryz.func107, Kr, rfl⟩
end Go.SK
namespace Go.SK
open Go Go.Proofs
open Go.RowKit
theorem zuY (l : List RawP) (ao : Option Addr) (cp : Nat) (w : World) (hA : (Res.rs ao l.length 2 (l.flatMap ztr)).holds w) (hl : l.length ≤ 35184372088832) (hla : ∀ r ∈ l, r.ws.length ≤ 35184372088832) : Ret Tryz.prog 94 #[.slice ao l.length cp] w (fun v w' => v = .tuple #[.int .i64 (zpL 5 0 (l.map zpr)).1, .int .i64 (zpL 5 0 (l.map zpr)).2.1] ∧ St w NoM [] [] w') := by
 refine zav (args := [.slice ao l.length cp]) Tryz.func94 rfl rfl rfl ?_
 have hst : St w NoM [] [Res.rs ao l.length 2 (l.flatMap ztr)] w := St.init_D hA
 clear hA
 refine SR <| AI rfl <| AI rfl <| NSR <| ML rfl <| CN <| Op1.call1 (v1 := .slice _ _ _) ent107 rfl rfl <| Ret.det (zoV _ _ _ _ (hst.hD _ Q0) hl hla) hst fun w hst => CN <| zad (v := .tuple #[.int .i64 _, gII _ _]) rfl <| CN <| Ex (.int .i64 _) rfl rfl <| CN <| Ex (gII _ _) rfl rfl <| CN <| Op1.alloc hst za0 fun w b5 hst => AI rfl <| CN (SO (v := gII _ _) hst za0 rfl rfl .u0 fun w hst => ?_)
 refine NL <| SQ <| RunD.start [] hst (bs := [0, 0, 2, 1, 15]) (ds := [some 11, some 12, some 13, some 2, some 3]) ⟨Kr, Kr, Kr⟩ (fun tab1 => ?_)
 refine DO tab1 1 (fun f' L' w' hc=> zad (v := .int .i64 _) (hc.old rfl rfl rfl) hc.z) <| DO tab1 2 (fun f' L' w' hc=> zaa zbr (hc.old (v := Pp _ _) rfl rfl rfl) hc.z) <| DO tab1 3 (fun f' L' w' hc=> zae (v := .int .i64 _) zcO rfl (hc.d 1 rfl rfl rfl rfl) (hc.st.cellL (List.mem_append_right _ Q0) rfl) hc.z) <| DO tab1 4 (fun _ _ _ hc => Op1.assign (v := .int .i64 _) (hc.d 0 rfl rfl rfl rfl) hc.z) <| RunD.fin zaw tab1 hst rfl (fun f2 w R5 hs3 hd4 hr6 hst => ?_)
 obtain ⟨h11_, r0⟩ := hd4 0 11 rfl rfl
 obtain ⟨h12_, r1⟩ := hd4 1 12 rfl rfl
 obtain ⟨h13_, r2⟩ := hd4 2 13 rfl rfl
 obtain ⟨h2_, r3⟩ := hd4 3 2 rfl rfl
 simp only [rg4, Fc, Fn, Mc, Mn, r0, r1, r2, r3, Na, An, Ca] at hst
 refine zaD (sl := [(2, .int .i64 _), (13, .int .i64 _)]) ⟨h2_, h13_, trivial⟩ ?_
 clear hs3 hd4 hr6 tab1
 refine AI rfl <| NL <| zai Tryz.func94 rfl (TP (v := .int .i64 _) rfl) (TP (v := .int .i64 _) rfl) ?_
 exact ⟨rfl, hst.pure⟩
end Go.SK
namespace Go.SK
open Go Go.Proofs
theorem ent94 : zaN Tryz.prog 94 := ⟨Tryz.f94, _, Tryz.func94, Kr, rfl⟩
end Go.SK
namespace Go.SK
open Go Go.Proofs
open Go.RowKit
theorem zoW (w : World) : Ret Tryz.prog 94 #[.slice none 0 0] w (fun v w' => v = .tuple #[.int .i64 5, .int .i64 0] ∧ St w NoM [] [] w') := zuY [] none 0 w ⟨rfl, .inl rfl⟩ De (fun _ h => by cases h)
theorem zu0 (gn bd : Int) (l : List InstP) (ao : Option Addr) (cp : Nat) (w : World) (hA : (Res.rmod ao l).holds w) (hl : l.length ≤ 3000000000000) (hop : ∀ i ∈ l, 0 ≤ i.op) (hsm : ∀ i ∈ l, (i.args.map za1).sum ≤ 900000000) (hla : ∀ i ∈ l, ∀ a ∈ i.args, a.s.length ≤ 100000000000) : Ret Tryz.prog 46 #[.agg #[.int .u32 gn, .int .u32 bd, .slice ao l.length cp]] w (fun v w' => ∃ ro rc done, v = .tuple #[.slice ro done.length rc, .agg #[.int .i64 (zbz bd (l.map InstP.L)).1, .int .i64 (zbz bd (l.map InstP.L)).2]] ∧ done.map RawP.L = (if (zbz bd (l.map InstP.L)).1 = 0 then zmi bd (l.map InstP.L) else []) ∧ St w NoM [Res.oraws 62 22 ro rc done] [] w') := by
 refine zav (args := [.agg #[.int .u32 gn, .int .u32 bd, .slice ao l.length cp]]) Tryz.func46 rfl rfl rfl ?_
 have hst : St w NoM [] [Res.rmod ao l] w := St.init_D hA
 clear hA
 refine SR <| CN <| zbi (v := zb2 _ _ _ _ _) hst rfl rfl fun w b1 hst => AL rfl <| CN <| Op1.alloc hst za0 fun w b3 hst => NL <| SQ <| SR <| CN <| zaa zcA rfl <| CN <| zae (v := .int .u32 _) zbt rfl rfl (hst.cellL Q1 rfl) <| CN <| zak rfl rfl <| MB rfl <| zan (d := 14) rfl (fun g1 => ?_) (fun g1 => ?_)
 ·refine OM (t := 14) rfl (Vb (Dt g1)) rfl <| OM (t := 14) rfl (Vb (Dt g1)) rfl <| OM (t := 14) rfl (Vb (Dt g1)) rfl <| CN <| zap (u := .bool _) (Vb (Dt g1)) rfl <| NL <| zax (Vb (rfl : true = _)) <| SR <| CN (zag za0 zcE (.c (v := .int .i64 _) rfl (h := .nil)) ?_)
  refine AL rfl <| CN (SO (v := gII _ _) hst za0 rfl rfl .u0 fun w hst => ?_)
  refine NL <| zai Tryz.func46 rfl (TP (v := .slice _ _ _) rfl) (zal (vs := lII _ _) rfl za0 rfl rfl (zac (n := 2) (hst.objL Q0) _ rfl)) ?_
  replace hst := hst.pick .nil
  have hS := zeY (bound := bd) (l := (l.map InstP.L)) Om
  have hne : (24 : Int) ≠ 0 := by decide
  replace hst := St.starCons ((hst.starNil).pushNil 62 2)
  refine ⟨none, 0, [], ?_, ?_, hst.noD⟩
  ·rw [hS] <;> rfl
  ·rw [hS, if_neg hne] <;> rfl
 refine TK (t := 14) rfl (Vb (Df g1)) <| zaa zcA rfl <| TK (t := 14) rfl (Vb (Df g1)) <| zae (v := .int .u32 _) zbt rfl rfl (hst.cellL Q1 rfl) <| TK (t := 14) rfl (Vb (Df g1)) <| zbm rfl rfl <| CN <| zaq (u := .bool _) (Vb (Df g1)) rfl <| NL <| zab rfl (fun g2 => ?_) (fun g2 => ?_)
 ·refine SR <| CN (zag za0 zcE (.c (v := .int .i64 _) rfl (h := .nil)) ?_)
  refine AL rfl <| CN (SO (v := gII _ _) hst za0 rfl rfl .u0 fun w hst => ?_)
  refine NL <| zai Tryz.func46 rfl (TP (v := .slice _ _ _) rfl) (zal (vs := lII _ _) rfl za0 rfl rfl (zac (n := 2) (hst.objL Q0) _ rfl)) ?_
  replace hst := hst.pick .nil
  have hS := zeY (bound := bd) (l := (l.map InstP.L)) Om
  have hne : (24 : Int) ≠ 0 := by decide
  replace hst := St.starCons ((hst.starNil).pushNil 62 2)
  refine ⟨none, 0, [], ?_, ?_, hst.noD⟩
  ·rw [hS] <;> rfl
  ·rw [hS, if_neg hne] <;> rfl
 refine zaf <| SR <| CN <| Op1.call1 (v1 := .slice _ _ _) ent94 rfl rfl <| Ret.det (zoW _) hst fun w hst => CN <| zad (v := .tuple #[.int .i64 _, .int .i64 _]) rfl <| CN <| Ex (.int .i64 _) rfl rfl <| CN <| Ex (.int .i64 _) rfl rfl <| AI rfl <| AI rfl <| NSR <| MI rfl <| CN <| zbx rfl rfl rfl zbe <| AI rfl ?_
 refine NL <| zaj [(1, Pp _ _), (3, Pp _ _), (4, .int .i64 _)] E3 fun f => SR <| AL rfl <| NL <| SQ <| SQ ?_
 replace hst := hst.pushNil 62 2
 replace hst := hst.starNil
 refine RG <| CN <| zaa zbU rfl <| CN <| zae (v := .slice _ _ _) zdo rfl rfl (hst.cellL Q3 rfl) <| CN <| zaQ (rest := []) zdo rfl <| MI rfl <| NL <| zao <| zaV <| zaU [(1, Pp _ _), (3, Pp _ _), (27, .slice _ _ _), (28, .int .i64 _)] E4 (fun (q : Nat × Nat × Option Addr × Nat × List RawP) => [(4, .int .i64 (1048576 - (q.2.1 : Int))), (6, .slice q.2.2.1 q.2.2.2.2.length q.2.2.2.1), (29, .int .i64 (q.1 : Int))]) (fun (q : Nat × Nat × Option Addr × Nat × List RawP) => [Res.star (q.2.2.2.2.map (Res.oword 22)), Res.sl q.2.2.1 q.2.2.2.2.length q.2.2.2.1 62 2 (q.2.2.2.2.flatMap ztr)]) (fun (q : Nat × Nat × Option Addr × Nat × List RawP) => q.1 ≤ l.length ∧ zcP bd 5 0 (l.map InstP.L) = zcP bd q.2.1 q.1 ((l.map InstP.L).drop q.1) ∧ q.2.1 ≤ 1048576 ∧ q.2.2.2.2.map RawP.L = zmi bd ((l.map InstP.L).take q.1)) (fun (q : Nat × Nat × Option Addr × Nat × List RawP) => l.length - q.1) ((0, 5, none, 0, [])) hst ⟨Nat.zero_le _, rfl, by decide, rfl⟩ E3 ?_
 intro ⟨i, n, aq, cq, done⟩ f w hst hJ ih3
 replace hst : St _ _ ([Res.star (done.map (Res.oword 22)), Res.sl aq done.length cq 62 2 (done.flatMap ztr)] ++ [_, _]) _ _ := hst
 replace hJ : i ≤ l.length ∧ zcP bd 5 0 (l.map InstP.L) = zcP bd n i ((l.map InstP.L).drop i) ∧ n ≤ 1048576 ∧ done.map RawP.L = zmi bd ((l.map InstP.L).take i) := hJ
 refine za2 (sl := [(4, .int .i64 (1048576 - (n : Int))), (6, .slice aq done.length cq), (29, .int .i64 (i : Int))]) E3 <| SR <| CN <| zaS rfl rfl <| NL <| SQ <| zab rfl (fun g4 => ?_) (fun g4 => ?_)
 ·have hmem : (l.getD i zeroI) ∈ l := zb8 Om
  have hidx : l.getD ((i : Int)).toNat zeroI = (l.getD i zeroI) := rfl
  obtain ⟨⟨⟨rop, rws⟩, re⟩, hR⟩ : ∃ q, zis bd (l.getD i zeroI).L = q := ⟨_, rfl⟩
  have hrl := zhU hR
  have hsh := zjS (bound := bd) (n := n) (k := i) (l := (l.map InstP.L)) (j := i) (by rw [List.length_map]; omega)
  rw [zj8 (by omega), ← hrl.1] at hsh
  have hdl : done.length ≤ i := by have := congrArg List.length hJ.2.2.2; simp only [zmi, List.length_map, List.length_take] at this; omega
  have hrn : rws.length < 65535 := by
   by_cases he : re = 0
   ·exact (hrl.2.1 he).2.1
   ·rw [show rws = [] from congrArg Prod.snd (hrl.2.2 he)]; decide
  refine zaf <| SQ <| zao <| SR <| MI rfl <| CN <| zaO zdo zbp (Res.rmod_insts (hst.hD _ Q0)) rfl rfl Om Om <| CN <| zar (vs := zbg _ _ _ _ _ _) zbp rfl rfl rfl (Res.rs2_cells (m := 4) (Res.rmod_insts (hst.hD _ Q0)) _ (zbG (g := zdu) (d := zeroI) zcG _ _ Om)) <| CN <| Op1.alloc hst zbp fun w b8 hst => AI rfl <| CN (SO (v := zbb _ _ _ _ _ _) hst zbp rfl rfl .u0 fun w hst => ?_)
  refine NSR <| CN <| zar (vs := zbg _ _ _ _ _ _) zbp rfl rfl rfl (zac (n := 4) (hst.objL Q0) _ rfl) <| CN <| zaa zcA rfl <| CN <| zae (v := .int .u32 _) zbt rfl rfl (hst.cellL Q4 rfl) <| CN (zaz (v1 := zbb _ _ _ _ _ _) (v2 := .int .u32 _) zug rfl rfl rfl ((zim hR (hop _ hmem) _ (Res.rmod_argsI (hst.hD _ Q0) (i := i) Om) (hsm _ hmem) (hla _ hmem)).mono fun v w hp => ?_))
  obtain ⟨ro, rc, rfl, hp⟩ := hp
  replace hst : St _ _ (_ :: _) _ _ := hst.call0 hp
  clear hp
  refine CN <| zad (v := .tuple #[gHL _ _ _ _, .int .i64 _]) rfl <| CN <| Ex (gHL _ _ _ _) rfl rfl <| CN <| Ex (.int .i64 _) rfl rfl <| CN <| Op1.alloc hst zeR fun w b9 hst => CN (SO (v := gHL _ _ _ _) hst zeR rfl rfl .u0 fun w hst => ?_)
  refine AI rfl <| NSR <| MI rfl <| CN <| zaa zdJ rfl <| CN <| zae (v := .slice _ _ _) ze7 rfl rfl (hst.cellL Q0 rfl) <| CN <| zaQ (rest := []) ze7 rfl <| CN <| zas rfl rfl rfl zbe <| CN <| zbx rfl rfl rfl zbe <| AI rfl <| NL <| zaj [(1, Pp _ _), (3, Pp _ _), (4, .int .i64 _), (6, .slice _ _ _), (7, .int .i64 _), (9, Pp _ _), (10, .int .i64 _), (27, .slice _ _ _), (28, .int .i64 _), (29, .int .i64 _)] E10 fun f => SQ <| zao ?_
  refine SR <| MI rfl <| CN <| zaW rfl rfl <| AB rfl <| NL <| zab rfl (fun g5 => ?_) (fun g5 => ?_)
  ·refine SR <| MI rfl <| MI rfl <| CN (zag za0 zcE (.c (v := .int .i64 _) rfl (h := (.c (v := .int .i64 _) rfl (h := .nil)))) ?_)
   refine AL rfl <| CN (SO (v := gII _ _) hst za0 rfl rfl .u5 fun w hst => ?_)
   refine NL <| zai Tryz.func46 rfl (TP (v := .slice _ _ _) rfl) (zal (vs := lII _ _) rfl za0 rfl rfl (zac (n := 2) (hst.objL Q5) _ rfl)) ?_
   replace hst := hst.pick .nil
   rw [if_pos g5] at hsh
   have hS := zfi (bound := bd) (l := (l.map InstP.L)) Om Om
   rw [hJ.2.1, hsh] at hS
   have hne := g5
   replace hst := St.starCons ((hst.starNil).pushNil 62 2)
   refine ⟨none, 0, [], ?_, ?_, hst.noD⟩
   ·rw [hS] <;> rfl
   ·rw [hS, if_neg hne] <;> rfl
  refine SR <| MI rfl <| CN <| zaS rfl rfl <| AB rfl <| NL <| zab rfl (fun g6 => ?_) (fun g6 => ?_)
  ·refine SR <| MI rfl <| CN (zag za0 zcE (.c (v := .int .i64 _) rfl (h := (.c (v := .int .i64 _) rfl (h := .nil)))) ?_)
   refine AL rfl <| CN (SO (v := gII _ _) hst za0 rfl rfl .u5 fun w hst => ?_)
   refine NL <| zai Tryz.func46 rfl (TP (v := .slice _ _ _) rfl) (zal (vs := lII _ _) rfl za0 rfl rfl (zac (n := 2) (hst.objL Q5) _ rfl)) ?_
   replace hst := hst.pick .nil
   have hr0 : re = 0 := Nn g5
   have hrm := (hrl.2.1 hr0).1
   dsimp only at hrm hsh
   rw [if_neg g5, if_pos (by omega)] at hsh
   have hS := zfi (bound := bd) (l := (l.map InstP.L)) Om Om
   rw [hJ.2.1, hsh] at hS
   have hne : (4 : Int) ≠ 0 := by decide
   replace hst := St.starCons ((hst.starNil).pushNil 62 2)
   refine ⟨none, 0, [], ?_, ?_, hst.noD⟩
   ·rw [hS] <;> rfl
   ·rw [hS, if_neg hne] <;> rfl
  refine zaf <| zam <| RG <| ML rfl <| CN <| zar (vs := lHL _ _ _ _) zeR rfl rfl rfl (zac (n := 2) (hst.objL Q0) _ rfl) <| CN (zaE (z0 := [.int .u16 0, .slice none 0 0]) hst ty85 zeR rfl rfl Kr (.c (v := gHL _ _ _ _) rfl (h := .nil)) fun w b60 hst => ?_)
  refine CN (zaI (news := (lHL _ _ _ _)) hst ty85 zeR rfl rfl .u5 rfl rfl rfl (zac (n := 2) (hst.objL Q0) _ rfl) rfl rfl Om fun w ao7 cp8 hst => ?_)
  replace hst := hst.drop .u1
  refine AL rfl <| NL <| zam <| RG <| CN <| zas rfl rfl rfl zbe <| MI rfl <| NL <| zay ?_
  replace hst := hst.pick (.cons .u2 (.cons .u3 (.cons .u0 (.cons .u0 (.cons .u0 (.cons .u0 (.cons .u0 .nil)))))))
  replace hst := hst.starSnoc
  have e1 : done.length + 1 = (done ++ [(⟨rop, ro, rc, rws⟩ : RawP)]).length := by simp
  have e2 : done.flatMap ztr ++ [.int .u16 rop, .slice ro rws.length rc] = (done ++ [(⟨rop, ro, rc, rws⟩ : RawP)]).flatMap ztr := by simp
  have e3 : done.map (Res.oword 22) ++ [Res.sl ro rws.length rc 22 1 (rws.flatMap zdE)] = (done ++ [(⟨rop, ro, rc, rws⟩ : RawP)]).map (Res.oword 22) := by simp
  rw [e1, e2, e3] at hst
  have hr0 : re = 0 := Nn g5
  have hrm := (hrl.2.1 hr0).1
  dsimp only at hrm hsh
  rw [if_neg g5, if_neg (by omega)] at hsh
  have hI2 : (done ++ [(⟨rop, ro, rc, rws⟩ : RawP)]).map RawP.L = zmi bd ((l.map InstP.L).take (i + 1)) := by rw [List.map_append, hJ.2.2.2, zrQ (by omega), hR]; rfl
  replace hst := hst.pick (.cons .u0 (.cons .u0 (.cons .u2 (.cons .u2 .nil))))
  exact ih3 ((i + 1, n + zbT (zbq (l.getD i zeroI).op) (l.getD i zeroI).args, ao7, cp8, done ++ [(⟨rop, ro, rc, rws⟩ : RawP)])) _ w (by (try dsimp only); omega) hst (⟨by (try dsimp only); omega, hJ.2.1.trans hsh, by (try dsimp only); omega, hI2⟩) E4 ⟨(Vi (by (try dsimp only); omega)), (by (try dsimp only); rw [← e1]; rfl), (Vi (by (try dsimp only); omega)), trivial⟩
 obtain rfl : i = l.length := by omega
 refine zaJ (id := 0) rfl <| SR <| ML rfl <| CN (zag za0 zcE .nil ?_)
 refine AL rfl <| CN (SO (v := gII _ _) hst za0 rfl rfl .u2 fun w hst => ?_)
 refine NL <| zai Tryz.func46 rfl (TP (v := .slice _ _ _) rfl) (zal (vs := lII _ _) rfl za0 rfl rfl (zac (n := 2) (hst.objL Q2) _ rfl)) ?_
 replace hst := hst.pick (.cons .u1 (.cons .u0 .nil))
 have hll : l.length = (l.map InstP.L).length := by rw [List.length_map]
 have hS := zfi (bound := bd) (l := (l.map InstP.L)) Om Om
 rw [hJ.2.1, hll, zlk] at hS
 refine ⟨aq, cq, done, ?_, ?_, (St.starCons hst).noD⟩
 ·rw [hS]
 ·rw [hS, if_pos rfl, hJ.2.2.2, hll, List.take_length]
end Go.SK
namespace Go.SK
open Go Go.Proofs
theorem ent46 : zaN Tryz.prog 46 := ⟨Tryz.f46, _, Tryz.func46, Kr, rfl⟩
end Go.SK
namespace Go.SK
open Go Go.Proofs
open Go.RowKit
theorem zsK (gn bd : Int) (l : List InstP) (ao : Option Addr) (cp : Nat) {se sa : Int} (hS : zbz bd (l.map InstP.L) = (se, sa)) (w : World) (hA : (Res.rmod ao l).holds w) (hl : l.length ≤ 3000000000000) (hop : ∀ i ∈ l, 0 ≤ i.op) (hsm : ∀ i ∈ l, (i.args.map za1).sum ≤ 900000000) (hla : ∀ i ∈ l, ∀ a ∈ i.args, a.s.length ≤ 100000000000) : Ret Tryz.prog 46 #[.agg #[.int .u32 gn, .int .u32 bd, .slice ao l.length cp]] w (fun v w' => ∃ ro rc done, v = .tuple #[.slice ro done.length rc, .agg #[.int .i64 se, .int .i64 sa]] ∧ done.map RawP.L = (if se = 0 then zmi bd (l.map InstP.L) else []) ∧ St w NoM [Res.oraws 62 22 ro rc done] [] w') := by
 have h := zu0 gn bd l ao cp w hA hl hop hsm hla
 rw [hS] at h; exact h
theorem zsM (gn bd : Int) (l : List InstP) (ao : Option Addr) (cp : Nat) (w : World) (hA : (Res.rmod ao l).holds w) (hl : l.length ≤ 3000000000000) (hop : ∀ i ∈ l, 0 ≤ i.op) (hsm : ∀ i ∈ l, (i.args.map za1).sum ≤ 900000000) (hla : ∀ i ∈ l, ∀ a ∈ i.args, a.s.length ≤ 100000000000) : Ret Tryz.prog 19 #[.agg #[.int .u32 gn, .int .u32 bd, .slice ao l.length cp]] w (fun v w' => v = .agg #[.int .i64 (zbz bd (l.map InstP.L)).1, .int .i64 (zbz bd (l.map InstP.L)).2] ∧ St w NoM [] [] w') := by
 refine zav (args := [.agg #[.int .u32 gn, .int .u32 bd, .slice ao l.length cp]]) Tryz.func19 rfl rfl rfl ?_
 have hst : St w NoM [] [Res.rmod ao l] w := St.init_D hA
 clear hA
 obtain ⟨se, sa, hS⟩ : ∃ se sa, zbz bd (l.map InstP.L) = (se, sa) := ⟨_, _, rfl⟩
 refine SR <| CN <| zbi (v := zb2 _ _ _ _ _) hst rfl rfl fun w b1 hst => CN <| Op1.alloc hst za0 fun w b2 hst => NSR <| CN <| zar (vs := zdH _ _ _ _ _) zb3 rfl rfl rfl (zac (n := 3) (hst.objL Q1) _ rfl) <| CN (Op1.call1 (v1 := zb2 _ _ _ _ _) ent46 rfl rfl ((zsK _ _ _ _ _ hS _ (hst.hD _ Q0) hl hop hsm hla).mono fun v w hp => ?_))
 obtain ⟨aR, cR, done, rfl, hd, hp⟩ := hp
 replace hst : St _ _ (_ :: _) _ _ := hst.call0 hp
 clear hp
 refine CN <| zad (v := .tuple #[.slice _ _ _, gII _ _]) rfl <| CN <| Ex (.slice _ _ _) rfl rfl <| CN <| Ex (gII _ _) rfl rfl <| CN <| Op1.alloc hst za0 fun w b4 hst => AL rfl <| CN (SO (v := gII _ _) hst za0 rfl rfl .u0 fun w hst => ?_)
 refine NSR <| CN <| zar (vs := lII _ _) za0 rfl rfl rfl (zac (n := 2) (hst.objL Q0) _ rfl) <| CN (SO (v := gII _ _) hst za0 rfl rfl .u2 fun w hst => ?_)
 refine NL <| zah Tryz.func19 rfl (zal (vs := lII _ _) rfl za0 rfl rfl (zac (n := 2) (hst.objL Q2) _ rfl)) ?_
 rw [hS]
 exact ⟨rfl, hst.pure⟩
end Go.SK
namespace Go.SK
open Go Go.Proofs
open Go.RowKit
theorem zkH (gn bd : Int) (l : List InstP) (ao : Option Addr) (cp : Nat) {se sa : Int} (hS : zbz bd (l.map InstP.L) = (se, sa)) (w : World) (hA : (Res.rmod ao l).holds w) (hl : l.length ≤ 3000000000000) (hop : ∀ i ∈ l, 0 ≤ i.op) (hsm : ∀ i ∈ l, (i.args.map za1).sum ≤ 900000000) (hla : ∀ i ∈ l, ∀ a ∈ i.args, a.s.length ≤ 100000000000) : Ret Tryz.prog 19 #[.agg #[.int .u32 gn, .int .u32 bd, .slice ao l.length cp]] w (fun v w' => v = .agg #[.int .i64 se, .int .i64 sa] ∧ St w NoM [] [] w') := by
 have h := zsM gn bd l ao cp w hA hl hop hsm hla
 rw [hS] at h; exact h
end Go.SK
namespace Go.SK
open Go Go.Proofs
theorem zui : zaN Tryz.prog 19 := ⟨Tryz.f19, _, Tryz.func19, Kr, rfl⟩
end Go.SK
