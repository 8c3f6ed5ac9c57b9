/-
  Steps of functions, plain law, and walks of functions: what the laws rest on.
-/
import Derived.Test.YtglmmdpeenckbaaGreatDoorSkH0c
import Derived.Test.YtglmmdpeenckbaaGreatDoorSkH1a
import Derived.Test.YtglmmdpeenckbaaGreatDoorSkH2a
import Derived.Test.YtglmmdpeenckbaaGreatDoorSkH4a
import Derived.Test.YtglmmdpeenckbaaGreatDoorSkH5a
import Derived.Test.YtglmmdpeenckbaaGreatDoorSkH7a
import Derived.Test.YtglmmdpeenckbaaGreatDoorSkH8a
import Derived.Test.YtglmmdpeenckbaaGreatDoorSkH14a
import Derived.Test.YtglmmdpeenckbaaGreatDoorSkH18a
import Derived.Test.YtglmmdpeenckbaaGreatDoorSkH19a
import Derived.Test.YtglmmdpeenckbaaGreatDoorSkH22a
set_option linter.unusedVariables false
set_option linter.unusedSimpArgs false
set_option linter.unusedSectionVars false
namespace Go.SK
open Go.RowKit Go.ChangeShapes Go.WideShapes Go.ChangeAt
def zf8 (b : List UInt8) : Int := if b.length > 4194304 then 4 else if b.length % 4 ≠ 0 then 10 else 0
def zhL (b : List UInt8) : List Int := if zf8 b = 0 then zcF b else []
end Go.SK
namespace Go.SK
theorem zut {α : Type} {g : α → List Value} {es : Nat} (hg : ∀ a, (g a).length = es) {d : α} {l : List α} {i n : Nat} {x : List Value} (hn : n = l.length) (hi : i < n) (hx : x = g (l.getD i d)) : zcj ((cpG d l n i).flatMap g) (0 + (i : Int).toNat * es) x = (cpG d l n (i + 1)).flatMap g := by
  subst hn; exact zrf hg hi hx
theorem zwv {α : Type} (d : α) {l : List α} {n : Nat} (hn : n = l.length) : cpG d l n n = l := by subst hn; exact zuw d l
theorem znn {b : List UInt8} (h : b.length > 4194304) : zf8 b = 4 := if_pos h
theorem zrK {b : List UInt8} (h : ¬ b.length > 4194304) (h2 : b.length % 4 ≠ 0) : zf8 b = 10 := by unfold zf8; rw [if_neg h, if_pos h2]
theorem znm {b : List UInt8} (h : ¬ b.length > 4194304) (h2 : b.length % 4 = 0) : zf8 b = 0 := by unfold zf8; rw [if_neg h, if_neg (by omega)]
theorem zlj {b : List UInt8} (h : zf8 b ≠ 0) : zhL b = [] := if_neg h
theorem znl {b : List UInt8} (h : zf8 b = 0) : zhL b = zcF b := if_pos h
end Go.SK
namespace Go.SK
theorem zuu {α : Type} {g : α → List Value} {es : Nat} (hg : ∀ a, (g a).length = es) {d : α} {l : List α} {i n : Nat} {x : List Value} (hi : i < l.length) (hn : i < n) (hx : x = g (l.getD i d)) : zcj ((cpG d l n i).flatMap g) (0 + (i : Int).toNat * es) x = (cpG d l n (i + 1)).flatMap g := by
  subst hx
  rw [Nat.zero_add, Int.toNat_natCast, zez hg _ _ _ (by simp [cpG]; omega), zuv hi hn]
theorem ziX {s : List UInt8} (h : ¬ s.length / 4 + 1 > 65535) : zf8 (zf9 s) = 0 ∧ zhL (zf9 s) = zcF (zf9 s) := by
  have he : zf8 (zf9 s) = 0 := znm (by rw [zeq]; omega) (by rw [zeq]; omega)
  exact ⟨he, znl he⟩
end Go.SK
namespace Go.SK
theorem zhc {p : Nat → Prop} : ∀ j, j < 0 → p j := fun j hj => absurd hj (Nat.not_lt_zero j)
end Go.SK
namespace Go.SK
open Go.RowKit Go.ChangeShapes Go.WideShapes Go.ChangeAt
theorem zsj {c n : Int} : zfT c n = 0 ↔ (namesL.find? (enN c n)).isSome = true := by unfold zfT; split <;> simp_all
end Go.SK
namespace Go.SK
def zlc (fm : FormL) (n : Nat) : Bool := if n < fm.fixed.length then false else if fm.rest.length = 0 then decide (n = fm.fixed.length) else decide (((n : Int) - fm.fixed.length) % fm.rest.length = 0)
theorem ziy {fm : FormL} {n : Nat} (h : fm.rest = [] → n ≤ fm.fixed.length) : zlc fm n = true ↔ ¬ zlt fm n := by
  unfold zlc zlt
  by_cases h1 : n < fm.fixed.length
  · rw [if_pos h1]
    refine ⟨fun hx => absurd hx De, fun hx => absurd (Or.inl Om) hx⟩
  · rw [if_neg h1]
    by_cases h2 : fm.rest.length = 0
    · have h3 := h (List.length_eq_zero_iff.1 h2)
      rw [if_pos h2]
      refine ⟨fun _ hx => ?_, fun _ => Dt Om⟩
      rcases hx with hx | hx
      · omega
      · exact hx.1 (List.length_eq_zero_iff.1 h2)
    · rw [if_neg h2]
      refine ⟨fun hd hx => ?_, fun hx => Dt (Nn fun hn => hx (.inr ⟨fun e => h2 (by rw [e]; rfl), hn⟩))⟩
      rcases hx with hx | hx
      · omega
      · exact hx.2 (of_decide_eq_true hd)
end Go.SK
namespace Go.SK
open Go.RowKit Go.ChangeShapes Go.WideShapes Go.ChangeAt
section
variable {c bound : Int} {a : ArgP}
theorem zx6 (a : ArgP) : (zpN a).length ≤ za1 a := by
  by_cases h : a.kind = 3
  · rw [(zd8 h).1, (zd8 h).2]; exact zj5 _
  · rw [(zek h).1, (zek h).2]; exact Nat.le_refl _
end
end Go.SK
namespace Go.SK
theorem za6 {c bound : Int} {a : ArgP} (h : ¬ (c = 0 ∨ a.kind ≠ zbZ c)) (h2 : ¬ ((a.kind = 3 ∧ a.n ≠ 0) ∨ (a.kind ≠ 3 ∧ a.s ≠ []))) : zbN c a bound = if a.kind = 1 ∧ (a.n = 0 ∨ a.n ≥ bound) then 43 else if a.kind = 4 ∧ (namesL.find? (enN c a.n)).isSome = false then 31 else zjP a.s := by
  have e1 : (a.kind = 1 ∧ idE a.n bound ≠ 0) ↔ (a.kind = 1 ∧ (a.n = 0 ∨ a.n ≥ bound)) := by rw [idE_ne]
  have e2 : (a.kind = 4 ∧ zfT c a.n ≠ 0) ↔ (a.kind = 4 ∧ (namesL.find? (enN c a.n)).isSome = false) := by
    have : zfT c a.n ≠ 0 ↔ (namesL.find? (enN c a.n)).isSome = false := by
      rw [Ne, zsj]; cases (namesL.find? (enN c a.n)).isSome <;> simp
    rw [this]
  unfold zbN
  rw [if_neg h, if_neg h2]
  by_cases k1 : a.kind = 1 ∧ (a.n = 0 ∨ a.n ≥ bound)
  · rw [if_pos (e1.2 k1), if_pos k1]
  · rw [if_neg (fun x => k1 (e1.1 x)), if_neg k1]
    by_cases k4 : a.kind = 4 ∧ (namesL.find? (enN c a.n)).isSome = false
    · rw [if_pos (e2.2 k4), if_pos k4]
    · rw [if_neg (fun x => k4 (e2.1 x)), if_neg k4]; rfl
theorem zcc {s : List UInt8} {i : Nat} (hi : i < s.length) (hz : s.getD i 0 = 0) (hn : ∀ j, j < i → s.getD j 0 ≠ 0) : zjP s = 13 := by
  unfold zjP; rw [if_pos]; rw [zjB hi hz hn]; omega
theorem zbX {s : List UInt8} (hn : ∀ j, j < s.length → s.getD j 0 ≠ 0) : zjP s = 0 := by
  unfold zjP; rw [if_neg (fun h => h (zfg hn))]
def zci (fm : FormL) (p : InstL) (k : Nat) : List Int := zfN fm p.ty p.res ++ (p.args.take k).flatMap zpN
theorem zpc {fm : FormL} {p : InstL} {k : Nat} (hk : k < p.args.length) : zci fm p (k + 1) = zci fm p k ++ zpN (p.args.getD k zeroA) := by
  unfold zci; rw [zc4 (d := zeroA) hk]; simp
theorem zrA {fm : FormL} {p : InstL} {k : Nat} : (zci fm p k).length ≤ 2 + zm3 p.args k := by
  unfold zci zm3
  have h1 : (zfN fm p.ty p.res).length ≤ 2 := by unfold zfN; split <;> split <;> simp
  have h2 : ∀ l : List ArgP, (l.flatMap zpN).length ≤ (l.map za1).sum := by
    intro l
    induction l with
    | nil => simp
    | cons a l ih => have := zx6 a; simp only [List.flatMap_cons, List.length_append, List.map_cons, List.sum_cons]; omega
  have := h2 (p.args.take k)
  rw [List.length_append]; omega
theorem zrB {fm : FormL} {p : InstL} : zci fm p p.args.length = zhg fm p := by unfold zci zhg; rw [List.take_length]
end Go.SK
namespace Go.SK
open Go.RowKit
theorem rg35 : List.range 35 = [0, 1, 2, 3, 4, 5, 6, 7, 8, 9, 10, 11, 12, 13, 14, 15, 16, 17, 18, 19, 20, 21, 22, 23, 24, 25, 26, 27, 28, 29, 30, 31, 32, 33, 34] := rfl
end Go.SK
namespace Go.SK
theorem zqX {n : Nat} (h : n < 16) : ((ziZ n).toNat : Int) = if n < 10 then 48 + (n : Int) else 87 + n := by
  unfold ziZ; split <;> simp <;> omega
end Go.SK
namespace Go.SK
open Go.RowKit
theorem ztj {s t : List UInt8} (h : s = t) : str s = str t := by rw [h]
end Go.SK
namespace Go.SK
open Go Go.Proofs
open Go.RowKit
theorem zg6 (x : Int) (n : Nat) (hx : x = n) (hn : n < 16) (w : World) : Ret Tryz.prog 203 #[.int .u8 x] w (fun v w' => v = .int .u8 ((ziZ n).toNat : Int) ∧ St w NoM [] [] w') := by
 refine zav (args := [.int .u8 x]) Tryz.func203 rfl rfl rfl ?_
 have hst := St.init w
 refine SR <| AC rfl <| NL <| SQ <| SR <| MC rfl <| CN <| zaS rfl rfl <| NL <| zab rfl (fun g1 => ?_) (fun g1 => ?_)
 ·refine SR <| MC rfl <| CN <| zas rfl rfl rfl Wu8 <| AC rfl <| NL <| zah Tryz.func203 rfl (TP (v := .int .u8 _) rfl) <| ⟨congrArg (Value.int .u8) ?_, hst.pure⟩
  rw [zqX hn]
  split <;> omega
 refine zaf <| SR <| MC rfl <| CN <| zas rfl rfl rfl Wu8 <| CN <| zbx rfl rfl rfl Wu8 <| AC rfl <| NL <| zah Tryz.func203 rfl (TP (v := .int .u8 _) rfl) <| ⟨congrArg (Value.int .u8) ?_, hst.pure⟩
 rw [zqX hn]
 split <;> omega
end Go.SK
namespace Go.SK
theorem znV : ∀ (l : List Tx) (x : Tx), l ≠ [] → Lib.join (l ++ [x]) [32] = Lib.join l [32] ++ 32 :: x
  | [], x, h => absurd rfl h
  | [y], x, _ => by rw [List.singleton_append, join_cons, zd3, zd3]
  | y :: z :: r, x, _ => by
    rw [List.cons_append, List.cons_append, join_cons, join_cons, ← List.cons_append, znV (z :: r) x (by simp)]; simp
end Go.SK
namespace Go.SK
open Go Go.Proofs
theorem zq7 : zaN Tryz.prog 203 := ⟨Tryz.f203, _, Tryz.func203, Kr, rfl⟩
end Go.SK
namespace Go.SK
open Go Go.Proofs
open Go.RowKit
theorem zp8 (s : Tx) (w : World) (hl : s.length ≤ 1099511627776) : Ret Tryz.prog 164 #[str s] w (fun v w' => v = str (zd0 s) ∧ St w NoM [] [] w') := by
 refine zav (args := [str s]) Tryz.func164 rfl rfl rfl ?_
 have hst := St.init w
 refine SR <| AS rfl <| NSR <| AL rfl <| NSR <| ML rfl <| CN (zaE (z0 := [.int .u8 0]) hst zcr ty5 rfl rfl Kr (.c (v := .int .u8 _) rfl (h := .nil)) fun w b7 hst => ?_)
 replace hst := hst.pushNil 5 1
 refine CN (zaI (news := byC 34) hst zcr ty5 rfl rfl .u0 rfl rfl rfl (zac (n := 1) (hst.objL Q1) _ rfl) rfl rfl Om fun w ao1 cp2 hst => ?_)
 replace hst := hst.drop .u1
 refine AL rfl <| NL <| SQ <| SR <| AI rfl <| NL <| zao <| zaV <| zaU [(0, str _)] ⟨rfl, trivial⟩ (fun (qq : Nat × Option Addr × Nat) => [(3, .slice qq.2.1 (qb s qq.1).length qq.2.2), (4, .int .i64 (qq.1 : Int))]) (fun (qq : Nat × Option Addr × Nat) => [Res.sl qq.2.1 (qb s qq.1).length qq.2.2 5 1 ((qb s qq.1).flatMap byC)]) (fun (qq : Nat × Option Addr × Nat) => qq.1 ≤ s.length) (fun (qq : Nat × Option Addr × Nat) => s.length - qq.1) ((0, ao1, cp2)) hst (Nat.zero_le _) E2 ?_
 intro ⟨i, aq, cq⟩ f w hst hJ ih3
 replace hst : St _ _ ([Res.sl aq (qb s i).length cq 5 1 ((qb s i).flatMap byC)] ++ []) _ _ := hst
 replace hJ : i ≤ s.length := hJ
 refine za2 (sl := [(3, .slice aq (qb s i).length cq), (4, .int .i64 (i : Int))]) E2 ?_
 have hidx : (s.getD ((i : Int).toNat) 0).toNat = (s.getD i 0).toNat := rfl
 have hql := ztv s i
 have hc8 := (s.getD i 0).toNat_lt
 refine SQ <| SR <| MI rfl <| MS rfl <| CN <| zaL (rest := []) ty9 rfl <| CN <| zaS rfl rfl <| NL <| zab rfl (fun g4 => ?_) (fun g4 => ?_)
 ·refine zaf <| SQ <| zao <| SR <| MS rfl <| MI rfl <| CN <| zaH ty9 rfl rfl Om Om <| AC rfl <| NL <| SQ <| SR <| MC rfl <| CN (zaS rfl rfl ?_)
  refine MB rfl <| zan (d := 20) rfl (fun g5 => ?_) (fun g5 => ?_)
  ·refine OM (t := 20) rfl (Vb (Dt g5)) rfl <| OM (t := 20) rfl (Vb (Dt g5)) rfl <| CN <| zap (u := .bool _) (Vb (Dt g5)) rfl <| NL <| zax (Vb (rfl : true = _)) <| SR <| ML rfl <| MC rfl ?_
   first | refine CN (zf5 rfl rfl Om Om rfl Wu8 ?_) | refine CN (zhA rfl rfl Om ?_)
   refine CN <| Op1.call1 (v1 := .int .u8 _) zq7 rfl rfl <| Ret.det (zg6 _ ((s.getD i 0).toNat / 16) Om Om _) hst fun w hst => MC rfl ?_
   first | refine CN (zdW rfl rfl Om Om rfl ?_) | refine CN (zfd rfl rfl Om ?_)
   refine CN <| Op1.call1 (v1 := .int .u8 _) zq7 rfl rfl <| Ret.det (zg6 _ ((s.getD i 0).toNat % 16) Om Om _) hst fun w hst => CN (zaE (z0 := [.int .u8 0, .int .u8 0, .int .u8 0, .int .u8 0]) hst zcr ty5 rfl rfl Kr (.c (v := .int .u8 _) rfl (h := (.c (v := .int .u8 _) rfl (h := (.c (v := .int .u8 _) rfl (h := (.c (v := .int .u8 _) rfl (h := .nil)))))))) fun w b31 hst => ?_)
   refine CN (zaI (news := [(92 : UInt8), 120, ziZ ((s.getD i 0).toNat / 16), ziZ ((s.getD i 0).toNat % 16)].flatMap byC) hst zcr ty5 rfl rfl .u1 rfl rfl rfl (zac (n := 4) (hst.objL Q0) _ rfl) rfl rfl Om fun w ao6 cp7 hst => ?_)
   replace hst := hst.drop .u1
   refine AL rfl <| NL <| zaJ (id := 1) rfl <| zaj [(0, str _), (3, .slice _ _ _), (4, .int .i64 _)] E3 fun f => RG <| MI rfl <| CN <| zas rfl rfl rfl zbe <| AI rfl <| NL <| zay ?_
   have hqs := ze8 (s := s) (i := i) Om (zgP Om)
   exact ih3 ((i + 1, ao6, cp7)) _ w ((by (try dsimp only); omega)) (by (try dsimp only); rw [hqs, List.length_append, List.flatMap_append]; exact hst) (by (try dsimp only); omega) ⟨rfl, trivial⟩ ⟨(by (try dsimp only); rw [hqs, List.length_append]; rfl), (Vi (by (try dsimp only); omega)), trivial⟩
  refine TK (t := 20) rfl (Vb (Df g5)) <| zad (v := .int .u8 _) rfl <| TK (t := 20) rfl (Vb (Df g5)) <| zbm rfl rfl <| CN <| zaq (u := .bool _) (Vb (Df g5)) rfl <| NL <| zab rfl (fun g8 => ?_) (fun g8 => ?_)
  ·refine SR <| ML rfl <| MC rfl ?_
   first | refine CN (zf5 rfl rfl Om Om rfl Wu8 ?_) | refine CN (zhA rfl rfl Om ?_)
   refine CN <| Op1.call1 (v1 := .int .u8 _) zq7 rfl rfl <| Ret.det (zg6 _ ((s.getD i 0).toNat / 16) Om Om _) hst fun w hst => MC rfl ?_
   first | refine CN (zdW rfl rfl Om Om rfl ?_) | refine CN (zfd rfl rfl Om ?_)
   refine CN <| Op1.call1 (v1 := .int .u8 _) zq7 rfl rfl <| Ret.det (zg6 _ ((s.getD i 0).toNat % 16) Om Om _) hst fun w hst => CN (zaE (z0 := [.int .u8 0, .int .u8 0, .int .u8 0, .int .u8 0]) hst zcr ty5 rfl rfl Kr (.c (v := .int .u8 _) rfl (h := (.c (v := .int .u8 _) rfl (h := (.c (v := .int .u8 _) rfl (h := (.c (v := .int .u8 _) rfl (h := .nil)))))))) fun w b31 hst => ?_)
   refine CN (zaI (news := [(92 : UInt8), 120, ziZ ((s.getD i 0).toNat / 16), ziZ ((s.getD i 0).toNat % 16)].flatMap byC) hst zcr ty5 rfl rfl .u1 rfl rfl rfl (zac (n := 4) (hst.objL Q0) _ rfl) rfl rfl Om fun w ao9 cp10 hst => ?_)
   replace hst := hst.drop .u1
   refine AL rfl <| NL <| zaJ (id := 1) rfl <| zaj [(0, str _), (3, .slice _ _ _), (4, .int .i64 _)] E3 fun f => RG <| MI rfl <| CN <| zas rfl rfl rfl zbe <| AI rfl <| NL <| zay ?_
   have hqs := ze8 (s := s) (i := i) Om (zgP Om)
   exact ih3 ((i + 1, ao9, cp10)) _ w ((by (try dsimp only); omega)) (by (try dsimp only); rw [hqs, List.length_append, List.flatMap_append]; exact hst) (by (try dsimp only); omega) ⟨rfl, trivial⟩ ⟨(by (try dsimp only); rw [hqs, List.length_append]; rfl), (Vi (by (try dsimp only); omega)), trivial⟩
  refine zaf <| SQ <| SR <| MC rfl <| CN <| zak rfl rfl <| MB rfl <| zan (d := 35) rfl (fun g11 => ?_) (fun g11 => ?_)
  ·refine OM (t := 35) rfl (Vb (Dt g11)) rfl <| OM (t := 35) rfl (Vb (Dt g11)) rfl <| CN <| zap (u := .bool _) (Vb (Dt g11)) rfl <| NL <| zax (Vb (rfl : true = _)) <| RG <| ML rfl <| CN (zaE (z0 := [.int .u8 0]) hst zcr ty5 rfl rfl Kr (.c (v := .int .u8 _) rfl (h := .nil)) fun w b40 hst => ?_)
   refine CN (zaI (news := byC 92) hst zcr ty5 rfl rfl .u1 rfl rfl rfl (zac (n := 1) (hst.objL Q0) _ rfl) rfl rfl Om fun w ao12 cp13 hst => ?_)
   replace hst := hst.drop .u1
   refine AL rfl <| NL <| zaj [(0, str _), (3, .slice _ _ _), (4, .int .i64 _), (5, .int .u8 _)] E4 fun f => RG <| ML rfl <| MC rfl <| CN (zaE (z0 := [.int .u8 0]) hst zcr ty5 rfl rfl Kr (.c (v := .int .u8 _) rfl (h := .nil)) fun w b44 hst => ?_)
   refine CN (zaI (news := byC (s.getD ((i : Int).toNat) 0)) hst zcr ty5 rfl rfl .u1 rfl rfl rfl (zac (n := 1) (hst.objL Q0) _ rfl) rfl rfl Om fun w ao14 cp15 hst => ?_)
   replace hst := hst.drop .u1
   refine AL rfl <| NL <| zam <| RG <| MI rfl <| CN <| zas rfl rfl rfl zbe <| AI rfl <| NL <| zay ?_
   have hqs := ze8 (s := s) (i := i) Om (zgQ Om Om)
   exact ih3 ((i + 1, ao14, cp15)) _ w ((by (try dsimp only); omega)) (by (try dsimp only); rw [hqs, List.length_append, List.flatMap_append]; rw [List.append_assoc] at hst; exact hst) (by (try dsimp only); omega) ⟨rfl, trivial⟩ ⟨(by (try dsimp only); rw [hqs, List.length_append]; rfl), (Vi (by (try dsimp only); omega)), trivial⟩
  refine TK (t := 35) rfl (Vb (Df g11)) <| zad (v := .int .u8 _) rfl <| TK (t := 35) rfl (Vb (Df g11)) <| zak rfl rfl <| CN <| zaq (u := .bool _) (Vb (Df g11)) rfl <| NL <| zaj [(0, str _), (3, .slice _ _ _), (4, .int .i64 _), (5, .int .u8 _), (38, .bool _)] E5 fun f => zab rfl (fun g16 => ?_) (fun g16 => ?_)
  ·refine RG <| ML rfl <| CN (zaE (z0 := [.int .u8 0]) hst zcr ty5 rfl rfl Kr (.c (v := .int .u8 _) rfl (h := .nil)) fun w b40 hst => ?_)
   refine CN (zaI (news := byC 92) hst zcr ty5 rfl rfl .u1 rfl rfl rfl (zac (n := 1) (hst.objL Q0) _ rfl) rfl rfl Om fun w ao17 cp18 hst => ?_)
   replace hst := hst.drop .u1
   refine AL rfl <| NR <| ML rfl <| MC rfl <| CN (zaE (z0 := [.int .u8 0]) hst zcr ty5 rfl rfl Kr (.c (v := .int .u8 _) rfl (h := .nil)) fun w b44 hst => ?_)
   refine CN (zaI (news := byC (s.getD ((i : Int).toNat) 0)) hst zcr ty5 rfl rfl .u1 rfl rfl rfl (zac (n := 1) (hst.objL Q0) _ rfl) rfl rfl Om fun w ao19 cp20 hst => ?_)
   replace hst := hst.drop .u1
   refine AL rfl <| NL <| zam <| RG <| MI rfl <| CN <| zas rfl rfl rfl zbe <| AI rfl <| NL <| zay ?_
   have hqs := ze8 (s := s) (i := i) Om (zgQ Om Om)
   exact ih3 ((i + 1, ao19, cp20)) _ w ((by (try dsimp only); omega)) (by (try dsimp only); rw [hqs, List.length_append, List.flatMap_append]; rw [List.append_assoc] at hst; exact hst) (by (try dsimp only); omega) ⟨rfl, trivial⟩ ⟨(by (try dsimp only); rw [hqs, List.length_append]; rfl), (Vi (by (try dsimp only); omega)), trivial⟩
  refine zaf <| RG <| ML rfl <| MC rfl <| CN (zaE (z0 := [.int .u8 0]) hst zcr ty5 rfl rfl Kr (.c (v := .int .u8 _) rfl (h := .nil)) fun w b44 hst => ?_)
  refine CN (zaI (news := byC (s.getD ((i : Int).toNat) 0)) hst zcr ty5 rfl rfl .u1 rfl rfl rfl (zac (n := 1) (hst.objL Q0) _ rfl) rfl rfl Om fun w ao21 cp22 hst => ?_)
  replace hst := hst.drop .u1
  refine AL rfl <| NL <| zam <| RG <| MI rfl <| CN <| zas rfl rfl rfl zbe <| AI rfl <| NL <| zay ?_
  have hqs := ze8 (s := s) (i := i) Om (zjk Om Om)
  exact ih3 ((i + 1, ao21, cp22)) _ w ((by (try dsimp only); omega)) (by (try dsimp only); rw [hqs, List.length_append, List.flatMap_append]; exact hst) (by (try dsimp only); omega) ⟨rfl, trivial⟩ ⟨(by (try dsimp only); rw [hqs, List.length_append]; rfl), (Vi (by (try dsimp only); omega)), trivial⟩
 refine zaJ (id := 0) rfl <| SR <| ML rfl <| CN (zaE (z0 := [.int .u8 0]) hst zcr ty5 rfl rfl Kr (.c (v := .int .u8 _) rfl (h := .nil)) fun w b47 hst => ?_)
 refine CN (zaI (news := byC 34) hst zcr ty5 rfl rfl .u1 rfl rfl rfl (zac (n := 1) (hst.objL Q0) _ rfl) rfl rfl Om fun w ao23 cp24 hst => ?_)
 replace hst := hst.drop .u1
 refine AL rfl <| NSR <| ML rfl <| CN <| zc7 (l := zd0 s) zcr ty5 ty9 rfl (by rw [← znC (i := i) (by omega), List.length_append]; rfl) (Res.rs_of_sl (hst.hL _ Q0)) (by rw [← znC (i := i) (by omega), List.flatMap_append]; rfl) <| AS rfl <| NL <| zah Tryz.func164 rfl (TP (v := str _) rfl) ?_
 exact ⟨rfl, hst.pure⟩
end Go.SK
namespace Go.SK
open Go Go.Proofs
theorem ent164 : zaN Tryz.prog 164 := ⟨Tryz.f164, _, Tryz.func164, Kr, rfl⟩
theorem ent112 : zaN Tryz.prog 112 := ⟨Tryz.f112, _, Tryz.func112, Kr, rfl⟩
end Go.SK
namespace Go.SK
open Go Go.Proofs
open Go.RowKit
theorem zwJ (t : TokL) (w : World) (hl : t.text.length ≤ 1099511627776) : Ret Tryz.prog 112 #[.agg #[.int .u8 t.kind, str t.text, .int .i64 t.at_]] w (fun v w' => (∃ x, wrT t = some x ∧ v = .tuple #[str x, .int .i64 0] ∧ St w NoM [] [] w') ∨ (wrT t = none ∧ v = .tuple #[str [], .int .i64 2] ∧ St w NoM [] [] w')) := by
 refine zav (args := [.agg #[.int .u8 t.kind, str t.text, .int .i64 t.at_]]) Tryz.func112 rfl rfl rfl ?_
 have hst := St.init w
 refine SR <| CN <| zbi (v := zbO _ _ _) hst rfl rfl fun w b1 hst => AS rfl <| AI rfl <| NL <| SQ <| SR <| CN <| zaa zfc rfl <| CN <| zae (v := .int .u8 _) ty5 rfl rfl (hst.cellL Q0 rfl) <| NL <| zao <| SQ <| RG ?_
 refine CN <| zak rfl rfl <| AB rfl <| NL <| zab rfl (fun g1 => ?_) (fun g1 => ?_)
 ·refine SQ <| RunD.start [] hst (bs := [0, 1, 3, 7, 15, 31, 63, 127, 255, 511, 1023, 2047, 4095, 1023, 9215, 32767, 65535]) (ds := [some 12, some 13, some 14, some 15, some 16, some 17, some 18, some 19, some 20, some 21, some 22, some 23, some 24, some 25, some 26, some 27, some 28]) ⟨Kr, Kr, Kr⟩ (fun tab2 => ?_)
  refine DO tab2 1 (fun f' L' w' hc=> zaa zbl (hc.old (v := Pp _ _) rfl rfl rfl) hc.z) <| DO tab2 2 (fun f' L' w' hc=> zae (v := str _) ty9 rfl (hc.d 0 rfl rfl rfl rfl) (hc.st.cellL (List.mem_append_right _ Q0) rfl) hc.z) <| DO tab2 3 (fun f' L' w' hc=> zcN (hc.d 1 rfl rfl rfl rfl) rfl hc.z) <| DO tab2 4 (fun _ _ _ hc => zad (v := .bool _) (hc.d 2 rfl rfl rfl rfl) hc.z) <| zcM (j := 3) rfl (fun g3 => ?_) (fun g3 => ?_)
  ·have hpos : 0 < t.text.length := List.length_pos_iff.2 g3
   refine RunD.take (det _) tab2 5 rfl (fun f' L' w' hc=> (hc.d 3 rfl rfl rfl rfl).trans (Vb (Dt g3))) (fun f' L' w' hc=> zaa zbl (hc.old (v := Pp _ _) rfl rfl rfl) hc.z) <| RunD.take (det _) tab2 6 rfl (fun f' L' w' hc=> (hc.d 3 rfl rfl rfl rfl).trans (Vb (Dt g3))) (fun f' L' w' hc=> zae (v := str _) ty9 rfl (hc.d 4 rfl rfl rfl rfl) (hc.st.cellL (List.mem_append_right _ Q0) rfl) hc.z) <| RunD.take (det _) tab2 7 rfl (fun f' L' w' hc=> (hc.d 3 rfl rfl rfl rfl).trans (Vb (Dt g3))) (fun f' L' w' hc=> zaH ty9 (hc.d 5 rfl rfl rfl rfl) rfl Om Om hc.z) <| RunD.take (det _) tab2 8 rfl (fun f' L' w' hc=> (hc.d 3 rfl rfl rfl rfl).trans (Vb (Dt g3))) (fun f' L' w' hc=> Op1.call1 (v1 := .int .u8 _) zul rfl (hc.d 6 rfl rfl rfl rfl) ((zhy _ _).mono fun v w hp => ⟨[], ⟨hp.1, rfl⟩, hc.st.keepc hp.2⟩)) <| DO tab2 9 (fun f' L' w' hc=> zap (u := .bool _) (((hc.d 3 rfl rfl rfl rfl)).trans (Vb (Dt g3))) (hc.d 7 rfl rfl rfl rfl) hc.z) <| DO tab2 10 (fun _ _ _ hc => zad (v := .bool _) (hc.d 8 rfl rfl rfl rfl) hc.z) <| zsq (j := 9) rfl (fun g4 => ?_) (fun g4 => ?_)
   ·refine RunD.take (det _) tab2 11 rfl (fun f' L' w' hc=> (hc.d 9 rfl rfl rfl rfl).trans (Vb g4)) (fun f' L' w' hc=> zaa zbl (hc.old (v := Pp _ _) rfl rfl rfl) hc.z) <| RunD.take (det _) tab2 12 rfl (fun f' L' w' hc=> (hc.d 9 rfl rfl rfl rfl).trans (Vb g4)) (fun f' L' w' hc=> zae (v := str _) ty9 rfl (hc.d 10 rfl rfl rfl rfl) (hc.st.cellL (List.mem_append_right _ Q0) rfl) hc.z) <| RunD.take (det _) tab2 13 rfl (fun f' L' w' hc=> (hc.d 9 rfl rfl rfl rfl).trans (Vb g4)) (fun f' L' w' hc=> zaz (v1 := str _) (v2 := .int .i64 _) zoi rfl (hc.d 11 rfl rfl rfl rfl) rfl ((zil t.text _ 0 rfl (Nat.zero_le _) _ Om).mono fun v w hp => ⟨[], ⟨hp.1, rfl⟩, hc.st.keepc hp.2⟩)) <| RunD.take (det _) tab2 14 rfl (fun f' L' w' hc=> (hc.d 9 rfl rfl rfl rfl).trans (Vb g4)) (fun f' L' w' hc=> zaa zbl (hc.old (v := Pp _ _) rfl rfl rfl) hc.z) <| RunD.take (det _) tab2 15 rfl (fun f' L' w' hc=> (hc.d 9 rfl rfl rfl rfl).trans (Vb g4)) (fun _ _ _ hc => zae (v := str _) ty9 rfl (hc.d 13 rfl rfl rfl rfl) (hc.st.cellL (List.mem_append_right _ Q0) rfl) hc.z) <| RunD.fin zaw tab2 hst rfl (fun f5 w R8 hs6 hd7 hr9 hst => ?_)
    obtain ⟨h12_, r0⟩ := hd7 0 12 rfl rfl
    obtain ⟨h13_, r1⟩ := hd7 1 13 rfl rfl
    obtain ⟨h14_, r2⟩ := hd7 2 14 rfl rfl
    obtain ⟨h15_, r3⟩ := hd7 3 15 rfl rfl
    obtain ⟨h16_, r4⟩ := hd7 4 16 rfl rfl
    obtain ⟨h17_, r5⟩ := hd7 5 17 rfl rfl
    obtain ⟨h18_, r6⟩ := hd7 6 18 rfl rfl
    obtain ⟨h19_, r7⟩ := hd7 7 19 rfl rfl
    obtain ⟨h20_, r8⟩ := hd7 8 20 rfl rfl
    obtain ⟨h21_, r9⟩ := hd7 9 21 rfl rfl
    obtain ⟨h22_, r10⟩ := hd7 10 22 rfl rfl
    obtain ⟨h23_, r11⟩ := hd7 11 23 rfl rfl
    obtain ⟨h24_, r12⟩ := hd7 12 24 rfl rfl
    obtain ⟨h25_, r13⟩ := hd7 13 25 rfl rfl
    obtain ⟨h26_, r14⟩ := hd7 14 26 rfl rfl
    simp only [rg15, Fc, Fn, Mc, Mn, r0, r1, r2, r3, r4, r5, r6, r7, r8, r9, r10, r11, r12, r13, r14, Na, An, Ca] at hst
    refine zaD (sl := [(1, Pp _ _), (21, .bool _), (24, str _), (26, str _)]) ⟨(hs6 1 rfl).trans rfl, h21_, h24_, h26_, trivial⟩ ?_
    clear hs6 hd7 hr9 tab2
    refine TK (t := 21) rfl (Vb g4) <| zbV rfl rfl <| CN <| zap (u := .bool _) (Vb g4) rfl <| NL <| zaj [(1, Pp _ _), (28, .bool _)] E2 fun f => zab rfl (fun g10 => ?_) (fun g10 => ?_)
    ·refine SR <| CN <| zaa zbl rfl <| CN <| zae (v := str _) ty9 rfl rfl (hst.cellL Q0 rfl) <| AS rfl <| AI rfl <| NL <| zai Tryz.func112 rfl (TP (v := str _) rfl) (TP (v := .int .i64 _) rfl) ?_
     exact .inl ⟨_, zqs Om g3 g4 g10, rfl, hst.pure⟩
    refine zaf <| zam <| SR <| AS rfl <| AI rfl <| NL <| zai Tryz.func112 rfl (TP (v := str _) rfl) (TP (v := .int .i64 _) rfl) ?_
    exact .inr ⟨zla Om (fun q => g10 q.2.2), rfl, hst.pure⟩
   refine zaX tab2 11 rfl rfl (fun f' L' w' hc=> (hc.d 9 rfl rfl rfl rfl).trans (Vb g4)) <| zaX tab2 12 rfl rfl (fun f' L' w' hc=> (hc.d 9 rfl rfl rfl rfl).trans (Vb g4)) <| zaX tab2 13 rfl rfl (fun f' L' w' hc=> (hc.d 9 rfl rfl rfl rfl).trans (Vb g4)) <| zaX tab2 14 rfl rfl (fun f' L' w' hc=> (hc.d 9 rfl rfl rfl rfl).trans (Vb g4)) <| zaX tab2 15 rfl rfl (fun _ _ _ hc => (hc.d 9 rfl rfl rfl rfl).trans (Vb g4)) <| RunD.fin zaw tab2 hst rfl (fun f11 w R14 hs12 hd13 hr15 hst => ?_)
   obtain ⟨h12_, r0⟩ := hd13 0 12 rfl rfl
   obtain ⟨h13_, r1⟩ := hd13 1 13 rfl rfl
   obtain ⟨h14_, r2⟩ := hd13 2 14 rfl rfl
   obtain ⟨h15_, r3⟩ := hd13 3 15 rfl rfl
   obtain ⟨h16_, r4⟩ := hd13 4 16 rfl rfl
   obtain ⟨h17_, r5⟩ := hd13 5 17 rfl rfl
   obtain ⟨h18_, r6⟩ := hd13 6 18 rfl rfl
   obtain ⟨h19_, r7⟩ := hd13 7 19 rfl rfl
   obtain ⟨h20_, r8⟩ := hd13 8 20 rfl rfl
   obtain ⟨h21_, r9⟩ := hd13 9 21 rfl rfl
   obtain ⟨h22_, r10⟩ := hd13 10 22 rfl rfl
   obtain ⟨h23_, r11⟩ := hd13 11 23 rfl rfl
   obtain ⟨h24_, r12⟩ := hd13 12 24 rfl rfl
   obtain ⟨h25_, r13⟩ := hd13 13 25 rfl rfl
   obtain ⟨h26_, r14⟩ := hd13 14 26 rfl rfl
   simp only [rg15, Fc, Fn, Mc, Mn, r0, r1, r2, r3, r4, r5, r6, r7, r8, r9, r10, r11, r12, r13, r14, Na, An, Ca] at hst
   refine zaD (sl := [(1, Pp _ _), (21, .bool _), (24, _), (26, _)]) ⟨(hs12 1 rfl).trans rfl, h21_, h24_, h26_, trivial⟩ ?_
   clear hs12 hd13 hr15 tab2
   refine OM (t := 21) rfl (Vb g4) rfl <| CN <| zaq (u := .bool _) (Vb g4) rfl <| NL <| zat (Vb (rfl : false = _)) <| zaf <| zam <| SR <| AS rfl <| AI rfl <| NL <| zai Tryz.func112 rfl (TP (v := str _) rfl) (TP (v := .int .i64 _) rfl) ?_
   exact .inr ⟨zla Om (fun q => zwc g4 q.2.1), rfl, hst.pure⟩
  refine zaX tab2 5 rfl rfl (fun f' L' w' hc=> (hc.d 3 rfl rfl rfl rfl).trans (Vb (Df g3))) <| zaX tab2 6 rfl rfl (fun f' L' w' hc=> (hc.d 3 rfl rfl rfl rfl).trans (Vb (Df g3))) <| zaX tab2 7 rfl rfl (fun f' L' w' hc=> (hc.d 3 rfl rfl rfl rfl).trans (Vb (Df g3))) <| zaX tab2 8 rfl rfl (fun f' L' w' hc=> (hc.d 3 rfl rfl rfl rfl).trans (Vb (Df g3))) <| DO tab2 9 (fun f' L' w' hc=> zaq (u := .bool _) (((hc.d 3 rfl rfl rfl rfl)).trans (Vb (Df g3))) rfl hc.z) <| DO tab2 10 (fun f' L' w' hc=> zad (v := .bool _) (hc.d 8 rfl rfl rfl rfl) hc.z) <| zaX tab2 11 rfl rfl (fun f' L' w' hc=> (hc.d 9 rfl rfl rfl rfl).trans (Vb (rfl : false = _))) <| zaX tab2 12 rfl rfl (fun f' L' w' hc=> (hc.d 9 rfl rfl rfl rfl).trans (Vb (rfl : false = _))) <| zaX tab2 13 rfl rfl (fun f' L' w' hc=> (hc.d 9 rfl rfl rfl rfl).trans (Vb (rfl : false = _))) <| zaX tab2 14 rfl rfl (fun f' L' w' hc=> (hc.d 9 rfl rfl rfl rfl).trans (Vb (rfl : false = _))) <| zaX tab2 15 rfl rfl (fun _ _ _ hc => (hc.d 9 rfl rfl rfl rfl).trans (Vb (rfl : false = _))) <| RunD.fin zaw tab2 hst rfl (fun f16 w R19 hs17 hd18 hr20 hst => ?_)
  obtain ⟨h12_, r0⟩ := hd18 0 12 rfl rfl
  obtain ⟨h13_, r1⟩ := hd18 1 13 rfl rfl
  obtain ⟨h14_, r2⟩ := hd18 2 14 rfl rfl
  obtain ⟨h15_, r3⟩ := hd18 3 15 rfl rfl
  obtain ⟨h16_, r4⟩ := hd18 4 16 rfl rfl
  obtain ⟨h17_, r5⟩ := hd18 5 17 rfl rfl
  obtain ⟨h18_, r6⟩ := hd18 6 18 rfl rfl
  obtain ⟨h19_, r7⟩ := hd18 7 19 rfl rfl
  obtain ⟨h20_, r8⟩ := hd18 8 20 rfl rfl
  obtain ⟨h21_, r9⟩ := hd18 9 21 rfl rfl
  obtain ⟨h22_, r10⟩ := hd18 10 22 rfl rfl
  obtain ⟨h23_, r11⟩ := hd18 11 23 rfl rfl
  obtain ⟨h24_, r12⟩ := hd18 12 24 rfl rfl
  obtain ⟨h25_, r13⟩ := hd18 13 25 rfl rfl
  obtain ⟨h26_, r14⟩ := hd18 14 26 rfl rfl
  simp only [rg15, Fc, Fn, Mc, Mn, r0, r1, r2, r3, r4, r5, r6, r7, r8, r9, r10, r11, r12, r13, r14, Na, An, Ca] at hst
  refine zaD (sl := [(1, Pp _ _), (21, .bool _), (24, _), (26, _)]) ⟨(hs17 1 rfl).trans rfl, h21_, h24_, h26_, trivial⟩ ?_
  clear hs17 hd18 hr20 tab2
  refine OM (t := 21) rfl (Vb (rfl : false = _)) rfl <| CN <| zaq (u := .bool _) (Vb (rfl : false = _)) rfl <| NL <| zat (Vb (rfl : false = _)) <| zaf <| zam <| SR <| AS rfl <| AI rfl <| NL <| zai Tryz.func112 rfl (TP (v := str _) rfl) (TP (v := .int .i64 _) rfl) ?_
  exact .inr ⟨zla Om (fun q => g3 q.1), rfl, hst.pure⟩
 refine SR <| CN <| zak rfl rfl <| AB rfl <| NL <| zab rfl (fun g21 => ?_) (fun g21 => ?_)
 ·refine SR <| CN <| zaa zbl rfl <| CN <| zae (v := str _) ty9 rfl rfl (hst.cellL Q0 rfl) <| CN <| Op1.call1 (v1 := str _) zok rfl rfl <| Ret.det (zfB t.text _ Om) hst fun w hst => CN <| zad (v := .tuple #[.int .u64 _, .bool _]) rfl <| CN <| Ex (.int .u64 _) rfl rfl <| CN <| Ex (.bool _) rfl rfl <| CN <| Op1.assign (v := .int .u64 _) rfl <| AB rfl <| NSR <| MB rfl <| NL ?_
  refine zaA rfl (fun g22 => ?_) (fun g22 => ?_)
  ·refine SR <| CN <| zaa zbl rfl <| CN <| zae (v := str _) ty9 rfl rfl (hst.cellL Q0 rfl) <| CN <| zcD rfl rfl (by first | omega | (simp only [List.length_cons, List.length_nil, List.length_append]; omega) | (simp; omega)) <| AS rfl <| AI rfl <| NL <| zai Tryz.func112 rfl (TP (v := str _) rfl) (TP (v := .int .i64 _) rfl) ?_
   exact .inl ⟨_, zqr Om g22, rfl, hst.pure⟩
  refine zaf <| zam <| SR <| AS rfl <| AI rfl <| NL <| zai Tryz.func112 rfl (TP (v := str _) rfl) (TP (v := .int .i64 _) rfl) ?_
  exact .inr ⟨zwU Om (zwc g22), rfl, hst.pure⟩
 refine SR <| CN <| zak rfl rfl <| AB rfl <| NL <| zab rfl (fun g23 => ?_) (fun g23 => ?_)
 ·refine SR <| CN <| zaa zbl rfl <| CN <| zae (v := str _) ty9 rfl rfl (hst.cellL Q0 rfl) <| CN <| Op1.call1 (v1 := str _) zoj rfl rfl <| Ret.det (zeM t.text _ Om) hst fun w hst => CN <| zad (v := .tuple #[.int .u32 _, .int .i64 _]) rfl <| CN <| Ex (.int .u32 _) rfl rfl <| CN <| Ex (.int .i64 _) rfl rfl <| AU rfl <| AI rfl <| NL <| zaj [(1, Pp _ _), (7, .int .i64 _)] E2 fun f => SR <| MI rfl ?_
  refine CN <| zak rfl rfl <| NL <| zab rfl (fun g24 => ?_) (fun g24 => ?_)
  ·refine SR <| CN <| zaa zbl rfl <| CN <| zae (v := str _) ty9 rfl rfl (hst.cellL Q0 rfl) <| AS rfl <| AI rfl <| NL <| zai Tryz.func112 rfl (TP (v := str _) rfl) (TP (v := .int .i64 _) rfl) ?_
   exact .inl ⟨_, zqq Om Om, rfl, hst.pure⟩
  refine zaf <| zam <| SR <| AS rfl <| AI rfl <| NL <| zai Tryz.func112 rfl (TP (v := str _) rfl) (TP (v := .int .i64 _) rfl) ?_
  exact .inr ⟨zwT Om Om, rfl, hst.pure⟩
 refine SR <| CN <| zak rfl rfl <| AB rfl <| NL <| zab rfl (fun g25 => ?_) (fun g25 => ?_)
 ·refine SR <| CN <| zaa zbl rfl <| CN <| zae (v := str _) ty9 rfl rfl (hst.cellL Q0 rfl) <| CN <| Op1.call1 (v1 := str _) ent164 rfl rfl <| Ret.det (zp8 t.text _ hl) hst fun w hst => AS rfl <| AI rfl <| NL <| zai Tryz.func112 rfl (TP (v := str _) rfl) (TP (v := .int .i64 _) rfl) ?_
  exact .inl ⟨_, zm9 Om, rfl, hst.pure⟩
 refine SR <| CN <| zak rfl rfl <| AB rfl <| NL <| zab rfl (fun g26 => ?_) (fun g26 => ?_)
 ·refine SR <| CN <| zaa zbl rfl <| CN <| zae (v := str _) ty9 rfl rfl (hst.cellL Q0 rfl) <| CN <| zbV rfl rfl <| NL <| zab rfl (fun g27 => ?_) (fun g27 => ?_)
  ·refine SR <| AS rfl <| AI rfl <| NL <| zai Tryz.func112 rfl (TP (v := str _) rfl) (TP (v := .int .i64 _) rfl) ?_
   exact .inl ⟨_, zjC Om g27, rfl, hst.pure⟩
  refine zaf <| zam <| SR <| AS rfl <| AI rfl <| NL <| zai Tryz.func112 rfl (TP (v := str _) rfl) (TP (v := .int .i64 _) rfl) ?_
  exact .inr ⟨zwS Om g27, rfl, hst.pure⟩
 refine zaf <| zam <| SR <| AS rfl <| AI rfl <| NL <| zai Tryz.func112 rfl (TP (v := str _) rfl) (TP (v := .int .i64 _) rfl) ?_
 exact .inr ⟨wr_no Om Om Om Om Om, rfl, hst.pure⟩
theorem zp6 (l : List TokL) (ao : Option Addr) (cp : Nat) (w : World) (hA0 : (Res.rs ao l.length 3 (l.flatMap zbW)).holds w) (hl : l.length ≤ 1099511627776) (hw : wsz l ≤ 1099511627776) : Ret Tryz.prog 61 #[.slice ao l.length cp] w (fun v w' => v = .tuple #[str (wrS l), .int .i64 (wrE l)] ∧ St w NoM [] [] w') := by
 refine zav (args := [.slice ao l.length cp]) Tryz.func61 rfl rfl rfl ?_
 have hst : St w NoM [] [Res.rs ao l.length 3 (l.flatMap zbW)] w := St.init_D hA0
 refine SR <| AS rfl <| AI rfl <| NSR <| AS rfl <| NL <| SQ <| SR <| AI rfl <| NL <| zao ?_
 refine zaV <| zaU [(0, .slice _ _ _)] ⟨rfl, trivial⟩ (fun (qq : Nat × List Tx) => [(4, str (Lib.join qq.2 [32])), (5, .int .i64 (qq.1 : Int))]) (fun (qq : Nat × List Tx) => []) (fun (qq : Nat × List Tx) => wrI l qq.1 qq.2) (fun (qq : Nat × List Tx) => l.length - qq.1) ((0, [])) hst (zm8 l) E2 ?_
 intro ⟨i, o⟩ f w hst hJ ih1
 replace hst : St _ _ ([] ++ []) _ _ := hst
 replace hJ : wrI l i o := hJ
 refine za2 (sl := [(4, str (Lib.join o [32])), (5, .int .i64 (i : Int))]) E2 ?_
 have hjl := zjr o
 have hj1 := hJ.1
 have hj3 := hJ.2.2.1
 refine SQ <| SR <| MI rfl <| ML rfl <| CN <| zaQ (rest := []) zcB rfl <| CN <| zaS rfl rfl <| NL <| zab rfl (fun g2 => ?_) (fun g2 => ?_)
 ·refine zaf <| SQ <| zao <| SR <| ML rfl <| MI rfl <| CN <| zaO zcB zbd (hst.hD _ Q0) rfl rfl Om Om <| CN (zar (vs := zeS _ _ _) zbd rfl rfl rfl (Res.rs2_cells (m := 3) (hst.hD _ Q0) _ (zbG (g := zbW) (d := zaR) zbk _ _ Om)) ?_)
  have hzt := zqm hJ Om
  have htx : ((l.getD ((i : Int).toNat) zaR).text).length = ((l.getD i zaR).text).length := rfl
  refine CN (Op1.call1 (v1 := zbO _ _ _) ent112 rfl rfl ((zwJ (l.getD ((i : Int).toNat) zaR) _ Om).mono fun v w hp => ?_))
  rcases hp with ⟨x, hx, rfl, hp⟩ | ⟨hx, rfl, hp⟩
  ·replace hst := hst.keepc hp
   clear hp
   have hxl := zqo hx
   refine CN <| zad (v := .tuple #[str _, .int .i64 _]) rfl <| CN <| Ex (str _) rfl rfl <| CN <| Ex (.int .i64 _) rfl rfl <| AS rfl <| AI rfl <| NL <| SQ <| SR <| MI rfl <| CN <| zaW rfl rfl <| NL <| zab rfl (fun g3 => ?_) (fun g3 => ?_)
   ·exfalso
    exact g3 rfl
   refine zaf <| SQ <| SR <| MI rfl <| CN <| zbm rfl rfl <| NL <| zab rfl (fun g4 => ?_) (fun g4 => ?_)
   ·refine RG <| MS rfl <| CN <| zcD rfl rfl (by first | omega | (simp only [List.length_cons, List.length_nil, List.length_append]; omega) | (simp; omega)) <| AS rfl <| NL <| zaj [(0, .slice _ _ _), (4, str _), (5, .int .i64 _), (6, str _)] E4 fun f => RG <| MS rfl <| MS rfl <| CN <| zcD rfl rfl (by first | omega | (simp only [List.length_cons, List.length_nil, List.length_append]; omega) | (simp; omega)) <| AS rfl <| NL <| zam <| RG <| MI rfl ?_
    refine CN <| zas rfl rfl rfl zbe <| AI rfl <| NL <| zay ?_
    exact ih1 ((i + 1, o ++ [x])) _ w ((by (try dsimp only); omega)) hst (zlY hJ (by omega) hx) ⟨rfl, trivial⟩ ⟨(ztj (by (try dsimp only); rw [znV _ _ (fun e => by have hz := hJ.2.1; rw [e] at hz; simp at hz; omega)]; simp)), (Vi (by (try dsimp only); omega)), trivial⟩
   refine zaf <| RG <| MS rfl <| MS rfl <| CN <| zcD rfl rfl (by first | omega | (simp only [List.length_cons, List.length_nil, List.length_append]; omega) | (simp; omega)) <| AS rfl <| NL <| zam <| zaj [(0, .slice _ _ _), (4, str _), (5, .int .i64 _)] E3 fun f => RG <| MI rfl <| CN <| zas rfl rfl rfl zbe <| AI rfl <| NL <| zay ?_
   obtain rfl : o = [] := List.length_eq_zero_iff.1 (by have hz := hJ.2.1; omega)
   exact ih1 ((i + 1, [] ++ [x])) _ w ((by (try dsimp only); omega)) hst (zlY hJ (by omega) hx) ⟨rfl, trivial⟩ ⟨(ztj (by (try dsimp only); rw [List.nil_append, zd3, znW]; rfl)), (Vi (by (try dsimp only); omega)), trivial⟩
  ·replace hst := hst.keepc hp
   clear hp
   refine CN <| zad (v := .tuple #[str _, .int .i64 _]) rfl <| CN <| Ex (str _) rfl rfl <| CN <| Ex (.int .i64 _) rfl rfl <| AS rfl <| AI rfl <| NL <| SQ <| SR <| MI rfl <| CN <| zaW rfl rfl <| NL <| zab rfl (fun g5 => ?_) (fun g5 => ?_)
   ·refine SR <| MI rfl <| AS rfl <| AI rfl <| NL <| zai Tryz.func61 rfl (TP (v := str _) rfl) (TP (v := .int .i64 _) rfl) ?_
    have hwf := zm7 (zwR hJ Om hx)
    rw [hwf.1, hwf.2]
    exact ⟨rfl, hst.pure⟩
   exfalso
   exact g5 De
 refine zaJ (id := 0) rfl <| SR <| MS rfl <| AS rfl <| AI rfl <| NL <| zai Tryz.func61 rfl (TP (v := str _) rfl) (TP (v := .int .i64 _) rfl) ?_
 have hwf := zdX (zs5 hJ Om)
 rw [hwf.1, hwf.2]
 exact ⟨rfl, hst.pure⟩
end Go.SK
namespace Go.SK
open Go Go.Proofs
open Go.RowKit
theorem zlO (c n : Int) (w : World) : Ret Tryz.prog 92 #[.int .u8 c, .int .u32 n] w (fun v w' => v = zvS (namesL.find? (enN c n)) ∧ St w NoM [] [] w') := by
 refine zav (args := [.int .u8 c, .int .u32 n]) Tryz.func92 rfl rfl rfl ?_
 have hst := St.init w
 have hnl : namesL.length = 30 := by decide +kernel
 refine SR <| AS rfl <| AB rfl <| NSR <| CN (Op1.call0  zum rfl  ((zhv _).mono fun v w hp => ?_))
 obtain ⟨aoN, cpN, rfl, hp⟩ := hp
 replace hst := hst.call0 hp
 clear hp
 refine AL rfl <| NL <| SQ <| SR <| AI rfl <| NL <| zao <| zaV <| zaU [(0, .int .u8 _), (1, .int .u32 _), (6, .slice _ _ _)] E3 (fun (i : Nat) => [(7, .int .i64 (i : Int))]) (fun (i : Nat) => []) (fun (i : Nat) => i ≤ namesL.length ∧ (namesL.drop i).find? (enN c n) = namesL.find? (enN c n)) (fun (i : Nat) => namesL.length - i) (0) hst ⟨Nat.zero_le _, rfl⟩ ⟨rfl, trivial⟩ ?_
 intro i f w hst hJ ih1
 refine SQ <| SR <| MI rfl <| ML rfl <| CN <| zaQ (rest := []) zbE rfl <| CN <| zaS rfl rfl <| NL <| zab rfl (fun g2 => ?_) (fun g2 => ?_)
 ·refine zaf <| SQ <| zao <| SR <| ML rfl <| MI rfl ?_
  obtain ⟨bs3, rfl⟩ := Res.sl_some (hst.hL _ Q0) Om
  refine CN <| za5 zbE zbj rfl rfl Om Om <| CN <| zaa zmy rfl <| CN <| zae (v := .int .u8 _) ty5 rfl rfl (Res.sl_cell (hst.hL _ Q0) (za3 (g := zmn) (d := zcz) zeD rfl Om)) <| MC rfl <| CN <| zak rfl rfl <| MB rfl <| zan (d := 22) rfl (fun g4 => ?_) (fun g4 => ?_)
  ·refine TK (t := 22) rfl (Vb (Dt g4)) <| zad (v := .slice _ _ _) rfl <| TK (t := 22) rfl (Vb (Dt g4)) <| zad (v := .int .i64 _) rfl <| TK (t := 22) rfl (Vb (Dt g4)) <| za5 zbE zbj rfl rfl Om Om <| TK (t := 22) rfl (Vb (Dt g4)) <| zaa zq1 rfl <| TK (t := 22) rfl (Vb (Dt g4)) <| zae (v := .int .u32 _) zbt rfl rfl (Res.sl_cell (hst.hL _ Q0) (za3 (g := zmn) (d := zcz) zeD rfl Om)) <| TK (t := 22) rfl (Vb (Dt g4)) <| zad (v := .int .u32 _) rfl <| TK (t := 22) rfl (Vb (Dt g4)) <| zak rfl rfl <| CN <| zap (u := .bool _) (Vb (Dt g4)) rfl <| NL <| zaj [(0, .int .u8 _), (1, .int .u32 _), (6, .slice _ _ _), (7, .int .i64 _), (30, .bool _)] E5 fun f => zab rfl (fun g5 => ?_) (fun g5 => ?_)
   ·refine SR <| ML rfl <| MI rfl <| CN <| za5 zbE zbj rfl rfl Om Om <| CN <| zaa zq0 rfl <| CN <| zae (v := str _) ty9 rfl rfl (Res.sl_cell (hst.hL _ Q0) (za3 (g := zmn) (d := zcz) zeD rfl Om)) <| AS rfl <| AB rfl <| NL <| zai Tryz.func92 rfl (TP (v := str _) rfl) (TP (v := .bool _) rfl) ?_
    rw [zfQ (d := zcz) hJ.2 (by omega) (Dt ⟨g4, g5⟩)]
    exact ⟨rfl, hst.pure⟩
   refine zaf <| zam <| RG <| MI rfl <| CN <| zas rfl rfl rfl zbe <| AI rfl <| NL <| zay ?_
   exact ih1 (i + 1) _ w Om hst (⟨by omega, zdz (d := zcz) hJ.2 Om (Df (fun h => g5 h.2))⟩) E3 ⟨(Vi Om), trivial⟩
  refine OM (t := 22) rfl (Vb (Df g4)) rfl <| OM (t := 22) rfl (Vb (Df g4)) rfl <| OM (t := 22) rfl (Vb (Df g4)) rfl <| OM (t := 22) rfl (Vb (Df g4)) rfl <| OM (t := 22) rfl (Vb (Df g4)) rfl <| OM (t := 22) rfl (Vb (Df g4)) rfl <| OM (t := 22) rfl (Vb (Df g4)) rfl <| CN <| zaq (u := .bool _) (Vb (Df g4)) rfl <| NL <| zat (Vb (rfl : false = _)) <| zaf <| zam <| RG <| MI rfl <| CN (zas rfl rfl rfl zbe ?_)
  refine AI rfl <| NL <| zay ?_
  exact ih1 (i + 1) _ w Om hst (⟨by omega, zdz (d := zcz) hJ.2 Om (Df (fun h => g4 h.1))⟩) E3 ⟨(Vi Om), trivial⟩
 refine zaJ (id := 0) rfl <| SR <| AS rfl <| AB rfl <| NL <| zai Tryz.func92 rfl (TP (v := str _) rfl) (TP (v := .bool _) rfl) ?_
 rw [zfR hJ.2 (by omega)]
 exact ⟨rfl, hst.pure⟩
end Go.SK
namespace Go.SK
open Go Go.Proofs
open Go.RowKit
theorem zoI (b : List UInt8) (ao : Option Addr) (cp : Nat) (w : World) (hA : (Res.rs ao b.length 1 (b.flatMap byC)).holds w) (hl : b.length ≤ 240000000000000) : Ret Tryz.prog 161 #[.slice ao b.length cp] w (fun v w' => ∃ ro rc, v = .tuple #[.slice ro (zhL b).length rc, .int .i64 (zf8 b)] ∧ St w NoM [Res.sl ro (zhL b).length rc 22 1 ((zhL b).flatMap zdE)] [] w') := by
 refine zav (args := [.slice ao b.length cp]) Tryz.func161 rfl rfl rfl ?_
 have hst : St w NoM [] [Res.rs ao b.length 1 (b.flatMap byC)] w := St.init_D hA
 clear hA
 refine SR <| AL rfl <| AI rfl <| NL <| SQ <| SR <| ML rfl <| CN <| zaQ (rest := []) zcr rfl <| CN <| zbm rfl rfl <| NL <| zab rfl (fun g1 => ?_) (fun g1 => ?_)
 ·refine SR <| AL rfl <| AI rfl <| NL <| zai Tryz.func161 rfl (TP (v := .slice _ _ _) rfl) (TP (v := .int .i64 _) rfl) ?_
  replace hst := hst.pick .nil
  have he := znn (b := b) Om
  rw [zlj (by rw [he]; decide), he]
  exact ⟨none, 0, rfl, (hst.pushNil 22 1).noD⟩
 refine zaf <| SQ <| SR <| ML rfl <| CN (zaQ (rest := []) zcr rfl ?_)
 first | refine CN (zdW rfl rfl Om Om rfl ?_) | refine CN (zfd rfl rfl Om ?_)
 refine CN <| zaW rfl rfl <| NL <| zab rfl (fun g2 => ?_) (fun g2 => ?_)
 ·refine SR <| AL rfl <| AI rfl <| NL <| zai Tryz.func161 rfl (TP (v := .slice _ _ _) rfl) (TP (v := .int .i64 _) rfl) ?_
  replace hst := hst.pick .nil
  have he := zrK (b := b) Om Om
  rw [zlj (by rw [he]; decide), he]
  exact ⟨none, 0, rfl, (hst.pushNil 22 1).noD⟩
 refine zaf <| SR <| ML rfl <| CN (zaQ (rest := []) zcr rfl ?_)
 first | refine CN (zf5 rfl rfl Om Om rfl zbe ?_) | refine CN (zhA rfl rfl Om ?_)
 refine CN (zeP (k := b.length / 4) hst ze7 zbt rfl rfl rfl De Om Om fun w bC hst => ?_)
 rw [zih (g := zdE) (d := (0 : Int)) (ez := [.int .u32 0]) rfl (zcF b)] at hst
 have hWl := zfh b
 refine AL rfl <| NL <| SQ <| SR <| AI rfl <| NL <| zao <| zaV <| zaU [(0, .slice _ _ _), (4, .slice _ _ _)] E2 (fun (i : Nat) => [(5, .int .i64 (i : Int))]) (fun (i : Nat) => [Res.sl (some ⟨bC, 0, none⟩) (b.length / 4) (b.length / 4) 22 1 ((cpG (0 : Int) (zcF b) (b.length / 4) i).flatMap zdE)]) (fun (i : Nat) => i ≤ b.length / 4) (fun (i : Nat) => b.length / 4 - i) (0) hst (Nat.zero_le _) ⟨rfl, trivial⟩ ?_
 intro i f w hst hJ ih3
 have hB0 := zuB b (4 * (i : Int)).toNat
 have hB1 := zuB b (4 * (i : Int) + 1).toNat
 have hB2 := zuB b (4 * (i : Int) + 2).toNat
 have hB3 := zuB b (4 * (i : Int) + 3).toNat
 refine SQ <| SR <| MI rfl <| ML rfl <| CN <| zaQ (rest := []) ze7 rfl <| CN <| zaS rfl rfl <| NL <| zab rfl (fun g4 => ?_) (fun g4 => ?_)
 ·refine zaf <| SQ <| zao <| RunD.start [] hst (bs := [0, 0, 0, 0, 8, 28, 60, 124, 0, 0, 512, 1536, 3840, 7936, 16128, 32512, 65532, 0, 0, 262144, 786432, 1966080, 4063232, 8257536, 16646144, 33554428, 0, 0, 134217728, 402653184, 1006632960, 2080374784, 4227858432, 8522825728, 17179869180, 34359738367, 68719476735]) (ds := [some 23, some 24, some 25, some 26, some 27, some 28, some 29, some 30, some 31, some 32, some 33, some 34, some 35, some 36, some 37, some 38, some 39, some 40, some 41, some 42, some 43, some 44, some 45, some 46, some 47, some 48, some 49, some 50, some 51, some 52, some 53, some 54, some 55, some 56, some 57, some 58, none]) ⟨Kr, Kr, Kr⟩ (fun tab5 => ?_)
  refine DO tab5 1 (fun f' L' w' hc=> zad (v := .slice _ _ _) (hc.old rfl rfl rfl) hc.z) <| DO tab5 2 (fun f' L' w' hc=> zad (v := .int .i64 _) (hc.old rfl rfl rfl) hc.z) <| DO tab5 3 (fun f' L' w' hc=> zad (v := .slice _ _ _) (hc.old rfl rfl rfl) hc.z) <| DO tab5 4 (fun f' L' w' hc=> zad (v := .int .i64 _) (hc.old rfl rfl rfl) hc.z) <| DO tab5 5 (fun f' L' w' hc=> zbP rfl (hc.d 3 rfl rfl rfl rfl) rfl zbe hc.z) <| DO tab5 6 (fun f' L' w' hc=> zaO zcr ty5 (hc.st.hD _ Q0) (hc.d 2 rfl rfl rfl rfl) (hc.d 4 rfl rfl rfl rfl) Om Om hc.z) <| DO tab5 7 (fun _ _ _ hc => zae (v := .int .u8 _) ty5 rfl (hc.d 5 rfl rfl rfl rfl) (Res.rs2_cell (hc.st.hD _ Q0) (zcq (g := byC) (d := 0) ziM rfl Om)) hc.z) ?_
  first | refine DO tab5 8 (fun f' L' w' hc=> zaY ty5 zbt (hc.d 6 rfl rfl rfl rfl) zkM hc.z) ?_ | refine DO tab5 8 (fun f' L' w' hc=> zaY ty5 zbt (hc.d 6 rfl rfl rfl rfl) (zgf _) hc.z) ?_ | refine DO tab5 8 (fun _ _ _ hc => za8 ty5 zbt (hc.d 6 rfl rfl rfl rfl) hc.z) ?_
  refine DO tab5 9 (fun f' L' w' hc=> zad (v := .slice _ _ _) (hc.old rfl rfl rfl) hc.z) <| DO tab5 10 (fun f' L' w' hc=> zad (v := .int .i64 _) (hc.old rfl rfl rfl) hc.z) <| DO tab5 11 (fun f' L' w' hc=> zbP rfl (hc.d 9 rfl rfl rfl rfl) rfl zbe hc.z) <| DO tab5 12 (fun f' L' w' hc=> zas (hc.d 10 rfl rfl rfl rfl) rfl rfl zbe hc.z) <| DO tab5 13 (fun f' L' w' hc=> zaO zcr ty5 (hc.st.hD _ Q0) (hc.d 8 rfl rfl rfl rfl) (hc.d 11 rfl rfl rfl rfl) Om Om hc.z) <| DO tab5 14 (fun _ _ _ hc => zae (v := .int .u8 _) ty5 rfl (hc.d 12 rfl rfl rfl rfl) (Res.rs2_cell (hc.st.hD _ Q0) (zcq (g := byC) (d := 0) ziM rfl Om)) hc.z) ?_
  first | refine DO tab5 15 (fun f' L' w' hc=> zaY ty5 zbt (hc.d 13 rfl rfl rfl rfl) zkM hc.z) ?_ | refine DO tab5 15 (fun f' L' w' hc=> zaY ty5 zbt (hc.d 13 rfl rfl rfl rfl) (zgf _) hc.z) ?_ | refine DO tab5 15 (fun _ _ _ hc => za8 ty5 zbt (hc.d 13 rfl rfl rfl rfl) hc.z) ?_
  refine DO tab5 16 (fun f' L' w' hc=> zbP rfl (hc.d 14 rfl rfl rfl rfl) rfl zkM hc.z) <| DO tab5 17 (fun f' L' w' hc=> zas (hc.d 7 rfl rfl rfl rfl) (hc.d 15 rfl rfl rfl rfl) rfl zkM hc.z) <| DO tab5 18 (fun f' L' w' hc=> zad (v := .slice _ _ _) (hc.old rfl rfl rfl) hc.z) <| DO tab5 19 (fun f' L' w' hc=> zad (v := .int .i64 _) (hc.old rfl rfl rfl) hc.z) <| DO tab5 20 (fun f' L' w' hc=> zbP rfl (hc.d 18 rfl rfl rfl rfl) rfl zbe hc.z) <| DO tab5 21 (fun f' L' w' hc=> zas (hc.d 19 rfl rfl rfl rfl) rfl rfl zbe hc.z) <| DO tab5 22 (fun f' L' w' hc=> zaO zcr ty5 (hc.st.hD _ Q0) (hc.d 17 rfl rfl rfl rfl) (hc.d 20 rfl rfl rfl rfl) Om Om hc.z) <| DO tab5 23 (fun _ _ _ hc => zae (v := .int .u8 _) ty5 rfl (hc.d 21 rfl rfl rfl rfl) (Res.rs2_cell (hc.st.hD _ Q0) (zcq (g := byC) (d := 0) ziM rfl Om)) hc.z) ?_
  first | refine DO tab5 24 (fun f' L' w' hc=> zaY ty5 zbt (hc.d 22 rfl rfl rfl rfl) zkM hc.z) ?_ | refine DO tab5 24 (fun f' L' w' hc=> zaY ty5 zbt (hc.d 22 rfl rfl rfl rfl) (zgf _) hc.z) ?_ | refine DO tab5 24 (fun _ _ _ hc => za8 ty5 zbt (hc.d 22 rfl rfl rfl rfl) hc.z) ?_
  refine DO tab5 25 (fun f' L' w' hc=> zbP rfl (hc.d 23 rfl rfl rfl rfl) rfl zkM hc.z) <| DO tab5 26 (fun f' L' w' hc=> zas (hc.d 16 rfl rfl rfl rfl) (hc.d 24 rfl rfl rfl rfl) rfl zkM hc.z) <| DO tab5 27 (fun f' L' w' hc=> zad (v := .slice _ _ _) (hc.old rfl rfl rfl) hc.z) <| DO tab5 28 (fun f' L' w' hc=> zad (v := .int .i64 _) (hc.old rfl rfl rfl) hc.z) <| DO tab5 29 (fun f' L' w' hc=> zbP rfl (hc.d 27 rfl rfl rfl rfl) rfl zbe hc.z) <| DO tab5 30 (fun f' L' w' hc=> zas (hc.d 28 rfl rfl rfl rfl) rfl rfl zbe hc.z) <| DO tab5 31 (fun f' L' w' hc=> zaO zcr ty5 (hc.st.hD _ Q0) (hc.d 26 rfl rfl rfl rfl) (hc.d 29 rfl rfl rfl rfl) Om Om hc.z) <| DO tab5 32 (fun _ _ _ hc => zae (v := .int .u8 _) ty5 rfl (hc.d 30 rfl rfl rfl rfl) (Res.rs2_cell (hc.st.hD _ Q0) (zcq (g := byC) (d := 0) ziM rfl Om)) hc.z) ?_
  first | refine DO tab5 33 (fun f' L' w' hc=> zaY ty5 zbt (hc.d 31 rfl rfl rfl rfl) zkM hc.z) ?_ | refine DO tab5 33 (fun f' L' w' hc=> zaY ty5 zbt (hc.d 31 rfl rfl rfl rfl) (zgf _) hc.z) ?_ | refine DO tab5 33 (fun _ _ _ hc => za8 ty5 zbt (hc.d 31 rfl rfl rfl rfl) hc.z) ?_
  refine DO tab5 34 (fun f' L' w' hc=> zbP rfl (hc.d 32 rfl rfl rfl rfl) rfl zkM hc.z) <| DO tab5 35 (fun _ _ _ hc => zas (hc.d 25 rfl rfl rfl rfl) (hc.d 33 rfl rfl rfl rfl) rfl zkM hc.z) <| RunD.fin zaw tab5 hst rfl (fun f6 w R9 hs7 hd8 hr10 hst => ?_)
  obtain ⟨h23_, r0⟩ := hd8 0 23 rfl rfl
  obtain ⟨h24_, r1⟩ := hd8 1 24 rfl rfl
  obtain ⟨h25_, r2⟩ := hd8 2 25 rfl rfl
  obtain ⟨h26_, r3⟩ := hd8 3 26 rfl rfl
  obtain ⟨h27_, r4⟩ := hd8 4 27 rfl rfl
  obtain ⟨h28_, r5⟩ := hd8 5 28 rfl rfl
  obtain ⟨h29_, r6⟩ := hd8 6 29 rfl rfl
  obtain ⟨h30_, r7⟩ := hd8 7 30 rfl rfl
  obtain ⟨h31_, r8⟩ := hd8 8 31 rfl rfl
  obtain ⟨h32_, r9⟩ := hd8 9 32 rfl rfl
  obtain ⟨h33_, r10⟩ := hd8 10 33 rfl rfl
  obtain ⟨h34_, r11⟩ := hd8 11 34 rfl rfl
  obtain ⟨h35_, r12⟩ := hd8 12 35 rfl rfl
  obtain ⟨h36_, r13⟩ := hd8 13 36 rfl rfl
  obtain ⟨h37_, r14⟩ := hd8 14 37 rfl rfl
  obtain ⟨h38_, r15⟩ := hd8 15 38 rfl rfl
  obtain ⟨h39_, r16⟩ := hd8 16 39 rfl rfl
  obtain ⟨h40_, r17⟩ := hd8 17 40 rfl rfl
  obtain ⟨h41_, r18⟩ := hd8 18 41 rfl rfl
  obtain ⟨h42_, r19⟩ := hd8 19 42 rfl rfl
  obtain ⟨h43_, r20⟩ := hd8 20 43 rfl rfl
  obtain ⟨h44_, r21⟩ := hd8 21 44 rfl rfl
  obtain ⟨h45_, r22⟩ := hd8 22 45 rfl rfl
  obtain ⟨h46_, r23⟩ := hd8 23 46 rfl rfl
  obtain ⟨h47_, r24⟩ := hd8 24 47 rfl rfl
  obtain ⟨h48_, r25⟩ := hd8 25 48 rfl rfl
  obtain ⟨h49_, r26⟩ := hd8 26 49 rfl rfl
  obtain ⟨h50_, r27⟩ := hd8 27 50 rfl rfl
  obtain ⟨h51_, r28⟩ := hd8 28 51 rfl rfl
  obtain ⟨h52_, r29⟩ := hd8 29 52 rfl rfl
  obtain ⟨h53_, r30⟩ := hd8 30 53 rfl rfl
  obtain ⟨h54_, r31⟩ := hd8 31 54 rfl rfl
  obtain ⟨h55_, r32⟩ := hd8 32 55 rfl rfl
  obtain ⟨h56_, r33⟩ := hd8 33 56 rfl rfl
  obtain ⟨h57_, r34⟩ := hd8 34 57 rfl rfl
  simp only [rg35, Fc, Fn, Mc, Mn, r0, r1, r2, r3, r4, r5, r6, r7, r8, r9, r10, r11, r12, r13, r14, r15, r16, r17, r18, r19, r20, r21, r22, r23, r24, r25, r26, r27, r28, r29, r30, r31, r32, r33, r34, Na, An, Ca] at hst
  refine zaD (sl := [(0, .slice _ _ _), (4, .slice _ _ _), (5, .int .i64 _), (23, .slice _ _ _), (24, .int .i64 _), (57, .int .u32 _)]) ⟨(hs7 0 rfl).trans rfl, (hs7 4 rfl).trans rfl, (hs7 5 rfl).trans rfl, h23_, h24_, h57_, trivial⟩ ?_
  clear hs7 hd8 hr10 tab5
  refine CN <| za5 ze7 zbt rfl rfl (by omega) (by omega) <| CN <| zeO (v := .int .u32 _) hst zbt rfl rfl rfl rfl rfl .u0 (by simp only [List.length_cons, List.length_nil]; omega) fun w hst => NL <| zam <| zaj [(0, .slice _ _ _), (4, .slice _ _ _), (5, .int .i64 _)] E3 fun f => RG <| MI rfl <| CN <| zas rfl rfl rfl zbe <| AI rfl <| NL <| zay ?_
  exact ih3 (i + 1) _ w (by omega) (by (try dsimp only); rw [← zut (g := zdE) (es := 1) zjd (i := i) (x := zdE (zeX b i)) hWl.symm (by omega) (by rw [zen (by omega)])]; exact hst) (by omega) E2 ⟨(Vi (by omega)), trivial⟩
 obtain rfl : i = b.length / 4 := by omega
 rw [zwv _ hWl.symm] at hst
 refine zaJ (id := 0) rfl <| SR <| ML rfl <| AL rfl <| AI rfl <| NL <| zai Tryz.func161 rfl (TP (v := .slice _ _ _) rfl) (TP (v := .int .i64 _) rfl) ?_
 replace hst := hst.pick (.cons .u0 .nil)
 have he := znm (b := b) Om Om
 rw [znl he, he, zfh]
 exact ⟨_, _, rfl, hst.noD⟩
end Go.SK
namespace Go.SK
open Go Go.Proofs
theorem ent161 : zaN Tryz.prog 161 := ⟨Tryz.f161, _, Tryz.func161, Kr, rfl⟩
end Go.SK
namespace Go.SK
open Go Go.Proofs
open Go.RowKit
theorem zmU {b : List UInt8} {xs : List Value} {n : Nat} (ao : Option Addr) (cp : Nat) (w : World) (hn : n = b.length) (hx : xs = b.flatMap byC) (hA : (Res.rs ao n 1 xs).holds w) (hl : b.length ≤ 240000000000000) : Ret Tryz.prog 161 #[.slice ao n cp] w (fun v w' => ∃ ro rc, v = .tuple #[.slice ro (zhL b).length rc, .int .i64 (zf8 b)] ∧ St w NoM [Res.sl ro (zhL b).length rc 22 1 ((zhL b).flatMap zdE)] [] w') := by
 subst hn; subst hx; exact zoI b ao cp w hA hl
theorem zmV (s : List UInt8) (w : World) (hl : s.length ≤ 100000000000000) : Ret Tryz.prog 111 #[str s] w (fun v w' => ∃ ro rc, v = .tuple #[.slice ro (zby s).length rc, .int .i64 (zds s)] ∧ St w NoM [Res.sl ro (zby s).length rc 22 1 ((zby s).flatMap zdE)] [] w') := by
 refine zav (args := [str s]) Tryz.func111 rfl rfl rfl ?_
 have hst := St.init w
 refine SR <| AL rfl <| AI rfl <| NL <| SQ <| SR <| AI rfl <| NL <| zao <| zaV <| zaU [(0, str _)] ⟨rfl, trivial⟩ (fun (i : Nat) => [(4, .int .i64 (i : Int))]) (fun (i : Nat) => []) (fun (i : Nat) => i ≤ s.length ∧ ∀ r, r < i → s.getD r 0 ≠ 0) (fun (i : Nat) => s.length - i) (0) hst ⟨Nat.zero_le _, fun r hr => absurd hr Om⟩ ⟨rfl, trivial⟩ ?_
 intro i f w hst hJ ih1
 refine SQ <| SR <| MI rfl <| MS rfl <| CN <| zaL (rest := []) ty9 rfl <| CN <| zaS rfl rfl <| NL <| zab rfl (fun g2 => ?_) (fun g2 => ?_)
 ·refine zaf <| SQ <| zao <| SR <| MS rfl <| MI rfl <| CN <| zaH ty9 rfl rfl Om Om <| CN <| zak rfl rfl <| NL <| zab rfl (fun g3 => ?_) (fun g3 => ?_)
  ·refine SR <| AL rfl <| AI rfl <| NL <| zai Tryz.func111 rfl (TP (v := .slice _ _ _) rfl) (TP (v := .int .i64 _) rfl) ?_
   replace hst := hst.pick .nil
   have he := ziY Om g3 hJ.2
   rw [zdF (by rw [he]; decide), he]
   exact ⟨none, 0, rfl, (hst.pushNil 22 1).noD⟩
  refine zaf <| zam <| RG <| MI rfl <| CN <| zas rfl rfl rfl zbe <| AI rfl <| NL <| zay ?_
  exact ih1 (i + 1) _ w Om hst (⟨by omega, ztG hJ.2 (zgc g3)⟩) ⟨rfl, trivial⟩ ⟨(Vi Om), trivial⟩
 refine zaJ (id := 0) rfl <| SQ <| SR <| MS rfl <| CN <| Op1.call1 (v1 := str _) zuo rfl rfl <| Ret.det (zhw s _ Om) hst fun w hst => CN <| zbm rfl rfl <| NL <| zab rfl (fun g4 => ?_) (fun g4 => ?_)
 ·refine SR <| AL rfl <| AI rfl <| NL <| zai Tryz.func111 rfl (TP (v := .slice _ _ _) rfl) (TP (v := .int .i64 _) rfl) ?_
  replace hst := hst.pick .nil
  have he := zhZ (s := s) (fun r hr => hJ.2 r Om) Om
  rw [zdF (by rw [he]; decide), he]
  exact ⟨none, 0, rfl, (hst.pushNil 22 1).noD⟩
 refine zaf <| SR <| MS rfl <| CN <| Op1.call1 (v1 := str _) zuo rfl rfl <| Ret.det (zhw s _ Om) hst fun w hst => ?_
 first | refine CN (zbP rfl rfl rfl zbe ?_) | refine CN (zrw rfl rfl Om Om Om Om (fun hm5 hm6 => ?_))
 refine CN (zeP (k := 4 * (s.length / 4 + 1)) hst zcr ty5 rfl rfl rfl De Om Om fun w bC hst => ?_)
 rw [zih (g := byC) (d := (0 : UInt8)) (ez := [.int .u8 0]) rfl s] at hst
 refine AL rfl <| NL <| SQ <| SR <| AI rfl <| NL <| zao <| zaV <| zaU [(0, str _), (5, .slice _ _ _)] E2 (fun (i : Nat) => [(6, .int .i64 (i : Int))]) (fun (i : Nat) => [Res.sl (some ⟨bC, 0, none⟩) (4 * (s.length / 4 + 1)) (4 * (s.length / 4 + 1)) 5 1 ((cpG (0 : UInt8) s (4 * (s.length / 4 + 1)) i).flatMap byC)]) (fun (i : Nat) => i ≤ s.length) (fun (i : Nat) => s.length - i) (0) hst (Nat.zero_le _) ⟨rfl, trivial⟩ ?_
 intro i f w hst hK ih7
 refine SQ <| SR <| MI rfl <| MS rfl <| CN <| zaL (rest := []) ty9 rfl <| CN <| zaS rfl rfl <| NL <| zab rfl (fun g8 => ?_) (fun g8 => ?_)
 ·refine zaf <| SQ <| zao <| RG <| ML rfl <| MI rfl <| MS rfl <| MI rfl <| CN <| zaH ty9 rfl rfl (by omega) (by omega) <| CN <| za5 zcr ty5 rfl rfl (by omega) (by omega) <| CN <| zeO (v := .int .u8 _) hst ty5 rfl rfl rfl rfl rfl .u0 (by simp only [List.length_cons, List.length_nil]; omega) fun w hst => NL <| zam <| RG <| MI rfl ?_
  refine CN <| zas rfl rfl rfl zbe <| AI rfl <| NL <| zay ?_
  exact ih7 (i + 1) _ w (by omega) (by (try dsimp only); rw [← zuu (g := byC) (es := 1) ziM (i := i) (x := byC (s.getD i 0)) (by omega) (by omega) rfl]; exact hst) (by omega) E2 ⟨(Vi (by omega)), trivial⟩
 have hi : i = s.length := by omega
 subst hi
 have hpd : cpG (0 : UInt8) s (4 * (s.length / 4 + 1)) s.length = zf9 s := rfl
 rw [hpd] at hst
 refine zaJ (id := 2) rfl <| SR <| ML rfl <| CN (Op1.call1 (v1 := .slice _ _ _) ent161 rfl rfl ((zmU (b := zf9 s) _ _ _ (zeq s).symm rfl (Res.rs_of_sl (hst.hL _ Q0)) (by rw [zeq]; omega)).mono fun v w hp => ?_))
 obtain ⟨rW, cW, rfl, hp⟩ := hp
 replace hst : St _ _ (_ :: _) _ _ := hst.call0 hp
 clear hp
 refine CN <| Ex (.slice _ _ _) rfl rfl <| CN <| Ex (.int .i64 _) rfl rfl <| AL rfl <| AI rfl <| NL <| zai Tryz.func111 rfl (TP (v := .slice _ _ _) rfl) (TP (v := .int .i64 _) rfl) ?_
 replace hst := hst.pick (.cons .u0 .nil)
 have he := zlu (s := s) (fun r hr => hJ.2 r Om) Om
 rw [(ziX (s := s) (by omega)).2, (ziX (s := s) (by omega)).1] at *
 rw [ziD he, he]
 exact ⟨_, _, rfl, hst.noD⟩
end Go.SK
namespace Go.SK
open Go Go.Proofs
open Go.RowKit
theorem zf2 (n bound : Int) (w : World) : Ret Tryz.prog 202 #[.int .u32 n, .int .u32 bound] w (fun v w' => v = .bool (decide (n = 0 ∨ n ≥ bound)) ∧ St w NoM [] [] w') := by
 refine zav (args := [.int .u32 n, .int .u32 bound]) Tryz.func202 rfl rfl rfl ?_
 have hst := St.init w
 refine SR <| AB rfl <| NSR <| MU rfl <| CN <| zak rfl rfl <| MB rfl <| zan (d := 7) rfl (fun g1 => ?_) (fun g1 => ?_)
 ·refine OM (t := 7) rfl (Vb (Dt g1)) rfl <| OM (t := 7) rfl (Vb (Dt g1)) rfl <| OM (t := 7) rfl (Vb (Dt g1)) rfl <| CN <| zap (u := .bool _) (Vb (Dt g1)) rfl <| AB rfl <| NL <| zah Tryz.func202 rfl (TP (v := .bool _) rfl) ?_
  exact ⟨Vb (by first | (simp; done) | (simp; omega)), hst.pure⟩
 refine TK (t := 7) rfl (Vb (Df g1)) <| zad (v := .int .u32 _) rfl <| TK (t := 7) rfl (Vb (Df g1)) <| zad (v := .int .u32 _) rfl <| TK (t := 7) rfl (Vb (Df g1)) <| zbo rfl rfl <| CN <| zaq (u := .bool _) (Vb (Df g1)) rfl <| AB rfl <| NL <| zah Tryz.func202 rfl (TP (v := .bool _) rfl) ?_
 exact ⟨Vb (by first | (simp; done) | (simp; omega)), hst.pure⟩
end Go.SK
namespace Go.SK
open Go Go.Proofs
open Go.RowKit
theorem zoF (fm : FormL) (hf : FOk fm) (n : Nat) (hn : n ≤ 9000000000000) (w : World) : Ret Tryz.prog 160 #[.agg #[.int .u16 fm.op, str fm.name, .bool fm.ty, .bool fm.res, str fm.fixed, str fm.rest, .int .i64 fm.most, .int .u8 fm.part], .int .i64 (n : Int)] w (fun v w' => v = .bool (zlc fm n) ∧ St w NoM [] [] w') := by
 refine zav (args := [.agg #[.int .u16 fm.op, str fm.name, .bool fm.ty, .bool fm.res, str fm.fixed, str fm.rest, .int .i64 fm.most, .int .u8 fm.part], .int .i64 (n : Int)]) Tryz.func160 rfl rfl rfl ?_
 have hst := St.init w
 have hfl := hf.fixed
 have hrl := hf.rest
 refine SR <| CN <| zbi (v := zau _ _ _ _ _ _ _ _) hst rfl rfl fun w b2 hst => AB rfl <| NL <| SQ <| SR <| MI rfl <| CN <| zaa zdx rfl <| CN <| zae (v := str _) ty9 rfl rfl (hst.cellL Q0 rfl) <| CN <| zaL (rest := []) ty9 rfl <| CN <| zaS rfl rfl <| NL <| zab rfl (fun g1 => ?_) (fun g1 => ?_)
 ·refine SR <| AB rfl <| NL <| zah Tryz.func160 rfl (TP (v := .bool _) rfl) ?_
  exact ⟨Vb (by unfold zlc; rw [if_pos (by omega)]), hst.pure⟩
 refine zaf <| SQ <| SR <| CN <| zaa zcu rfl <| CN <| zae (v := str _) ty9 rfl rfl (hst.cellL Q0 rfl) <| CN <| zaL (rest := []) ty9 rfl <| CN <| zak rfl rfl <| NL <| zab rfl (fun g2 => ?_) (fun g2 => ?_)
 ·refine SR <| MI rfl <| CN <| zaa zdx rfl <| CN <| zae (v := str _) ty9 rfl rfl (hst.cellL Q0 rfl) <| CN <| zaL (rest := []) ty9 rfl <| CN <| zak rfl rfl <| AB rfl <| NL <| zah Tryz.func160 rfl (TP (v := .bool _) rfl) ?_
  exact ⟨Vb (by unfold zlc; rw [if_neg (by omega), if_pos (by omega)]; first | (rw [decide_eq_decide]; omega) | rfl), hst.pure⟩
 refine zaf <| SR <| MI rfl <| CN <| zaa zdx rfl <| CN <| zae (v := str _) ty9 rfl rfl (hst.cellL Q0 rfl) <| CN <| zaL (rest := []) ty9 rfl <| CN <| zbx rfl rfl rfl zbe <| CN <| zaa zcu rfl <| CN <| zae (v := str _) ty9 rfl rfl (hst.cellL Q0 rfl) <| CN (zaL (rest := []) ty9 rfl ?_)
 first | refine CN (zdW rfl rfl Om Om rfl ?_) | refine CN (zfd rfl rfl Om ?_)
 refine CN <| zak rfl rfl <| AB rfl <| NL <| zah Tryz.func160 rfl (TP (v := .bool _) rfl) ?_
 exact ⟨Vb (by unfold zlc; rw [if_neg (by omega), if_neg (by omega)]), hst.pure⟩
theorem zpV {c kd : Int} (hk : zbZ c = kd) (h0 : 0 ≤ c) (h1 : c ≤ 255) (w : World) : Ret Tryz.prog 124 #[.int .u8 c] w (fun v w' => v = .int .u8 kd ∧ St w NoM [] [] w') := by
 subst hk; exact zlN c h0 h1 w
theorem zc0 {c n : Int} {o : Option NameL} (h : namesL.find? (enN c n) = o) (w : World) : Ret Tryz.prog 92 #[.int .u8 c, .int .u32 n] w (fun v w' => v = zvS o ∧ St w NoM [] [] w') := by
 subst h; exact zlO c n w
end Go.SK
namespace Go.SK
open Go Go.Proofs
theorem zq8 : zaN Tryz.prog 202 := ⟨Tryz.f202, _, Tryz.func202, Kr, rfl⟩
theorem zmD : zaN Tryz.prog 92 := ⟨Tryz.f92, _, Tryz.func92, Kr, rfl⟩
end Go.SK
namespace Go.SK
open Go Go.Proofs
open Go.RowKit
theorem zoH (must : Bool) (n bound e : Int) (w : World) : Ret Tryz.prog 158 #[.bool must, .int .u32 n, .int .u32 bound, .int .i64 e] w (fun v w' => v = .int .i64 (idH must n bound e) ∧ St w NoM [] [] w') := by
 refine zav (args := [.bool must, .int .u32 n, .int .u32 bound, .int .i64 e]) Tryz.func158 rfl rfl rfl ?_
 have hst := St.init w
 refine SR <| AI rfl <| NL <| SQ <| SR <| MB rfl <| MU rfl <| CN <| zaW rfl rfl <| CN <| zjA ty4 rfl rfl <| NL <| zaA rfl (fun g1 => ?_) (fun g1 => ?_)
 ·refine SR <| MI rfl <| AI rfl <| NL <| zah Tryz.func158 rfl (TP (v := .int .i64 _) rfl) ?_
  exact ⟨Vi (zn2 (bne_iff_ne.1 g1)).symm, hst.pure⟩
 refine zaf <| SQ <| SR <| MB rfl <| MB rfl <| zbH (d := 15) rfl (fun g2 => ?_) (fun g2 => ?_)
 ·refine TK (t := 15) rfl (Vb g2) <| zad (v := .int .u32 _) rfl <| TK (t := 15) rfl (Vb g2) <| zad (v := .int .u32 _) rfl <| TK (t := 15) rfl (Vb g2) <| zbo rfl rfl <| CN <| zap (u := .bool _) (Vb g2) rfl <| NL <| zab rfl (fun g3 => ?_) (fun g3 => ?_)
  ·refine SR <| AI rfl <| NL <| zah Tryz.func158 rfl (TP (v := .int .i64 _) rfl) ?_
   have hm : must = true := by simpa using g2
   exact ⟨Vi (by unfold idH; rw [if_neg (fun hx => by have hy := bne_iff_ne.2 hx; rw [g1] at hy; cases hy), if_pos ⟨hm, by omega⟩]), hst.pure⟩
  refine zaf <| SR <| AI rfl <| NL <| zah Tryz.func158 rfl (TP (v := .int .i64 _) rfl) ?_
  have hm : must = true := by simpa using g2
  exact ⟨Vi (by unfold idH; rw [if_neg (fun hx => by have hy := bne_iff_ne.2 hx; rw [g1] at hy; cases hy), if_neg (fun h => by have := h.2; omega)]), hst.pure⟩
 refine OM (t := 15) rfl (Vb g2) rfl <| OM (t := 15) rfl (Vb g2) rfl <| OM (t := 15) rfl (Vb g2) rfl <| CN <| zaq (u := .bool _) (Vb g2) rfl <| NL <| zat (Vb (rfl : false = _)) <| zaf <| SR <| AI rfl <| NL <| zah Tryz.func158 rfl (TP (v := .int .i64 _) rfl) ?_
 have hm : must = false := by simpa using g2
 exact ⟨Vi (zw3 (fun hx => by have hy := bne_iff_ne.2 hx; rw [g1] at hy; cases hy) hm).symm, hst.pure⟩
theorem zoE (c : Int) (h0 : 0 ≤ c) (h1 : c ≤ 255) (a : ArgP) (hs : a.s.length ≤ 9000000000000000) (bound : Int) (w : World) : Ret Tryz.prog 159 #[.int .u8 c, .agg #[.int .u8 a.kind, .int .u32 a.n, str a.s], .int .u32 bound] w (fun v w' => v = .int .i64 (zbN c a bound) ∧ St w NoM [] [] w') := by
 refine zav (args := [.int .u8 c, .agg #[.int .u8 a.kind, .int .u32 a.n, str a.s], .int .u32 bound]) Tryz.func159 rfl rfl rfl ?_
 have hst := St.init w
 obtain ⟨kd, hkd⟩ : ∃ kd, zbZ c = kd := ⟨_, rfl⟩
 obtain ⟨o, ho⟩ : ∃ o, namesL.find? (enN c a.n) = o := ⟨_, rfl⟩
 refine SR <| CN <| zbi (v := zcy _ _ _) hst rfl rfl fun w b4 hst => AI rfl <| NL <| SQ <| SQ <| RunD.start [] hst (bs := [0, 1, 3, 7, 15, 7, 39, 127, 255]) (ds := [some 10, some 11, some 12, some 13, some 14, some 15, some 16, some 17, some 18]) ⟨Kr, Kr, Kr⟩ (fun tab1 => ?_)
 refine DO tab1 1 (fun f' L' w' hc=> zad (v := .int .u8 _) (hc.old rfl rfl rfl) hc.z) <| DO tab1 2 (fun f' L' w' hc=> zak (hc.d 0 rfl rfl rfl rfl) rfl hc.z) <| DO tab1 3 (fun _ _ _ hc => zad (v := .bool _) (hc.d 1 rfl rfl rfl rfl) hc.z) <| zcM (j := 2) rfl (fun g2 => ?_) (fun g2 => ?_)
 ·refine zaX tab1 4 rfl rfl (fun f' L' w' hc=> (hc.d 2 rfl rfl rfl rfl).trans (Vb (Dt g2))) <| zaX tab1 5 rfl rfl (fun f' L' w' hc=> (hc.d 2 rfl rfl rfl rfl).trans (Vb (Dt g2))) <| zaX tab1 6 rfl rfl (fun f' L' w' hc=> (hc.d 2 rfl rfl rfl rfl).trans (Vb (Dt g2))) <| zaX tab1 7 rfl rfl (fun _ _ _ hc => (hc.d 2 rfl rfl rfl rfl).trans (Vb (Dt g2))) <| RunD.fin zaw tab1 hst rfl (fun f3 w R6 hs4 hd5 hr7 hst => ?_)
  obtain ⟨h10_, r0⟩ := hd5 0 10 rfl rfl
  obtain ⟨h11_, r1⟩ := hd5 1 11 rfl rfl
  obtain ⟨h12_, r2⟩ := hd5 2 12 rfl rfl
  obtain ⟨h13_, r3⟩ := hd5 3 13 rfl rfl
  obtain ⟨h14_, r4⟩ := hd5 4 14 rfl rfl
  obtain ⟨h15_, r5⟩ := hd5 5 15 rfl rfl
  obtain ⟨h16_, r6⟩ := hd5 6 16 rfl rfl
  simp only [rg7, Fc, Fn, Mc, Mn, r0, r1, r2, r3, r4, r5, r6, Na, An, Ca] at hst
  refine zaD (sl := [(0, .int .u8 _), (2, .int .u32 _), (4, Pp _ _), (12, .bool _), (14, _), (16, _)]) ⟨(hs4 0 rfl).trans rfl, (hs4 2 rfl).trans rfl, (hs4 4 rfl).trans rfl, h12_, h14_, h16_, trivial⟩ ?_
  clear hs4 hd5 hr7 tab1
  refine OM (t := 12) rfl (Vb (Dt g2)) rfl <| CN <| zap (u := .bool _) (Vb (Dt g2)) rfl <| NL <| zax (Vb (rfl : true = _)) <| SR <| AI rfl <| NL <| zah Tryz.func159 rfl (TP (v := .int .i64 _) rfl) ?_
  exact ⟨Vi (zcI (.inl Om)).symm, hst.pure⟩
 refine RunD.take (det _) tab1 4 rfl (fun f' L' w' hc=> (hc.d 2 rfl rfl rfl rfl).trans (Vb (Df g2))) (fun f' L' w' hc=> zaa zbA (hc.old (v := Pp _ _) rfl rfl rfl) hc.z) <| RunD.take (det _) tab1 5 rfl (fun f' L' w' hc=> (hc.d 2 rfl rfl rfl rfl).trans (Vb (Df g2))) (fun f' L' w' hc=> zae (v := .int .u8 _) ty5 rfl (hc.d 3 rfl rfl rfl rfl) (hc.st.cellL (List.mem_append_right _ Q0) rfl) hc.z) <| RunD.take (det _) tab1 6 rfl (fun f' L' w' hc=> (hc.d 2 rfl rfl rfl rfl).trans (Vb (Df g2))) (fun f' L' w' hc=> zad (v := .int .u8 _) (hc.old rfl rfl rfl) hc.z) <| RunD.take (det _) tab1 7 rfl (fun f' L' w' hc=> (hc.d 2 rfl rfl rfl rfl).trans (Vb (Df g2))) (fun _ _ _ hc => Op1.call1 (v1 := .int .u8 _) zxn rfl (hc.d 5 rfl rfl rfl rfl) ((zpV hkd h0 h1 _).mono fun v w hp => ⟨[], ⟨hp.1, rfl⟩, hc.st.keepc hp.2⟩)) <| RunD.fin zaw tab1 hst rfl (fun f8 w R11 hs9 hd10 hr12 hst => ?_)
 obtain ⟨h10_, r0⟩ := hd10 0 10 rfl rfl
 obtain ⟨h11_, r1⟩ := hd10 1 11 rfl rfl
 obtain ⟨h12_, r2⟩ := hd10 2 12 rfl rfl
 obtain ⟨h13_, r3⟩ := hd10 3 13 rfl rfl
 obtain ⟨h14_, r4⟩ := hd10 4 14 rfl rfl
 obtain ⟨h15_, r5⟩ := hd10 5 15 rfl rfl
 obtain ⟨h16_, r6⟩ := hd10 6 16 rfl rfl
 simp only [rg7, Fc, Fn, Mc, Mn, r0, r1, r2, r3, r4, r5, r6, Na, An, Ca] at hst
 refine zaD (sl := [(0, .int .u8 _), (2, .int .u32 _), (4, Pp _ _), (12, .bool _), (14, .int .u8 _), (16, .int .u8 _)]) ⟨(hs9 0 rfl).trans rfl, (hs9 2 rfl).trans rfl, (hs9 4 rfl).trans rfl, h12_, h14_, h16_, trivial⟩ ?_
 clear hs9 hd10 hr12 tab1
 refine TK (t := 12) rfl (Vb (Df g2)) <| zaW rfl rfl <| CN <| zaq (u := .bool _) (Vb (Df g2)) rfl <| NL <| zab rfl (fun g13 => ?_) (fun g13 => ?_)
 ·refine SR <| AI rfl <| NL <| zah Tryz.func159 rfl (TP (v := .int .i64 _) rfl) ?_
  exact ⟨Vi (zcI (.inr (.inl (by rw [hkd]; omega)))).symm, hst.pure⟩
 refine zaf <| SQ <| SR <| CN <| zaa zbA rfl <| CN <| zae (v := .int .u8 _) ty5 rfl rfl (hst.cellL Q0 rfl) <| CN <| zak rfl rfl <| MB rfl <| zan (d := 22) rfl (fun g14 => ?_) (fun g14 => ?_)
 ·refine TK (t := 22) rfl (Vb (Dt g14)) <| zaa zbM rfl <| TK (t := 22) rfl (Vb (Dt g14)) <| zae (v := .int .u32 _) zbt rfl rfl (hst.cellL Q0 rfl) <| TK (t := 22) rfl (Vb (Dt g14)) <| zaW rfl rfl <| CN <| zap (u := .bool _) (Vb (Dt g14)) rfl <| MB rfl <| zan (d := 27) rfl (fun g15 => ?_) (fun g15 => ?_)
  ·refine OM (t := 27) rfl (Vb (Dt g15)) rfl <| OM (t := 27) rfl (Vb (Dt g15)) rfl <| OM (t := 27) rfl (Vb (Dt g15)) rfl <| OM (t := 27) rfl (Vb (Dt g15)) rfl <| zaB (t := 31) rfl rfl <| zaB (t := 31) rfl rfl <| zaB (t := 31) rfl rfl <| OM (t := 27) rfl (Vb (Dt g15)) rfl <| CN <| zap (u := .bool _) (Vb (Dt g15)) rfl <| NL <| zaj [(0, .int .u8 _), (2, .int .u32 _), (4, Pp _ _), (36, .bool _)] E4 fun f => zax (Vb (rfl : true = _)) <| SR <| AI rfl ?_
   refine NL <| zah Tryz.func159 rfl (TP (v := .int .i64 _) rfl) ?_
   exact ⟨Vi (zcI (.inr (.inr (.inl ⟨by omega, by omega⟩)))).symm, hst.pure⟩
  refine TK (t := 27) rfl (Vb (Df g15)) <| zaa zbA rfl <| TK (t := 27) rfl (Vb (Df g15)) <| zae (v := .int .u8 _) ty5 rfl rfl (hst.cellL Q0 rfl) <| TK (t := 27) rfl (Vb (Df g15)) <| zaW rfl rfl <| TK (t := 27) rfl (Vb (Df g15)) <| zad (v := .bool _) rfl <| zan (d := 31) rfl (fun g16 => ?_) (fun g16 => ?_)
  ·refine TK (t := 31) rfl (Vb (Dt g16)) <| zaa zbh rfl <| TK (t := 31) rfl (Vb (Dt g16)) <| zae (v := str _) ty9 rfl rfl (hst.cellL Q0 rfl) <| TK (t := 31) rfl (Vb (Dt g16)) <| zcN rfl rfl <| TK (t := 27) rfl (Vb (Df g15)) <| zap (u := .bool _) (Vb (Dt g16)) rfl <| CN <| zaq (u := .bool _) (Vb (Df g15)) rfl <| NL <| zaj [(0, .int .u8 _), (2, .int .u32 _), (4, Pp _ _), (36, .bool _)] E4 fun f => zab rfl (fun g17 => ?_) (fun g17 => ?_)
   ·refine SR <| AI rfl <| NL <| zah Tryz.func159 rfl (TP (v := .int .i64 _) rfl) ?_
    exact ⟨Vi (zcI (.inr (.inr (.inr ⟨by omega, by simpa using g17⟩)))).symm, hst.pure⟩
   refine zaf <| SQ <| SR <| CN <| zaa zbA rfl <| CN <| zae (v := .int .u8 _) ty5 rfl rfl (hst.cellL Q0 rfl) <| CN <| zak rfl rfl <| MB rfl <| zan (d := 40) rfl (fun g18 => ?_) (fun g18 => ?_)
   ·refine TK (t := 40) rfl (Vb (Dt g18)) <| zaa zbM rfl <| TK (t := 40) rfl (Vb (Dt g18)) <| zae (v := .int .u32 _) zbt rfl rfl (hst.cellL Q0 rfl) <| TK (t := 40) rfl (Vb (Dt g18)) <| zad (v := .int .u32 _) rfl <| TK (t := 40) rfl (Vb (Dt g18)) (zaz (v1 := .int .u32 _) (v2 := .int .u32 _) zq8 rfl rfl rfl ((zf2 _ _ _).mono fun v w hp => ?_))
    obtain ⟨rfl, hp⟩ := hp
    replace hst := hst.keepc hp
    clear hp
    refine CN <| zap (u := .bool _) (Vb (Dt g18)) rfl <| NL <| zaA rfl (fun g19 => ?_) (fun g19 => ?_)
    ·refine SR <| AI rfl <| NL <| zah Tryz.func159 rfl (TP (v := .int .i64 _) rfl) ?_
     have hE := za6 (c := c) (a := a) (bound := bound) (fun h => h.elim (by omega) (fun h => h (by rw [hkd]; omega))) (fun h => h.elim (fun h => by have := h.2; omega) (fun h => absurd h.2 (by simpa using g17)))
     rw [if_pos ⟨by omega, by simpa using g19⟩] at hE
     exact ⟨Vi (hE).symm, hst.pure⟩
    refine zaf <| SR <| MC rfl <| CN <| zaa zbM rfl <| CN <| zae (v := .int .u32 _) zbt rfl rfl (hst.cellL Q0 rfl) <| CN <| zaz (v1 := .int .u8 _) (v2 := .int .u32 _) zmD rfl rfl rfl <| Ret.det (zc0 ho _) hst fun w hst => CN <| zad (v := .tuple #[str _, .bool _]) rfl <| CN <| Ex (str _) rfl rfl <| CN <| Ex (.bool _) rfl rfl <| AS rfl <| AB rfl <| NL <| SQ <| SQ ?_
    refine RG <| CN <| zaa zbA rfl <| CN <| zae (v := .int .u8 _) ty5 rfl rfl (hst.cellL Q0 rfl) <| CN <| zak rfl rfl <| MB rfl <| zan (d := 56) rfl (fun g20 => ?_) (fun g20 => ?_)
    ·refine TK (t := 56) rfl (Vb (Dt g20)) <| zad (v := .bool _) rfl <| TK (t := 56) rfl (Vb (Dt g20)) <| zaZ rfl <| CN <| zap (u := .bool _) (Vb (Dt g20)) rfl <| NL <| zaj [(4, Pp _ _), (59, .bool _)] E2 fun f => zaA rfl (fun g21 => ?_) (fun g21 => ?_)
     ·refine SR <| AI rfl <| NL <| zah Tryz.func159 rfl (TP (v := .int .i64 _) rfl) ?_
      have hE := za6 (c := c) (a := a) (bound := bound) (fun h => h.elim (by omega) (fun h => h (by rw [hkd]; omega))) (fun h => h.elim (fun h => by have := h.2; omega) (fun h => absurd h.2 (by simpa using g17)))
      rw [if_neg (fun h => absurd h.2 (of_decide_eq_false g19))] at hE
      rw [if_pos ⟨by omega, by rw [ho]; simpa using g21⟩] at hE
      exact ⟨Vi (hE).symm, hst.pure⟩
     refine zaf <| SQ <| SR <| AI rfl <| NL <| zao <| zaV <| zaU [(4, Pp _ _)] ⟨rfl, trivial⟩ (fun (i : Nat) => [(9, .int .i64 (i : Int))]) (fun (i : Nat) => []) (fun (i : Nat) => i ≤ a.s.length ∧ ∀ j, j < i → a.s.getD j 0 ≠ 0) (fun (i : Nat) => a.s.length - i) (0) hst ⟨Nat.zero_le _, zhc⟩ ⟨rfl, trivial⟩ ?_
     intro i f w hst hJ ih22
     refine SQ <| SR <| MI rfl <| CN <| zaa zbh rfl <| CN <| zae (v := str _) ty9 rfl rfl (hst.cellL Q0 rfl) <| CN <| zaL (rest := []) ty9 rfl <| CN <| zaS rfl rfl <| NL <| zab rfl (fun g23 => ?_) (fun g23 => ?_)
     ·refine zaf <| SQ <| zao <| SR <| CN <| zaa zbh rfl <| CN <| zae (v := str _) ty9 rfl rfl (hst.cellL Q0 rfl) <| MI rfl <| CN <| zaH ty9 rfl rfl Om Om <| CN <| zak rfl rfl <| NL <| zab rfl (fun g24 => ?_) (fun g24 => ?_)
      ·refine SR <| AI rfl <| NL <| zah Tryz.func159 rfl (TP (v := .int .i64 _) rfl) ?_
       have hE := za6 (c := c) (a := a) (bound := bound) (fun h => h.elim (by omega) (fun h => h (by rw [hkd]; omega))) (fun h => h.elim (fun h => by have := h.2; omega) (fun h => absurd h.2 (by simpa using g17)))
       rw [if_neg (fun h => absurd h.2 (of_decide_eq_false g19))] at hE
       rw [if_neg (fun h => by have h2 := h.2; have hg := g21; rw [ho] at h2; rw [h2] at hg; cases hg)] at hE
       rw [zcc (i := i) (by omega) (zgw (by have hg := g24; exact hg)) hJ.2] at hE
       exact ⟨Vi (hE).symm, hst.pure⟩
      refine zaf <| zam <| RG <| MI rfl <| CN <| zas rfl rfl rfl zbe <| AI rfl <| NL <| zay ?_
      exact ih22 (i + 1) _ w Om hst (⟨by omega, zck hJ.2 (zgc g24)⟩) ⟨rfl, trivial⟩ ⟨(Vi Om), trivial⟩
     refine zaJ (id := 0) rfl <| SR <| AI rfl <| NL <| zah Tryz.func159 rfl (TP (v := .int .i64 _) rfl) ?_
     have hE := za6 (c := c) (a := a) (bound := bound) (fun h => h.elim (by omega) (fun h => h (by rw [hkd]; omega))) (fun h => h.elim (fun h => by have := h.2; omega) (fun h => absurd h.2 (by simpa using g17)))
     rw [if_neg (fun h => absurd h.2 (of_decide_eq_false g19))] at hE
     rw [if_neg (fun h => by have h2 := h.2; have hg := g21; rw [ho] at h2; rw [h2] at hg; cases hg)] at hE
     rw [zbX (fun j hj => hJ.2 j (by omega))] at hE
     exact ⟨Vi (hE).symm, hst.pure⟩
    refine OM (t := 56) rfl (Vb (Df g20)) rfl <| OM (t := 56) rfl (Vb (Df g20)) rfl <| CN <| zaq (u := .bool _) (Vb (Df g20)) rfl <| NL <| zaj [(4, Pp _ _), (59, .bool _)] E2 fun f => zat (Vb (rfl : false = _)) <| zaf <| SQ <| SR <| AI rfl <| NL <| zao <| zaV <| zaU [(4, Pp _ _)] ⟨rfl, trivial⟩ (fun (i : Nat) => [(9, .int .i64 (i : Int))]) (fun (i : Nat) => []) (fun (i : Nat) => i ≤ a.s.length ∧ ∀ j, j < i → a.s.getD j 0 ≠ 0) (fun (i : Nat) => a.s.length - i) (0) hst ⟨Nat.zero_le _, zhc⟩ ⟨rfl, trivial⟩ ?_
    intro i f w hst hJ ih25
    refine SQ <| SR <| MI rfl <| CN <| zaa zbh rfl <| CN <| zae (v := str _) ty9 rfl rfl (hst.cellL Q0 rfl) <| CN <| zaL (rest := []) ty9 rfl <| CN <| zaS rfl rfl <| NL <| zab rfl (fun g26 => ?_) (fun g26 => ?_)
    ·refine zaf <| SQ <| zao <| SR <| CN <| zaa zbh rfl <| CN <| zae (v := str _) ty9 rfl rfl (hst.cellL Q0 rfl) <| MI rfl <| CN <| zaH ty9 rfl rfl Om Om <| CN <| zak rfl rfl <| NL <| zab rfl (fun g27 => ?_) (fun g27 => ?_)
     ·refine SR <| AI rfl <| NL <| zah Tryz.func159 rfl (TP (v := .int .i64 _) rfl) ?_
      have hE := za6 (c := c) (a := a) (bound := bound) (fun h => h.elim (by omega) (fun h => h (by rw [hkd]; omega))) (fun h => h.elim (fun h => by have := h.2; omega) (fun h => absurd h.2 (by simpa using g17)))
      rw [if_neg (fun h => absurd h.2 (of_decide_eq_false g19))] at hE
      rw [if_neg (fun h => by have := h.1; omega)] at hE
      rw [zcc (i := i) (by omega) (zgw (by have hg := g27; exact hg)) hJ.2] at hE
      exact ⟨Vi (hE).symm, hst.pure⟩
     refine zaf <| zam <| RG <| MI rfl <| CN <| zas rfl rfl rfl zbe <| AI rfl <| NL <| zay ?_
     exact ih25 (i + 1) _ w Om hst (⟨by omega, zck hJ.2 (zgc g27)⟩) ⟨rfl, trivial⟩ ⟨(Vi Om), trivial⟩
    refine zaJ (id := 0) rfl <| SR <| AI rfl <| NL <| zah Tryz.func159 rfl (TP (v := .int .i64 _) rfl) ?_
    have hE := za6 (c := c) (a := a) (bound := bound) (fun h => h.elim (by omega) (fun h => h (by rw [hkd]; omega))) (fun h => h.elim (fun h => by have := h.2; omega) (fun h => absurd h.2 (by simpa using g17)))
    rw [if_neg (fun h => absurd h.2 (of_decide_eq_false g19))] at hE
    rw [if_neg (fun h => by have := h.1; omega)] at hE
    rw [zbX (fun j hj => hJ.2 j (by omega))] at hE
    exact ⟨Vi (hE).symm, hst.pure⟩
   refine OM (t := 40) rfl (Vb (Df g18)) rfl <| OM (t := 40) rfl (Vb (Df g18)) rfl <| OM (t := 40) rfl (Vb (Df g18)) rfl <| OM (t := 40) rfl (Vb (Df g18)) rfl <| CN <| zaq (u := .bool _) (Vb (Df g18)) rfl <| NL <| zat (Vb (rfl : false = _)) <| zaf <| SR <| MC rfl <| CN <| zaa zbM rfl <| CN <| zae (v := .int .u32 _) zbt rfl rfl (hst.cellL Q0 rfl) <| CN <| zaz (v1 := .int .u8 _) (v2 := .int .u32 _) zmD rfl rfl rfl <| Ret.det (zc0 ho _) hst fun w hst => CN (zad (v := .tuple #[str _, .bool _]) rfl ?_)
   refine CN <| Ex (str _) rfl rfl <| CN <| Ex (.bool _) rfl rfl <| AS rfl <| AB rfl <| NL <| SQ <| SR <| CN <| zaa zbA rfl <| CN <| zae (v := .int .u8 _) ty5 rfl rfl (hst.cellL Q0 rfl) <| CN <| zak rfl rfl <| MB rfl <| zan (d := 56) rfl (fun g28 => ?_) (fun g28 => ?_)
   ·refine TK (t := 56) rfl (Vb (Dt g28)) <| zad (v := .bool _) rfl <| TK (t := 56) rfl (Vb (Dt g28)) <| zaZ rfl <| CN <| zap (u := .bool _) (Vb (Dt g28)) rfl <| NL <| zaj [(4, Pp _ _), (59, .bool _)] E2 fun f => zaA rfl (fun g29 => ?_) (fun g29 => ?_)
    ·refine SR <| AI rfl <| NL <| zah Tryz.func159 rfl (TP (v := .int .i64 _) rfl) ?_
     have hE := za6 (c := c) (a := a) (bound := bound) (fun h => h.elim (by omega) (fun h => h (by rw [hkd]; omega))) (fun h => h.elim (fun h => by have := h.2; omega) (fun h => absurd h.2 (by simpa using g17)))
     rw [if_neg (fun h => by have := h.1; omega)] at hE
     rw [if_pos ⟨by omega, by rw [ho]; simpa using g29⟩] at hE
     exact ⟨Vi (hE).symm, hst.pure⟩
    refine zaf <| SQ <| SR <| AI rfl <| NL <| zao <| zaV <| zaU [(4, Pp _ _)] ⟨rfl, trivial⟩ (fun (i : Nat) => [(9, .int .i64 (i : Int))]) (fun (i : Nat) => []) (fun (i : Nat) => i ≤ a.s.length ∧ ∀ j, j < i → a.s.getD j 0 ≠ 0) (fun (i : Nat) => a.s.length - i) (0) hst ⟨Nat.zero_le _, zhc⟩ ⟨rfl, trivial⟩ ?_
    intro i f w hst hJ ih30
    refine SQ <| SR <| MI rfl <| CN <| zaa zbh rfl <| CN <| zae (v := str _) ty9 rfl rfl (hst.cellL Q0 rfl) <| CN <| zaL (rest := []) ty9 rfl <| CN <| zaS rfl rfl <| NL <| zab rfl (fun g31 => ?_) (fun g31 => ?_)
    ·refine zaf <| SQ <| zao <| SR <| CN <| zaa zbh rfl <| CN <| zae (v := str _) ty9 rfl rfl (hst.cellL Q0 rfl) <| MI rfl <| CN <| zaH ty9 rfl rfl Om Om <| CN <| zak rfl rfl <| NL <| zab rfl (fun g32 => ?_) (fun g32 => ?_)
     ·refine SR <| AI rfl <| NL <| zah Tryz.func159 rfl (TP (v := .int .i64 _) rfl) ?_
      have hE := za6 (c := c) (a := a) (bound := bound) (fun h => h.elim (by omega) (fun h => h (by rw [hkd]; omega))) (fun h => h.elim (fun h => by have := h.2; omega) (fun h => absurd h.2 (by simpa using g17)))
      rw [if_neg (fun h => by have := h.1; omega)] at hE
      rw [if_neg (fun h => by have h2 := h.2; have hg := g29; rw [ho] at h2; rw [h2] at hg; cases hg)] at hE
      rw [zcc (i := i) (by omega) (zgw (by have hg := g32; exact hg)) hJ.2] at hE
      exact ⟨Vi (hE).symm, hst.pure⟩
     refine zaf <| zam <| RG <| MI rfl <| CN <| zas rfl rfl rfl zbe <| AI rfl <| NL <| zay ?_
     exact ih30 (i + 1) _ w Om hst (⟨by omega, zck hJ.2 (zgc g32)⟩) ⟨rfl, trivial⟩ ⟨(Vi Om), trivial⟩
    refine zaJ (id := 0) rfl <| SR <| AI rfl <| NL <| zah Tryz.func159 rfl (TP (v := .int .i64 _) rfl) ?_
    have hE := za6 (c := c) (a := a) (bound := bound) (fun h => h.elim (by omega) (fun h => h (by rw [hkd]; omega))) (fun h => h.elim (fun h => by have := h.2; omega) (fun h => absurd h.2 (by simpa using g17)))
    rw [if_neg (fun h => by have := h.1; omega)] at hE
    rw [if_neg (fun h => by have h2 := h.2; have hg := g29; rw [ho] at h2; rw [h2] at hg; cases hg)] at hE
    rw [zbX (fun j hj => hJ.2 j (by omega))] at hE
    exact ⟨Vi (hE).symm, hst.pure⟩
   refine OM (t := 56) rfl (Vb (Df g28)) rfl <| OM (t := 56) rfl (Vb (Df g28)) rfl <| CN <| zaq (u := .bool _) (Vb (Df g28)) rfl <| NL <| zaj [(4, Pp _ _), (59, .bool _)] E2 fun f => zat (Vb (rfl : false = _)) <| zaf <| SQ <| SR <| AI rfl <| NL <| zao <| zaV <| zaU [(4, Pp _ _)] ⟨rfl, trivial⟩ (fun (i : Nat) => [(9, .int .i64 (i : Int))]) (fun (i : Nat) => []) (fun (i : Nat) => i ≤ a.s.length ∧ ∀ j, j < i → a.s.getD j 0 ≠ 0) (fun (i : Nat) => a.s.length - i) (0) hst ⟨Nat.zero_le _, zhc⟩ ⟨rfl, trivial⟩ ?_
   intro i f w hst hJ ih33
   refine SQ <| SR <| MI rfl <| CN <| zaa zbh rfl <| CN <| zae (v := str _) ty9 rfl rfl (hst.cellL Q0 rfl) <| CN <| zaL (rest := []) ty9 rfl <| CN <| zaS rfl rfl <| NL <| zab rfl (fun g34 => ?_) (fun g34 => ?_)
   ·refine zaf <| SQ <| zao <| SR <| CN <| zaa zbh rfl <| CN <| zae (v := str _) ty9 rfl rfl (hst.cellL Q0 rfl) <| MI rfl <| CN <| zaH ty9 rfl rfl Om Om <| CN <| zak rfl rfl <| NL <| zab rfl (fun g35 => ?_) (fun g35 => ?_)
    ·refine SR <| AI rfl <| NL <| zah Tryz.func159 rfl (TP (v := .int .i64 _) rfl) ?_
     have hE := za6 (c := c) (a := a) (bound := bound) (fun h => h.elim (by omega) (fun h => h (by rw [hkd]; omega))) (fun h => h.elim (fun h => by have := h.2; omega) (fun h => absurd h.2 (by simpa using g17)))
     rw [if_neg (fun h => by have := h.1; omega)] at hE
     rw [if_neg (fun h => by have := h.1; omega)] at hE
     rw [zcc (i := i) (by omega) (zgw (by have hg := g35; exact hg)) hJ.2] at hE
     exact ⟨Vi (hE).symm, hst.pure⟩
    refine zaf <| zam <| RG <| MI rfl <| CN <| zas rfl rfl rfl zbe <| AI rfl <| NL <| zay ?_
    exact ih33 (i + 1) _ w Om hst (⟨by omega, zck hJ.2 (zgc g35)⟩) ⟨rfl, trivial⟩ ⟨(Vi Om), trivial⟩
   refine zaJ (id := 0) rfl <| SR <| AI rfl <| NL <| zah Tryz.func159 rfl (TP (v := .int .i64 _) rfl) ?_
   have hE := za6 (c := c) (a := a) (bound := bound) (fun h => h.elim (by omega) (fun h => h (by rw [hkd]; omega))) (fun h => h.elim (fun h => by have := h.2; omega) (fun h => absurd h.2 (by simpa using g17)))
   rw [if_neg (fun h => by have := h.1; omega)] at hE
   rw [if_neg (fun h => by have := h.1; omega)] at hE
   rw [zbX (fun j hj => hJ.2 j (by omega))] at hE
   exact ⟨Vi (hE).symm, hst.pure⟩
  refine OM (t := 31) rfl (Vb (Df g16)) rfl <| OM (t := 31) rfl (Vb (Df g16)) rfl <| OM (t := 31) rfl (Vb (Df g16)) rfl <| TK (t := 27) rfl (Vb (Df g15)) <| zaq (u := .bool _) (Vb (Df g16)) rfl <| CN <| zaq (u := .bool _) (Vb (Df g15)) rfl <| NL <| zaj [(0, .int .u8 _), (2, .int .u32 _), (4, Pp _ _), (36, .bool _)] E4 fun f => zat (Vb (rfl : false = _)) <| zaf <| SQ <| SR <| CN <| zaa zbA rfl <| CN <| zae (v := .int .u8 _) ty5 rfl rfl (hst.cellL Q0 rfl) <| CN (zak rfl rfl ?_)
  refine MB rfl <| zan (d := 40) rfl (fun g36 => ?_) (fun g36 => ?_)
  ·refine TK (t := 40) rfl (Vb (Dt g36)) <| zaa zbM rfl <| TK (t := 40) rfl (Vb (Dt g36)) <| zae (v := .int .u32 _) zbt rfl rfl (hst.cellL Q0 rfl) <| TK (t := 40) rfl (Vb (Dt g36)) <| zad (v := .int .u32 _) rfl <| TK (t := 40) rfl (Vb (Dt g36)) (zaz (v1 := .int .u32 _) (v2 := .int .u32 _) zq8 rfl rfl rfl ((zf2 _ _ _).mono fun v w hp => ?_))
   obtain ⟨rfl, hp⟩ := hp
   replace hst := hst.keepc hp
   clear hp
   refine CN <| zap (u := .bool _) (Vb (Dt g36)) rfl <| NL <| zaA rfl (fun g37 => ?_) (fun g37 => ?_)
   ·refine SR <| AI rfl <| NL <| zah Tryz.func159 rfl (TP (v := .int .i64 _) rfl) ?_
    have hE := za6 (c := c) (a := a) (bound := bound) (fun h => h.elim (by omega) (fun h => h (by rw [hkd]; omega))) (fun h => h.elim (fun h => by have := h.2; omega) (fun h => h.1 (by omega)))
    rw [if_pos ⟨by omega, by simpa using g37⟩] at hE
    exact ⟨Vi (hE).symm, hst.pure⟩
   refine zaf <| SR <| MC rfl <| CN <| zaa zbM rfl <| CN <| zae (v := .int .u32 _) zbt rfl rfl (hst.cellL Q0 rfl) <| CN <| zaz (v1 := .int .u8 _) (v2 := .int .u32 _) zmD rfl rfl rfl <| Ret.det (zc0 ho _) hst fun w hst => CN <| zad (v := .tuple #[str _, .bool _]) rfl <| CN <| Ex (str _) rfl rfl <| CN <| Ex (.bool _) rfl rfl <| AS rfl <| AB rfl <| NL <| SQ <| SQ ?_
   refine RG <| CN <| zaa zbA rfl <| CN <| zae (v := .int .u8 _) ty5 rfl rfl (hst.cellL Q0 rfl) <| CN <| zak rfl rfl <| MB rfl <| zan (d := 56) rfl (fun g38 => ?_) (fun g38 => ?_)
   ·refine TK (t := 56) rfl (Vb (Dt g38)) <| zad (v := .bool _) rfl <| TK (t := 56) rfl (Vb (Dt g38)) <| zaZ rfl <| CN <| zap (u := .bool _) (Vb (Dt g38)) rfl <| NL <| zaj [(4, Pp _ _), (59, .bool _)] E2 fun f => zaA rfl (fun g39 => ?_) (fun g39 => ?_)
    ·refine SR <| AI rfl <| NL <| zah Tryz.func159 rfl (TP (v := .int .i64 _) rfl) ?_
     have hE := za6 (c := c) (a := a) (bound := bound) (fun h => h.elim (by omega) (fun h => h (by rw [hkd]; omega))) (fun h => h.elim (fun h => by have := h.2; omega) (fun h => h.1 (by omega)))
     rw [if_neg (fun h => absurd h.2 (of_decide_eq_false g37))] at hE
     rw [if_pos ⟨by omega, by rw [ho]; simpa using g39⟩] at hE
     exact ⟨Vi (hE).symm, hst.pure⟩
    refine zaf <| SQ <| SR <| AI rfl <| NL <| zao <| zaV <| zaU [(4, Pp _ _)] ⟨rfl, trivial⟩ (fun (i : Nat) => [(9, .int .i64 (i : Int))]) (fun (i : Nat) => []) (fun (i : Nat) => i ≤ a.s.length ∧ ∀ j, j < i → a.s.getD j 0 ≠ 0) (fun (i : Nat) => a.s.length - i) (0) hst ⟨Nat.zero_le _, zhc⟩ ⟨rfl, trivial⟩ ?_
    intro i f w hst hJ ih40
    refine SQ <| SR <| MI rfl <| CN <| zaa zbh rfl <| CN <| zae (v := str _) ty9 rfl rfl (hst.cellL Q0 rfl) <| CN <| zaL (rest := []) ty9 rfl <| CN <| zaS rfl rfl <| NL <| zab rfl (fun g41 => ?_) (fun g41 => ?_)
    ·refine zaf <| SQ <| zao <| SR <| CN <| zaa zbh rfl <| CN <| zae (v := str _) ty9 rfl rfl (hst.cellL Q0 rfl) <| MI rfl <| CN <| zaH ty9 rfl rfl Om Om <| CN <| zak rfl rfl <| NL <| zab rfl (fun g42 => ?_) (fun g42 => ?_)
     ·refine SR <| AI rfl <| NL <| zah Tryz.func159 rfl (TP (v := .int .i64 _) rfl) ?_
      have hE := za6 (c := c) (a := a) (bound := bound) (fun h => h.elim (by omega) (fun h => h (by rw [hkd]; omega))) (fun h => h.elim (fun h => by have := h.2; omega) (fun h => h.1 (by omega)))
      rw [if_neg (fun h => absurd h.2 (of_decide_eq_false g37))] at hE
      rw [if_neg (fun h => by have h2 := h.2; have hg := g39; rw [ho] at h2; rw [h2] at hg; cases hg)] at hE
      rw [zcc (i := i) (by omega) (zgw (by have hg := g42; exact hg)) hJ.2] at hE
      exact ⟨Vi (hE).symm, hst.pure⟩
     refine zaf <| zam <| RG <| MI rfl <| CN <| zas rfl rfl rfl zbe <| AI rfl <| NL <| zay ?_
     exact ih40 (i + 1) _ w Om hst (⟨by omega, zck hJ.2 (zgc g42)⟩) ⟨rfl, trivial⟩ ⟨(Vi Om), trivial⟩
    refine zaJ (id := 0) rfl <| SR <| AI rfl <| NL <| zah Tryz.func159 rfl (TP (v := .int .i64 _) rfl) ?_
    have hE := za6 (c := c) (a := a) (bound := bound) (fun h => h.elim (by omega) (fun h => h (by rw [hkd]; omega))) (fun h => h.elim (fun h => by have := h.2; omega) (fun h => h.1 (by omega)))
    rw [if_neg (fun h => absurd h.2 (of_decide_eq_false g37))] at hE
    rw [if_neg (fun h => by have h2 := h.2; have hg := g39; rw [ho] at h2; rw [h2] at hg; cases hg)] at hE
    rw [zbX (fun j hj => hJ.2 j (by omega))] at hE
    exact ⟨Vi (hE).symm, hst.pure⟩
   refine OM (t := 56) rfl (Vb (Df g38)) rfl <| OM (t := 56) rfl (Vb (Df g38)) rfl <| CN <| zaq (u := .bool _) (Vb (Df g38)) rfl <| NL <| zaj [(4, Pp _ _), (59, .bool _)] E2 fun f => zat (Vb (rfl : false = _)) <| zaf <| SQ <| SR <| AI rfl <| NL <| zao <| zaV <| zaU [(4, Pp _ _)] ⟨rfl, trivial⟩ (fun (i : Nat) => [(9, .int .i64 (i : Int))]) (fun (i : Nat) => []) (fun (i : Nat) => i ≤ a.s.length ∧ ∀ j, j < i → a.s.getD j 0 ≠ 0) (fun (i : Nat) => a.s.length - i) (0) hst ⟨Nat.zero_le _, zhc⟩ ⟨rfl, trivial⟩ ?_
   intro i f w hst hJ ih43
   refine SQ <| SR <| MI rfl <| CN <| zaa zbh rfl <| CN <| zae (v := str _) ty9 rfl rfl (hst.cellL Q0 rfl) <| CN <| zaL (rest := []) ty9 rfl <| CN <| zaS rfl rfl <| NL <| zab rfl (fun g44 => ?_) (fun g44 => ?_)
   ·refine zaf <| SQ <| zao <| SR <| CN <| zaa zbh rfl <| CN <| zae (v := str _) ty9 rfl rfl (hst.cellL Q0 rfl) <| MI rfl <| CN <| zaH ty9 rfl rfl Om Om <| CN <| zak rfl rfl <| NL <| zab rfl (fun g45 => ?_) (fun g45 => ?_)
    ·refine SR <| AI rfl <| NL <| zah Tryz.func159 rfl (TP (v := .int .i64 _) rfl) ?_
     have hE := za6 (c := c) (a := a) (bound := bound) (fun h => h.elim (by omega) (fun h => h (by rw [hkd]; omega))) (fun h => h.elim (fun h => by have := h.2; omega) (fun h => h.1 (by omega)))
     rw [if_neg (fun h => absurd h.2 (of_decide_eq_false g37))] at hE
     rw [if_neg (fun h => by have := h.1; omega)] at hE
     rw [zcc (i := i) (by omega) (zgw (by have hg := g45; exact hg)) hJ.2] at hE
     exact ⟨Vi (hE).symm, hst.pure⟩
    refine zaf <| zam <| RG <| MI rfl <| CN <| zas rfl rfl rfl zbe <| AI rfl <| NL <| zay ?_
    exact ih43 (i + 1) _ w Om hst (⟨by omega, zck hJ.2 (zgc g45)⟩) ⟨rfl, trivial⟩ ⟨(Vi Om), trivial⟩
   refine zaJ (id := 0) rfl <| SR <| AI rfl <| NL <| zah Tryz.func159 rfl (TP (v := .int .i64 _) rfl) ?_
   have hE := za6 (c := c) (a := a) (bound := bound) (fun h => h.elim (by omega) (fun h => h (by rw [hkd]; omega))) (fun h => h.elim (fun h => by have := h.2; omega) (fun h => h.1 (by omega)))
   rw [if_neg (fun h => absurd h.2 (of_decide_eq_false g37))] at hE
   rw [if_neg (fun h => by have := h.1; omega)] at hE
   rw [zbX (fun j hj => hJ.2 j (by omega))] at hE
   exact ⟨Vi (hE).symm, hst.pure⟩
  refine OM (t := 40) rfl (Vb (Df g36)) rfl <| OM (t := 40) rfl (Vb (Df g36)) rfl <| OM (t := 40) rfl (Vb (Df g36)) rfl <| OM (t := 40) rfl (Vb (Df g36)) rfl <| CN <| zaq (u := .bool _) (Vb (Df g36)) rfl <| NL <| zat (Vb (rfl : false = _)) <| zaf <| SR <| MC rfl <| CN <| zaa zbM rfl <| CN <| zae (v := .int .u32 _) zbt rfl rfl (hst.cellL Q0 rfl) <| CN <| zaz (v1 := .int .u8 _) (v2 := .int .u32 _) zmD rfl rfl rfl <| Ret.det (zc0 ho _) hst fun w hst => CN (zad (v := .tuple #[str _, .bool _]) rfl ?_)
  refine CN <| Ex (str _) rfl rfl <| CN <| Ex (.bool _) rfl rfl <| AS rfl <| AB rfl <| NL <| SQ <| SR <| CN <| zaa zbA rfl <| CN <| zae (v := .int .u8 _) ty5 rfl rfl (hst.cellL Q0 rfl) <| CN <| zak rfl rfl <| MB rfl <| zan (d := 56) rfl (fun g46 => ?_) (fun g46 => ?_)
  ·refine TK (t := 56) rfl (Vb (Dt g46)) <| zad (v := .bool _) rfl <| TK (t := 56) rfl (Vb (Dt g46)) <| zaZ rfl <| CN <| zap (u := .bool _) (Vb (Dt g46)) rfl <| NL <| zaj [(4, Pp _ _), (59, .bool _)] E2 fun f => zaA rfl (fun g47 => ?_) (fun g47 => ?_)
   ·refine SR <| AI rfl <| NL <| zah Tryz.func159 rfl (TP (v := .int .i64 _) rfl) ?_
    have hE := za6 (c := c) (a := a) (bound := bound) (fun h => h.elim (by omega) (fun h => h (by rw [hkd]; omega))) (fun h => h.elim (fun h => by have := h.2; omega) (fun h => h.1 (by omega)))
    rw [if_neg (fun h => by have := h.1; omega)] at hE
    rw [if_pos ⟨by omega, by rw [ho]; simpa using g47⟩] at hE
    exact ⟨Vi (hE).symm, hst.pure⟩
   refine zaf <| SQ <| SR <| AI rfl <| NL <| zao <| zaV <| zaU [(4, Pp _ _)] ⟨rfl, trivial⟩ (fun (i : Nat) => [(9, .int .i64 (i : Int))]) (fun (i : Nat) => []) (fun (i : Nat) => i ≤ a.s.length ∧ ∀ j, j < i → a.s.getD j 0 ≠ 0) (fun (i : Nat) => a.s.length - i) (0) hst ⟨Nat.zero_le _, zhc⟩ ⟨rfl, trivial⟩ ?_
   intro i f w hst hJ ih48
   refine SQ <| SR <| MI rfl <| CN <| zaa zbh rfl <| CN <| zae (v := str _) ty9 rfl rfl (hst.cellL Q0 rfl) <| CN <| zaL (rest := []) ty9 rfl <| CN <| zaS rfl rfl <| NL <| zab rfl (fun g49 => ?_) (fun g49 => ?_)
   ·refine zaf <| SQ <| zao <| SR <| CN <| zaa zbh rfl <| CN <| zae (v := str _) ty9 rfl rfl (hst.cellL Q0 rfl) <| MI rfl <| CN <| zaH ty9 rfl rfl Om Om <| CN <| zak rfl rfl <| NL <| zab rfl (fun g50 => ?_) (fun g50 => ?_)
    ·refine SR <| AI rfl <| NL <| zah Tryz.func159 rfl (TP (v := .int .i64 _) rfl) ?_
     have hE := za6 (c := c) (a := a) (bound := bound) (fun h => h.elim (by omega) (fun h => h (by rw [hkd]; omega))) (fun h => h.elim (fun h => by have := h.2; omega) (fun h => h.1 (by omega)))
     rw [if_neg (fun h => by have := h.1; omega)] at hE
     rw [if_neg (fun h => by have h2 := h.2; have hg := g47; rw [ho] at h2; rw [h2] at hg; cases hg)] at hE
     rw [zcc (i := i) (by omega) (zgw (by have hg := g50; exact hg)) hJ.2] at hE
     exact ⟨Vi (hE).symm, hst.pure⟩
    refine zaf <| zam <| RG <| MI rfl <| CN <| zas rfl rfl rfl zbe <| AI rfl <| NL <| zay ?_
    exact ih48 (i + 1) _ w Om hst (⟨by omega, zck hJ.2 (zgc g50)⟩) ⟨rfl, trivial⟩ ⟨(Vi Om), trivial⟩
   refine zaJ (id := 0) rfl <| SR <| AI rfl <| NL <| zah Tryz.func159 rfl (TP (v := .int .i64 _) rfl) ?_
   have hE := za6 (c := c) (a := a) (bound := bound) (fun h => h.elim (by omega) (fun h => h (by rw [hkd]; omega))) (fun h => h.elim (fun h => by have := h.2; omega) (fun h => h.1 (by omega)))
   rw [if_neg (fun h => by have := h.1; omega)] at hE
   rw [if_neg (fun h => by have h2 := h.2; have hg := g47; rw [ho] at h2; rw [h2] at hg; cases hg)] at hE
   rw [zbX (fun j hj => hJ.2 j (by omega))] at hE
   exact ⟨Vi (hE).symm, hst.pure⟩
  refine OM (t := 56) rfl (Vb (Df g46)) rfl <| OM (t := 56) rfl (Vb (Df g46)) rfl <| CN <| zaq (u := .bool _) (Vb (Df g46)) rfl <| NL <| zaj [(4, Pp _ _), (59, .bool _)] E2 fun f => zat (Vb (rfl : false = _)) <| zaf <| SQ <| SR <| AI rfl <| NL <| zao <| zaV <| zaU [(4, Pp _ _)] ⟨rfl, trivial⟩ (fun (i : Nat) => [(9, .int .i64 (i : Int))]) (fun (i : Nat) => []) (fun (i : Nat) => i ≤ a.s.length ∧ ∀ j, j < i → a.s.getD j 0 ≠ 0) (fun (i : Nat) => a.s.length - i) (0) hst ⟨Nat.zero_le _, zhc⟩ ⟨rfl, trivial⟩ ?_
  intro i f w hst hJ ih51
  refine SQ <| SR <| MI rfl <| CN <| zaa zbh rfl <| CN <| zae (v := str _) ty9 rfl rfl (hst.cellL Q0 rfl) <| CN <| zaL (rest := []) ty9 rfl <| CN <| zaS rfl rfl <| NL <| zab rfl (fun g52 => ?_) (fun g52 => ?_)
  ·refine zaf <| SQ <| zao <| SR <| CN <| zaa zbh rfl <| CN <| zae (v := str _) ty9 rfl rfl (hst.cellL Q0 rfl) <| MI rfl <| CN <| zaH ty9 rfl rfl Om Om <| CN <| zak rfl rfl <| NL <| zab rfl (fun g53 => ?_) (fun g53 => ?_)
   ·refine SR <| AI rfl <| NL <| zah Tryz.func159 rfl (TP (v := .int .i64 _) rfl) ?_
    have hE := za6 (c := c) (a := a) (bound := bound) (fun h => h.elim (by omega) (fun h => h (by rw [hkd]; omega))) (fun h => h.elim (fun h => by have := h.2; omega) (fun h => h.1 (by omega)))
    rw [if_neg (fun h => by have := h.1; omega)] at hE
    rw [if_neg (fun h => by have := h.1; omega)] at hE
    rw [zcc (i := i) (by omega) (zgw (by have hg := g53; exact hg)) hJ.2] at hE
    exact ⟨Vi (hE).symm, hst.pure⟩
   refine zaf <| zam <| RG <| MI rfl <| CN <| zas rfl rfl rfl zbe <| AI rfl <| NL <| zay ?_
   exact ih51 (i + 1) _ w Om hst (⟨by omega, zck hJ.2 (zgc g53)⟩) ⟨rfl, trivial⟩ ⟨(Vi Om), trivial⟩
  refine zaJ (id := 0) rfl <| SR <| AI rfl <| NL <| zah Tryz.func159 rfl (TP (v := .int .i64 _) rfl) ?_
  have hE := za6 (c := c) (a := a) (bound := bound) (fun h => h.elim (by omega) (fun h => h (by rw [hkd]; omega))) (fun h => h.elim (fun h => by have := h.2; omega) (fun h => h.1 (by omega)))
  rw [if_neg (fun h => by have := h.1; omega)] at hE
  rw [if_neg (fun h => by have := h.1; omega)] at hE
  rw [zbX (fun j hj => hJ.2 j (by omega))] at hE
  exact ⟨Vi (hE).symm, hst.pure⟩
 refine OM (t := 22) rfl (Vb (Df g14)) rfl <| OM (t := 22) rfl (Vb (Df g14)) rfl <| OM (t := 22) rfl (Vb (Df g14)) rfl <| CN <| zaq (u := .bool _) (Vb (Df g14)) rfl <| MB rfl <| TK (t := 27) rfl (Vb (rfl : false = _)) <| zaa zbA rfl <| TK (t := 27) rfl (Vb (rfl : false = _)) <| zae (v := .int .u8 _) ty5 rfl rfl (hst.cellL Q0 rfl) <| TK (t := 27) rfl (Vb (rfl : false = _)) <| zaW rfl rfl <| TK (t := 27) rfl (Vb (rfl : false = _)) <| zad (v := .bool _) rfl <| zan (d := 31) rfl (fun g54 => ?_) (fun g54 => ?_)
 ·refine TK (t := 31) rfl (Vb (Dt g54)) <| zaa zbh rfl <| TK (t := 31) rfl (Vb (Dt g54)) <| zae (v := str _) ty9 rfl rfl (hst.cellL Q0 rfl) <| TK (t := 31) rfl (Vb (Dt g54)) <| zcN rfl rfl <| TK (t := 27) rfl (Vb (rfl : false = _)) <| zap (u := .bool _) (Vb (Dt g54)) rfl <| CN <| zaq (u := .bool _) (Vb (rfl : false = _)) rfl <| NL <| zaj [(0, .int .u8 _), (2, .int .u32 _), (4, Pp _ _), (36, .bool _)] E4 fun f => zab rfl (fun g55 => ?_) (fun g55 => ?_)
  ·refine SR <| AI rfl <| NL <| zah Tryz.func159 rfl (TP (v := .int .i64 _) rfl) ?_
   exact ⟨Vi (zcI (.inr (.inr (.inr ⟨by omega, by simpa using g55⟩)))).symm, hst.pure⟩
  refine zaf <| SQ <| SR <| CN <| zaa zbA rfl <| CN <| zae (v := .int .u8 _) ty5 rfl rfl (hst.cellL Q0 rfl) <| CN <| zak rfl rfl <| MB rfl <| zan (d := 40) rfl (fun g56 => ?_) (fun g56 => ?_)
  ·refine TK (t := 40) rfl (Vb (Dt g56)) <| zaa zbM rfl <| TK (t := 40) rfl (Vb (Dt g56)) <| zae (v := .int .u32 _) zbt rfl rfl (hst.cellL Q0 rfl) <| TK (t := 40) rfl (Vb (Dt g56)) <| zad (v := .int .u32 _) rfl <| TK (t := 40) rfl (Vb (Dt g56)) (zaz (v1 := .int .u32 _) (v2 := .int .u32 _) zq8 rfl rfl rfl ((zf2 _ _ _).mono fun v w hp => ?_))
   obtain ⟨rfl, hp⟩ := hp
   replace hst := hst.keepc hp
   clear hp
   refine CN <| zap (u := .bool _) (Vb (Dt g56)) rfl <| NL <| zaA rfl (fun g57 => ?_) (fun g57 => ?_)
   ·refine SR <| AI rfl <| NL <| zah Tryz.func159 rfl (TP (v := .int .i64 _) rfl) ?_
    have hE := za6 (c := c) (a := a) (bound := bound) (fun h => h.elim (by omega) (fun h => h (by rw [hkd]; omega))) (fun h => h.elim (fun h => by have := h.2; omega) (fun h => absurd h.2 (by simpa using g55)))
    rw [if_pos ⟨by omega, by simpa using g57⟩] at hE
    exact ⟨Vi (hE).symm, hst.pure⟩
   refine zaf <| SR <| MC rfl <| CN <| zaa zbM rfl <| CN <| zae (v := .int .u32 _) zbt rfl rfl (hst.cellL Q0 rfl) <| CN <| zaz (v1 := .int .u8 _) (v2 := .int .u32 _) zmD rfl rfl rfl <| Ret.det (zc0 ho _) hst fun w hst => CN <| zad (v := .tuple #[str _, .bool _]) rfl <| CN <| Ex (str _) rfl rfl <| CN <| Ex (.bool _) rfl rfl <| AS rfl <| AB rfl <| NL <| SQ <| SQ ?_
   refine RG <| CN <| zaa zbA rfl <| CN <| zae (v := .int .u8 _) ty5 rfl rfl (hst.cellL Q0 rfl) <| CN <| zak rfl rfl <| MB rfl <| zan (d := 56) rfl (fun g58 => ?_) (fun g58 => ?_)
   ·refine TK (t := 56) rfl (Vb (Dt g58)) <| zad (v := .bool _) rfl <| TK (t := 56) rfl (Vb (Dt g58)) <| zaZ rfl <| CN <| zap (u := .bool _) (Vb (Dt g58)) rfl <| NL <| zaj [(4, Pp _ _), (59, .bool _)] E2 fun f => zaA rfl (fun g59 => ?_) (fun g59 => ?_)
    ·refine SR <| AI rfl <| NL <| zah Tryz.func159 rfl (TP (v := .int .i64 _) rfl) ?_
     have hE := za6 (c := c) (a := a) (bound := bound) (fun h => h.elim (by omega) (fun h => h (by rw [hkd]; omega))) (fun h => h.elim (fun h => by have := h.2; omega) (fun h => absurd h.2 (by simpa using g55)))
     rw [if_neg (fun h => absurd h.2 (of_decide_eq_false g57))] at hE
     rw [if_pos ⟨by omega, by rw [ho]; simpa using g59⟩] at hE
     exact ⟨Vi (hE).symm, hst.pure⟩
    refine zaf <| SQ <| SR <| AI rfl <| NL <| zao <| zaV <| zaU [(4, Pp _ _)] ⟨rfl, trivial⟩ (fun (i : Nat) => [(9, .int .i64 (i : Int))]) (fun (i : Nat) => []) (fun (i : Nat) => i ≤ a.s.length ∧ ∀ j, j < i → a.s.getD j 0 ≠ 0) (fun (i : Nat) => a.s.length - i) (0) hst ⟨Nat.zero_le _, zhc⟩ ⟨rfl, trivial⟩ ?_
    intro i f w hst hJ ih60
    refine SQ <| SR <| MI rfl <| CN <| zaa zbh rfl <| CN <| zae (v := str _) ty9 rfl rfl (hst.cellL Q0 rfl) <| CN <| zaL (rest := []) ty9 rfl <| CN <| zaS rfl rfl <| NL <| zab rfl (fun g61 => ?_) (fun g61 => ?_)
    ·refine zaf <| SQ <| zao <| SR <| CN <| zaa zbh rfl <| CN <| zae (v := str _) ty9 rfl rfl (hst.cellL Q0 rfl) <| MI rfl <| CN <| zaH ty9 rfl rfl Om Om <| CN <| zak rfl rfl <| NL <| zab rfl (fun g62 => ?_) (fun g62 => ?_)
     ·refine SR <| AI rfl <| NL <| zah Tryz.func159 rfl (TP (v := .int .i64 _) rfl) ?_
      have hE := za6 (c := c) (a := a) (bound := bound) (fun h => h.elim (by omega) (fun h => h (by rw [hkd]; omega))) (fun h => h.elim (fun h => by have := h.2; omega) (fun h => absurd h.2 (by simpa using g55)))
      rw [if_neg (fun h => absurd h.2 (of_decide_eq_false g57))] at hE
      rw [if_neg (fun h => by have h2 := h.2; have hg := g59; rw [ho] at h2; rw [h2] at hg; cases hg)] at hE
      rw [zcc (i := i) (by omega) (zgw (by have hg := g62; exact hg)) hJ.2] at hE
      exact ⟨Vi (hE).symm, hst.pure⟩
     refine zaf <| zam <| RG <| MI rfl <| CN <| zas rfl rfl rfl zbe <| AI rfl <| NL <| zay ?_
     exact ih60 (i + 1) _ w Om hst (⟨by omega, zck hJ.2 (zgc g62)⟩) ⟨rfl, trivial⟩ ⟨(Vi Om), trivial⟩
    refine zaJ (id := 0) rfl <| SR <| AI rfl <| NL <| zah Tryz.func159 rfl (TP (v := .int .i64 _) rfl) ?_
    have hE := za6 (c := c) (a := a) (bound := bound) (fun h => h.elim (by omega) (fun h => h (by rw [hkd]; omega))) (fun h => h.elim (fun h => by have := h.2; omega) (fun h => absurd h.2 (by simpa using g55)))
    rw [if_neg (fun h => absurd h.2 (of_decide_eq_false g57))] at hE
    rw [if_neg (fun h => by have h2 := h.2; have hg := g59; rw [ho] at h2; rw [h2] at hg; cases hg)] at hE
    rw [zbX (fun j hj => hJ.2 j (by omega))] at hE
    exact ⟨Vi (hE).symm, hst.pure⟩
   refine OM (t := 56) rfl (Vb (Df g58)) rfl <| OM (t := 56) rfl (Vb (Df g58)) rfl <| CN <| zaq (u := .bool _) (Vb (Df g58)) rfl <| NL <| zaj [(4, Pp _ _), (59, .bool _)] E2 fun f => zat (Vb (rfl : false = _)) <| zaf <| SQ <| SR <| AI rfl <| NL <| zao <| zaV <| zaU [(4, Pp _ _)] ⟨rfl, trivial⟩ (fun (i : Nat) => [(9, .int .i64 (i : Int))]) (fun (i : Nat) => []) (fun (i : Nat) => i ≤ a.s.length ∧ ∀ j, j < i → a.s.getD j 0 ≠ 0) (fun (i : Nat) => a.s.length - i) (0) hst ⟨Nat.zero_le _, zhc⟩ ⟨rfl, trivial⟩ ?_
   intro i f w hst hJ ih63
   refine SQ <| SR <| MI rfl <| CN <| zaa zbh rfl <| CN <| zae (v := str _) ty9 rfl rfl (hst.cellL Q0 rfl) <| CN <| zaL (rest := []) ty9 rfl <| CN <| zaS rfl rfl <| NL <| zab rfl (fun g64 => ?_) (fun g64 => ?_)
   ·refine zaf <| SQ <| zao <| SR <| CN <| zaa zbh rfl <| CN <| zae (v := str _) ty9 rfl rfl (hst.cellL Q0 rfl) <| MI rfl <| CN <| zaH ty9 rfl rfl Om Om <| CN <| zak rfl rfl <| NL <| zab rfl (fun g65 => ?_) (fun g65 => ?_)
    ·refine SR <| AI rfl <| NL <| zah Tryz.func159 rfl (TP (v := .int .i64 _) rfl) ?_
     have hE := za6 (c := c) (a := a) (bound := bound) (fun h => h.elim (by omega) (fun h => h (by rw [hkd]; omega))) (fun h => h.elim (fun h => by have := h.2; omega) (fun h => absurd h.2 (by simpa using g55)))
     rw [if_neg (fun h => absurd h.2 (of_decide_eq_false g57))] at hE
     rw [if_neg (fun h => by have := h.1; omega)] at hE
     rw [zcc (i := i) (by omega) (zgw (by have hg := g65; exact hg)) hJ.2] at hE
     exact ⟨Vi (hE).symm, hst.pure⟩
    refine zaf <| zam <| RG <| MI rfl <| CN <| zas rfl rfl rfl zbe <| AI rfl <| NL <| zay ?_
    exact ih63 (i + 1) _ w Om hst (⟨by omega, zck hJ.2 (zgc g65)⟩) ⟨rfl, trivial⟩ ⟨(Vi Om), trivial⟩
   refine zaJ (id := 0) rfl <| SR <| AI rfl <| NL <| zah Tryz.func159 rfl (TP (v := .int .i64 _) rfl) ?_
   have hE := za6 (c := c) (a := a) (bound := bound) (fun h => h.elim (by omega) (fun h => h (by rw [hkd]; omega))) (fun h => h.elim (fun h => by have := h.2; omega) (fun h => absurd h.2 (by simpa using g55)))
   rw [if_neg (fun h => absurd h.2 (of_decide_eq_false g57))] at hE
   rw [if_neg (fun h => by have := h.1; omega)] at hE
   rw [zbX (fun j hj => hJ.2 j (by omega))] at hE
   exact ⟨Vi (hE).symm, hst.pure⟩
  refine OM (t := 40) rfl (Vb (Df g56)) rfl <| OM (t := 40) rfl (Vb (Df g56)) rfl <| OM (t := 40) rfl (Vb (Df g56)) rfl <| OM (t := 40) rfl (Vb (Df g56)) rfl <| CN <| zaq (u := .bool _) (Vb (Df g56)) rfl <| NL <| zat (Vb (rfl : false = _)) <| zaf <| SR <| MC rfl <| CN <| zaa zbM rfl <| CN <| zae (v := .int .u32 _) zbt rfl rfl (hst.cellL Q0 rfl) <| CN <| zaz (v1 := .int .u8 _) (v2 := .int .u32 _) zmD rfl rfl rfl <| Ret.det (zc0 ho _) hst fun w hst => CN (zad (v := .tuple #[str _, .bool _]) rfl ?_)
  refine CN <| Ex (str _) rfl rfl <| CN <| Ex (.bool _) rfl rfl <| AS rfl <| AB rfl <| NL <| SQ <| SR <| CN <| zaa zbA rfl <| CN <| zae (v := .int .u8 _) ty5 rfl rfl (hst.cellL Q0 rfl) <| CN <| zak rfl rfl <| MB rfl <| zan (d := 56) rfl (fun g66 => ?_) (fun g66 => ?_)
  ·refine TK (t := 56) rfl (Vb (Dt g66)) <| zad (v := .bool _) rfl <| TK (t := 56) rfl (Vb (Dt g66)) <| zaZ rfl <| CN <| zap (u := .bool _) (Vb (Dt g66)) rfl <| NL <| zaj [(4, Pp _ _), (59, .bool _)] E2 fun f => zaA rfl (fun g67 => ?_) (fun g67 => ?_)
   ·refine SR <| AI rfl <| NL <| zah Tryz.func159 rfl (TP (v := .int .i64 _) rfl) ?_
    have hE := za6 (c := c) (a := a) (bound := bound) (fun h => h.elim (by omega) (fun h => h (by rw [hkd]; omega))) (fun h => h.elim (fun h => by have := h.2; omega) (fun h => absurd h.2 (by simpa using g55)))
    rw [if_neg (fun h => by have := h.1; omega)] at hE
    rw [if_pos ⟨by omega, by rw [ho]; simpa using g67⟩] at hE
    exact ⟨Vi (hE).symm, hst.pure⟩
   refine zaf <| SQ <| SR <| AI rfl <| NL <| zao <| zaV <| zaU [(4, Pp _ _)] ⟨rfl, trivial⟩ (fun (i : Nat) => [(9, .int .i64 (i : Int))]) (fun (i : Nat) => []) (fun (i : Nat) => i ≤ a.s.length ∧ ∀ j, j < i → a.s.getD j 0 ≠ 0) (fun (i : Nat) => a.s.length - i) (0) hst ⟨Nat.zero_le _, zhc⟩ ⟨rfl, trivial⟩ ?_
   intro i f w hst hJ ih68
   refine SQ <| SR <| MI rfl <| CN <| zaa zbh rfl <| CN <| zae (v := str _) ty9 rfl rfl (hst.cellL Q0 rfl) <| CN <| zaL (rest := []) ty9 rfl <| CN <| zaS rfl rfl <| NL <| zab rfl (fun g69 => ?_) (fun g69 => ?_)
   ·refine zaf <| SQ <| zao <| SR <| CN <| zaa zbh rfl <| CN <| zae (v := str _) ty9 rfl rfl (hst.cellL Q0 rfl) <| MI rfl <| CN <| zaH ty9 rfl rfl Om Om <| CN <| zak rfl rfl <| NL <| zab rfl (fun g70 => ?_) (fun g70 => ?_)
    ·refine SR <| AI rfl <| NL <| zah Tryz.func159 rfl (TP (v := .int .i64 _) rfl) ?_
     have hE := za6 (c := c) (a := a) (bound := bound) (fun h => h.elim (by omega) (fun h => h (by rw [hkd]; omega))) (fun h => h.elim (fun h => by have := h.2; omega) (fun h => absurd h.2 (by simpa using g55)))
     rw [if_neg (fun h => by have := h.1; omega)] at hE
     rw [if_neg (fun h => by have h2 := h.2; have hg := g67; rw [ho] at h2; rw [h2] at hg; cases hg)] at hE
     rw [zcc (i := i) (by omega) (zgw (by have hg := g70; exact hg)) hJ.2] at hE
     exact ⟨Vi (hE).symm, hst.pure⟩
    refine zaf <| zam <| RG <| MI rfl <| CN <| zas rfl rfl rfl zbe <| AI rfl <| NL <| zay ?_
    exact ih68 (i + 1) _ w Om hst (⟨by omega, zck hJ.2 (zgc g70)⟩) ⟨rfl, trivial⟩ ⟨(Vi Om), trivial⟩
   refine zaJ (id := 0) rfl <| SR <| AI rfl <| NL <| zah Tryz.func159 rfl (TP (v := .int .i64 _) rfl) ?_
   have hE := za6 (c := c) (a := a) (bound := bound) (fun h => h.elim (by omega) (fun h => h (by rw [hkd]; omega))) (fun h => h.elim (fun h => by have := h.2; omega) (fun h => absurd h.2 (by simpa using g55)))
   rw [if_neg (fun h => by have := h.1; omega)] at hE
   rw [if_neg (fun h => by have h2 := h.2; have hg := g67; rw [ho] at h2; rw [h2] at hg; cases hg)] at hE
   rw [zbX (fun j hj => hJ.2 j (by omega))] at hE
   exact ⟨Vi (hE).symm, hst.pure⟩
  refine OM (t := 56) rfl (Vb (Df g66)) rfl <| OM (t := 56) rfl (Vb (Df g66)) rfl <| CN <| zaq (u := .bool _) (Vb (Df g66)) rfl <| NL <| zaj [(4, Pp _ _), (59, .bool _)] E2 fun f => zat (Vb (rfl : false = _)) <| zaf <| SQ <| SR <| AI rfl <| NL <| zao <| zaV <| zaU [(4, Pp _ _)] ⟨rfl, trivial⟩ (fun (i : Nat) => [(9, .int .i64 (i : Int))]) (fun (i : Nat) => []) (fun (i : Nat) => i ≤ a.s.length ∧ ∀ j, j < i → a.s.getD j 0 ≠ 0) (fun (i : Nat) => a.s.length - i) (0) hst ⟨Nat.zero_le _, zhc⟩ ⟨rfl, trivial⟩ ?_
  intro i f w hst hJ ih71
  refine SQ <| SR <| MI rfl <| CN <| zaa zbh rfl <| CN <| zae (v := str _) ty9 rfl rfl (hst.cellL Q0 rfl) <| CN <| zaL (rest := []) ty9 rfl <| CN <| zaS rfl rfl <| NL <| zab rfl (fun g72 => ?_) (fun g72 => ?_)
  ·refine zaf <| SQ <| zao <| SR <| CN <| zaa zbh rfl <| CN <| zae (v := str _) ty9 rfl rfl (hst.cellL Q0 rfl) <| MI rfl <| CN <| zaH ty9 rfl rfl Om Om <| CN <| zak rfl rfl <| NL <| zab rfl (fun g73 => ?_) (fun g73 => ?_)
   ·refine SR <| AI rfl <| NL <| zah Tryz.func159 rfl (TP (v := .int .i64 _) rfl) ?_
    have hE := za6 (c := c) (a := a) (bound := bound) (fun h => h.elim (by omega) (fun h => h (by rw [hkd]; omega))) (fun h => h.elim (fun h => by have := h.2; omega) (fun h => absurd h.2 (by simpa using g55)))
    rw [if_neg (fun h => by have := h.1; omega)] at hE
    rw [if_neg (fun h => by have := h.1; omega)] at hE
    rw [zcc (i := i) (by omega) (zgw (by have hg := g73; exact hg)) hJ.2] at hE
    exact ⟨Vi (hE).symm, hst.pure⟩
   refine zaf <| zam <| RG <| MI rfl <| CN <| zas rfl rfl rfl zbe <| AI rfl <| NL <| zay ?_
   exact ih71 (i + 1) _ w Om hst (⟨by omega, zck hJ.2 (zgc g73)⟩) ⟨rfl, trivial⟩ ⟨(Vi Om), trivial⟩
  refine zaJ (id := 0) rfl <| SR <| AI rfl <| NL <| zah Tryz.func159 rfl (TP (v := .int .i64 _) rfl) ?_
  have hE := za6 (c := c) (a := a) (bound := bound) (fun h => h.elim (by omega) (fun h => h (by rw [hkd]; omega))) (fun h => h.elim (fun h => by have := h.2; omega) (fun h => absurd h.2 (by simpa using g55)))
  rw [if_neg (fun h => by have := h.1; omega)] at hE
  rw [if_neg (fun h => by have := h.1; omega)] at hE
  rw [zbX (fun j hj => hJ.2 j (by omega))] at hE
  exact ⟨Vi (hE).symm, hst.pure⟩
 refine OM (t := 31) rfl (Vb (Df g54)) rfl <| OM (t := 31) rfl (Vb (Df g54)) rfl <| OM (t := 31) rfl (Vb (Df g54)) rfl <| TK (t := 27) rfl (Vb (rfl : false = _)) <| zaq (u := .bool _) (Vb (Df g54)) rfl <| CN <| zaq (u := .bool _) (Vb (rfl : false = _)) rfl <| NL <| zaj [(0, .int .u8 _), (2, .int .u32 _), (4, Pp _ _), (36, .bool _)] E4 fun f => zat (Vb (rfl : false = _)) <| zaf <| SQ <| SR <| CN <| zaa zbA rfl <| CN <| zae (v := .int .u8 _) ty5 rfl rfl (hst.cellL Q0 rfl) <| CN (zak rfl rfl ?_)
 refine MB rfl <| zan (d := 40) rfl (fun g74 => ?_) (fun g74 => ?_)
 ·refine TK (t := 40) rfl (Vb (Dt g74)) <| zaa zbM rfl <| TK (t := 40) rfl (Vb (Dt g74)) <| zae (v := .int .u32 _) zbt rfl rfl (hst.cellL Q0 rfl) <| TK (t := 40) rfl (Vb (Dt g74)) <| zad (v := .int .u32 _) rfl <| TK (t := 40) rfl (Vb (Dt g74)) (zaz (v1 := .int .u32 _) (v2 := .int .u32 _) zq8 rfl rfl rfl ((zf2 _ _ _).mono fun v w hp => ?_))
  obtain ⟨rfl, hp⟩ := hp
  replace hst := hst.keepc hp
  clear hp
  refine CN <| zap (u := .bool _) (Vb (Dt g74)) rfl <| NL <| zaA rfl (fun g75 => ?_) (fun g75 => ?_)
  ·refine SR <| AI rfl <| NL <| zah Tryz.func159 rfl (TP (v := .int .i64 _) rfl) ?_
   have hE := za6 (c := c) (a := a) (bound := bound) (fun h => h.elim (by omega) (fun h => h (by rw [hkd]; omega))) (fun h => h.elim (fun h => by have := h.2; omega) (fun h => h.1 (by omega)))
   rw [if_pos ⟨by omega, by simpa using g75⟩] at hE
   exact ⟨Vi (hE).symm, hst.pure⟩
  refine zaf <| SR <| MC rfl <| CN <| zaa zbM rfl <| CN <| zae (v := .int .u32 _) zbt rfl rfl (hst.cellL Q0 rfl) <| CN <| zaz (v1 := .int .u8 _) (v2 := .int .u32 _) zmD rfl rfl rfl <| Ret.det (zc0 ho _) hst fun w hst => CN <| zad (v := .tuple #[str _, .bool _]) rfl <| CN <| Ex (str _) rfl rfl <| CN <| Ex (.bool _) rfl rfl <| AS rfl <| AB rfl <| NL <| SQ <| SQ ?_
  refine RG <| CN <| zaa zbA rfl <| CN <| zae (v := .int .u8 _) ty5 rfl rfl (hst.cellL Q0 rfl) <| CN <| zak rfl rfl <| MB rfl <| zan (d := 56) rfl (fun g76 => ?_) (fun g76 => ?_)
  ·refine TK (t := 56) rfl (Vb (Dt g76)) <| zad (v := .bool _) rfl <| TK (t := 56) rfl (Vb (Dt g76)) <| zaZ rfl <| CN <| zap (u := .bool _) (Vb (Dt g76)) rfl <| NL <| zaj [(4, Pp _ _), (59, .bool _)] E2 fun f => zaA rfl (fun g77 => ?_) (fun g77 => ?_)
   ·refine SR <| AI rfl <| NL <| zah Tryz.func159 rfl (TP (v := .int .i64 _) rfl) ?_
    have hE := za6 (c := c) (a := a) (bound := bound) (fun h => h.elim (by omega) (fun h => h (by rw [hkd]; omega))) (fun h => h.elim (fun h => by have := h.2; omega) (fun h => h.1 (by omega)))
    rw [if_neg (fun h => absurd h.2 (of_decide_eq_false g75))] at hE
    rw [if_pos ⟨by omega, by rw [ho]; simpa using g77⟩] at hE
    exact ⟨Vi (hE).symm, hst.pure⟩
   refine zaf <| SQ <| SR <| AI rfl <| NL <| zao <| zaV <| zaU [(4, Pp _ _)] ⟨rfl, trivial⟩ (fun (i : Nat) => [(9, .int .i64 (i : Int))]) (fun (i : Nat) => []) (fun (i : Nat) => i ≤ a.s.length ∧ ∀ j, j < i → a.s.getD j 0 ≠ 0) (fun (i : Nat) => a.s.length - i) (0) hst ⟨Nat.zero_le _, zhc⟩ ⟨rfl, trivial⟩ ?_
   intro i f w hst hJ ih78
   refine SQ <| SR <| MI rfl <| CN <| zaa zbh rfl <| CN <| zae (v := str _) ty9 rfl rfl (hst.cellL Q0 rfl) <| CN <| zaL (rest := []) ty9 rfl <| CN <| zaS rfl rfl <| NL <| zab rfl (fun g79 => ?_) (fun g79 => ?_)
   ·refine zaf <| SQ <| zao <| SR <| CN <| zaa zbh rfl <| CN <| zae (v := str _) ty9 rfl rfl (hst.cellL Q0 rfl) <| MI rfl <| CN <| zaH ty9 rfl rfl Om Om <| CN <| zak rfl rfl <| NL <| zab rfl (fun g80 => ?_) (fun g80 => ?_)
    ·refine SR <| AI rfl <| NL <| zah Tryz.func159 rfl (TP (v := .int .i64 _) rfl) ?_
     have hE := za6 (c := c) (a := a) (bound := bound) (fun h => h.elim (by omega) (fun h => h (by rw [hkd]; omega))) (fun h => h.elim (fun h => by have := h.2; omega) (fun h => h.1 (by omega)))
     rw [if_neg (fun h => absurd h.2 (of_decide_eq_false g75))] at hE
     rw [if_neg (fun h => by have h2 := h.2; have hg := g77; rw [ho] at h2; rw [h2] at hg; cases hg)] at hE
     rw [zcc (i := i) (by omega) (zgw (by have hg := g80; exact hg)) hJ.2] at hE
     exact ⟨Vi (hE).symm, hst.pure⟩
    refine zaf <| zam <| RG <| MI rfl <| CN <| zas rfl rfl rfl zbe <| AI rfl <| NL <| zay ?_
    exact ih78 (i + 1) _ w Om hst (⟨by omega, zck hJ.2 (zgc g80)⟩) ⟨rfl, trivial⟩ ⟨(Vi Om), trivial⟩
   refine zaJ (id := 0) rfl <| SR <| AI rfl <| NL <| zah Tryz.func159 rfl (TP (v := .int .i64 _) rfl) ?_
   have hE := za6 (c := c) (a := a) (bound := bound) (fun h => h.elim (by omega) (fun h => h (by rw [hkd]; omega))) (fun h => h.elim (fun h => by have := h.2; omega) (fun h => h.1 (by omega)))
   rw [if_neg (fun h => absurd h.2 (of_decide_eq_false g75))] at hE
   rw [if_neg (fun h => by have h2 := h.2; have hg := g77; rw [ho] at h2; rw [h2] at hg; cases hg)] at hE
   rw [zbX (fun j hj => hJ.2 j (by omega))] at hE
   exact ⟨Vi (hE).symm, hst.pure⟩
  refine OM (t := 56) rfl (Vb (Df g76)) rfl <| OM (t := 56) rfl (Vb (Df g76)) rfl <| CN <| zaq (u := .bool _) (Vb (Df g76)) rfl <| NL <| zaj [(4, Pp _ _), (59, .bool _)] E2 fun f => zat (Vb (rfl : false = _)) <| zaf <| SQ <| SR <| AI rfl <| NL <| zao <| zaV <| zaU [(4, Pp _ _)] ⟨rfl, trivial⟩ (fun (i : Nat) => [(9, .int .i64 (i : Int))]) (fun (i : Nat) => []) (fun (i : Nat) => i ≤ a.s.length ∧ ∀ j, j < i → a.s.getD j 0 ≠ 0) (fun (i : Nat) => a.s.length - i) (0) hst ⟨Nat.zero_le _, zhc⟩ ⟨rfl, trivial⟩ ?_
  intro i f w hst hJ ih81
  refine SQ <| SR <| MI rfl <| CN <| zaa zbh rfl <| CN <| zae (v := str _) ty9 rfl rfl (hst.cellL Q0 rfl) <| CN <| zaL (rest := []) ty9 rfl <| CN <| zaS rfl rfl <| NL <| zab rfl (fun g82 => ?_) (fun g82 => ?_)
  ·refine zaf <| SQ <| zao <| SR <| CN <| zaa zbh rfl <| CN <| zae (v := str _) ty9 rfl rfl (hst.cellL Q0 rfl) <| MI rfl <| CN <| zaH ty9 rfl rfl Om Om <| CN <| zak rfl rfl <| NL <| zab rfl (fun g83 => ?_) (fun g83 => ?_)
   ·refine SR <| AI rfl <| NL <| zah Tryz.func159 rfl (TP (v := .int .i64 _) rfl) ?_
    have hE := za6 (c := c) (a := a) (bound := bound) (fun h => h.elim (by omega) (fun h => h (by rw [hkd]; omega))) (fun h => h.elim (fun h => by have := h.2; omega) (fun h => h.1 (by omega)))
    rw [if_neg (fun h => absurd h.2 (of_decide_eq_false g75))] at hE
    rw [if_neg (fun h => by have := h.1; omega)] at hE
    rw [zcc (i := i) (by omega) (zgw (by have hg := g83; exact hg)) hJ.2] at hE
    exact ⟨Vi (hE).symm, hst.pure⟩
   refine zaf <| zam <| RG <| MI rfl <| CN <| zas rfl rfl rfl zbe <| AI rfl <| NL <| zay ?_
   exact ih81 (i + 1) _ w Om hst (⟨by omega, zck hJ.2 (zgc g83)⟩) ⟨rfl, trivial⟩ ⟨(Vi Om), trivial⟩
  refine zaJ (id := 0) rfl <| SR <| AI rfl <| NL <| zah Tryz.func159 rfl (TP (v := .int .i64 _) rfl) ?_
  have hE := za6 (c := c) (a := a) (bound := bound) (fun h => h.elim (by omega) (fun h => h (by rw [hkd]; omega))) (fun h => h.elim (fun h => by have := h.2; omega) (fun h => h.1 (by omega)))
  rw [if_neg (fun h => absurd h.2 (of_decide_eq_false g75))] at hE
  rw [if_neg (fun h => by have := h.1; omega)] at hE
  rw [zbX (fun j hj => hJ.2 j (by omega))] at hE
  exact ⟨Vi (hE).symm, hst.pure⟩
 refine OM (t := 40) rfl (Vb (Df g74)) rfl <| OM (t := 40) rfl (Vb (Df g74)) rfl <| OM (t := 40) rfl (Vb (Df g74)) rfl <| OM (t := 40) rfl (Vb (Df g74)) rfl <| CN <| zaq (u := .bool _) (Vb (Df g74)) rfl <| NL <| zat (Vb (rfl : false = _)) <| zaf <| SR <| MC rfl <| CN <| zaa zbM rfl <| CN <| zae (v := .int .u32 _) zbt rfl rfl (hst.cellL Q0 rfl) <| CN <| zaz (v1 := .int .u8 _) (v2 := .int .u32 _) zmD rfl rfl rfl <| Ret.det (zc0 ho _) hst fun w hst => CN (zad (v := .tuple #[str _, .bool _]) rfl ?_)
 refine CN <| Ex (str _) rfl rfl <| CN <| Ex (.bool _) rfl rfl <| AS rfl <| AB rfl <| NL <| SQ <| SR <| CN <| zaa zbA rfl <| CN <| zae (v := .int .u8 _) ty5 rfl rfl (hst.cellL Q0 rfl) <| CN <| zak rfl rfl <| MB rfl <| zan (d := 56) rfl (fun g84 => ?_) (fun g84 => ?_)
 ·refine TK (t := 56) rfl (Vb (Dt g84)) <| zad (v := .bool _) rfl <| TK (t := 56) rfl (Vb (Dt g84)) <| zaZ rfl <| CN <| zap (u := .bool _) (Vb (Dt g84)) rfl <| NL <| zaj [(4, Pp _ _), (59, .bool _)] E2 fun f => zaA rfl (fun g85 => ?_) (fun g85 => ?_)
  ·refine SR <| AI rfl <| NL <| zah Tryz.func159 rfl (TP (v := .int .i64 _) rfl) ?_
   have hE := za6 (c := c) (a := a) (bound := bound) (fun h => h.elim (by omega) (fun h => h (by rw [hkd]; omega))) (fun h => h.elim (fun h => by have := h.2; omega) (fun h => h.1 (by omega)))
   rw [if_neg (fun h => by have := h.1; omega)] at hE
   rw [if_pos ⟨by omega, by rw [ho]; simpa using g85⟩] at hE
   exact ⟨Vi (hE).symm, hst.pure⟩
  refine zaf <| SQ <| SR <| AI rfl <| NL <| zao <| zaV <| zaU [(4, Pp _ _)] ⟨rfl, trivial⟩ (fun (i : Nat) => [(9, .int .i64 (i : Int))]) (fun (i : Nat) => []) (fun (i : Nat) => i ≤ a.s.length ∧ ∀ j, j < i → a.s.getD j 0 ≠ 0) (fun (i : Nat) => a.s.length - i) (0) hst ⟨Nat.zero_le _, zhc⟩ ⟨rfl, trivial⟩ ?_
  intro i f w hst hJ ih86
  refine SQ <| SR <| MI rfl <| CN <| zaa zbh rfl <| CN <| zae (v := str _) ty9 rfl rfl (hst.cellL Q0 rfl) <| CN <| zaL (rest := []) ty9 rfl <| CN <| zaS rfl rfl <| NL <| zab rfl (fun g87 => ?_) (fun g87 => ?_)
  ·refine zaf <| SQ <| zao <| SR <| CN <| zaa zbh rfl <| CN <| zae (v := str _) ty9 rfl rfl (hst.cellL Q0 rfl) <| MI rfl <| CN <| zaH ty9 rfl rfl Om Om <| CN <| zak rfl rfl <| NL <| zab rfl (fun g88 => ?_) (fun g88 => ?_)
   ·refine SR <| AI rfl <| NL <| zah Tryz.func159 rfl (TP (v := .int .i64 _) rfl) ?_
    have hE := za6 (c := c) (a := a) (bound := bound) (fun h => h.elim (by omega) (fun h => h (by rw [hkd]; omega))) (fun h => h.elim (fun h => by have := h.2; omega) (fun h => h.1 (by omega)))
    rw [if_neg (fun h => by have := h.1; omega)] at hE
    rw [if_neg (fun h => by have h2 := h.2; have hg := g85; rw [ho] at h2; rw [h2] at hg; cases hg)] at hE
    rw [zcc (i := i) (by omega) (zgw (by have hg := g88; exact hg)) hJ.2] at hE
    exact ⟨Vi (hE).symm, hst.pure⟩
   refine zaf <| zam <| RG <| MI rfl <| CN <| zas rfl rfl rfl zbe <| AI rfl <| NL <| zay ?_
   exact ih86 (i + 1) _ w Om hst (⟨by omega, zck hJ.2 (zgc g88)⟩) ⟨rfl, trivial⟩ ⟨(Vi Om), trivial⟩
  refine zaJ (id := 0) rfl <| SR <| AI rfl <| NL <| zah Tryz.func159 rfl (TP (v := .int .i64 _) rfl) ?_
  have hE := za6 (c := c) (a := a) (bound := bound) (fun h => h.elim (by omega) (fun h => h (by rw [hkd]; omega))) (fun h => h.elim (fun h => by have := h.2; omega) (fun h => h.1 (by omega)))
  rw [if_neg (fun h => by have := h.1; omega)] at hE
  rw [if_neg (fun h => by have h2 := h.2; have hg := g85; rw [ho] at h2; rw [h2] at hg; cases hg)] at hE
  rw [zbX (fun j hj => hJ.2 j (by omega))] at hE
  exact ⟨Vi (hE).symm, hst.pure⟩
 refine OM (t := 56) rfl (Vb (Df g84)) rfl <| OM (t := 56) rfl (Vb (Df g84)) rfl <| CN <| zaq (u := .bool _) (Vb (Df g84)) rfl <| NL <| zaj [(4, Pp _ _), (59, .bool _)] E2 fun f => zat (Vb (rfl : false = _)) <| zaf <| SQ <| SR <| AI rfl <| NL <| zao <| zaV <| zaU [(4, Pp _ _)] ⟨rfl, trivial⟩ (fun (i : Nat) => [(9, .int .i64 (i : Int))]) (fun (i : Nat) => []) (fun (i : Nat) => i ≤ a.s.length ∧ ∀ j, j < i → a.s.getD j 0 ≠ 0) (fun (i : Nat) => a.s.length - i) (0) hst ⟨Nat.zero_le _, zhc⟩ ⟨rfl, trivial⟩ ?_
 intro i f w hst hJ ih89
 refine SQ <| SR <| MI rfl <| CN <| zaa zbh rfl <| CN <| zae (v := str _) ty9 rfl rfl (hst.cellL Q0 rfl) <| CN <| zaL (rest := []) ty9 rfl <| CN <| zaS rfl rfl <| NL <| zab rfl (fun g90 => ?_) (fun g90 => ?_)
 ·refine zaf <| SQ <| zao <| SR <| CN <| zaa zbh rfl <| CN <| zae (v := str _) ty9 rfl rfl (hst.cellL Q0 rfl) <| MI rfl <| CN <| zaH ty9 rfl rfl Om Om <| CN <| zak rfl rfl <| NL <| zab rfl (fun g91 => ?_) (fun g91 => ?_)
  ·refine SR <| AI rfl <| NL <| zah Tryz.func159 rfl (TP (v := .int .i64 _) rfl) ?_
   have hE := za6 (c := c) (a := a) (bound := bound) (fun h => h.elim (by omega) (fun h => h (by rw [hkd]; omega))) (fun h => h.elim (fun h => by have := h.2; omega) (fun h => h.1 (by omega)))
   rw [if_neg (fun h => by have := h.1; omega)] at hE
   rw [if_neg (fun h => by have := h.1; omega)] at hE
   rw [zcc (i := i) (by omega) (zgw (by have hg := g91; exact hg)) hJ.2] at hE
   exact ⟨Vi (hE).symm, hst.pure⟩
  refine zaf <| zam <| RG <| MI rfl <| CN <| zas rfl rfl rfl zbe <| AI rfl <| NL <| zay ?_
  exact ih89 (i + 1) _ w Om hst (⟨by omega, zck hJ.2 (zgc g91)⟩) ⟨rfl, trivial⟩ ⟨(Vi Om), trivial⟩
 refine zaJ (id := 0) rfl <| SR <| AI rfl <| NL <| zah Tryz.func159 rfl (TP (v := .int .i64 _) rfl) ?_
 have hE := za6 (c := c) (a := a) (bound := bound) (fun h => h.elim (by omega) (fun h => h (by rw [hkd]; omega))) (fun h => h.elim (fun h => by have := h.2; omega) (fun h => h.1 (by omega)))
 rw [if_neg (fun h => by have := h.1; omega)] at hE
 rw [if_neg (fun h => by have := h.1; omega)] at hE
 rw [zbX (fun j hj => hJ.2 j (by omega))] at hE
 exact ⟨Vi (hE).symm, hst.pure⟩
end Go.SK
namespace Go.SK
open Go Go.Proofs
theorem zxe : zaN Tryz.prog 158 := ⟨Tryz.f158, _, Tryz.func158, Kr, rfl⟩
theorem ent159 : zaN Tryz.prog 159 := ⟨Tryz.f159, _, Tryz.func159, Kr, rfl⟩
theorem ent160 : zaN Tryz.prog 160 := ⟨Tryz.f160, _, Tryz.func160, Kr, rfl⟩
theorem zxp : zaN Tryz.prog 108 := ⟨Tryz.f108, _, Tryz.func108, Kr, rfl⟩
theorem ent111 : zaN Tryz.prog 111 := ⟨Tryz.f111, _, Tryz.func111, Kr, rfl⟩
end Go.SK
namespace Go.SK
open Go Go.Proofs
open Go.RowKit
theorem zi2 (p : InstP) (bound : Int) (h0 : 0 ≤ p.op) (w : World) (hA : (Res.rargs p).holds w) (hsm : (p.args.map za1).sum ≤ 900000000) (hla : ∀ a ∈ p.args, a.s.length ≤ 100000000000) : Ret Tryz.prog 108 #[.agg #[.int .u16 p.op, .int .u32 p.ty, .int .u32 p.res, .slice p.ao p.args.length p.cap], .int .u32 bound] w (fun v w' => v = .int .i64 (zbu bound p.L) ∧ St w NoM [] [] w') := by
 refine zav (args := [.agg #[.int .u16 p.op, .int .u32 p.ty, .int .u32 p.res, .slice p.ao p.args.length p.cap], .int .u32 bound]) Tryz.func108 rfl rfl rfl ?_
 have hst : St w NoM [] [Res.rargs p] w := St.init_D hA
 clear hA
 obtain ⟨fm, hfm⟩ : ∃ fm, zbq p.op = fm := ⟨_, rfl⟩
 obtain ⟨ob, hob⟩ : ∃ ob, (zbv p.op).isSome = ob := ⟨_, rfl⟩
 have hf : FOk fm := hfm ▸ zeg p.op
 have hlen := zeE p.args
 refine SR <| CN <| zbi (v := zbb _ _ _ _ _ _) hst rfl rfl fun w b2 hst => AI rfl <| NSR <| CN <| zaa zdj rfl <| CN <| zae (v := .int .u16 _) zi4 rfl rfl (hst.cellL Q0 rfl) <| CN <| Op1.call1 (v1 := .int .u16 _) zog rfl rfl <| Ret.det (zeJ hfm hob _) hst fun w hst => CN <| zad (v := .tuple #[zau _ _ _ _ _ _ _ _, .bool _]) rfl <| CN <| Ex (zau _ _ _ _ _ _ _ _) rfl rfl <| CN <| Ex (.bool _) rfl rfl <| CN <| Op1.alloc hst zaM fun w b5 hst => CN (SO (v := zau _ _ _ _ _ _ _ _) hst zaM rfl rfl .u0 fun w hst => ?_)
 refine AB rfl <| NL <| SQ <| SR <| MB rfl <| CN <| zaZ rfl <| NL <| zaA rfl (fun g1 => ?_) (fun g1 => ?_)
 ·refine SR <| AI rfl <| NL <| zah Tryz.func108 rfl (TP (v := .int .i64 _) rfl) ?_
  exact ⟨Vi (zkm (by rw [hob]; simpa using g1)).symm, hst.pure⟩
 refine zaf <| SR <| CN <| zaa zdy rfl <| CN <| zae (v := .bool _) ty4 rfl rfl (hst.cellL Q0 rfl) <| CN <| zaa zdK rfl <| CN <| zae (v := .int .u32 _) zbt rfl rfl (hst.cellL Q1 rfl) <| MU rfl <| CN <| zir (v1 := .bool _) (v2 := .int .u32 _) (v3 := .int .u32 _) (v4 := .int .i64 _) zxe rfl rfl rfl rfl rfl <| Ret.det (zoH _ _ _ _ _) hst fun w hst => AI rfl <| NL <| zaj [(1, .int .u32 _), (2, Pp _ _), (5, Pp _ _), (7, .int .i64 _)] E4 fun f => SQ <| SQ <| RG ?_
 refine MI rfl <| CN <| zaW rfl rfl <| NL <| zab rfl (fun g2 => ?_) (fun g2 => ?_)
 ·refine SR <| MI rfl <| AI rfl <| NL <| zah Tryz.func108 rfl (TP (v := .int .i64 _) rfl) ?_
  have hF := zcZ (bound := bound) (i := p.L) (by rw [hob]; simpa using g1)
  rw [hfm] at hF
  rw [if_pos g2] at hF
  exact ⟨Vi (hF).symm, hst.pure⟩
 refine zaf <| SR <| CN <| zaa zcS rfl <| CN <| zae (v := .bool _) ty4 rfl rfl (hst.cellL Q0 rfl) <| CN <| zaa zeb rfl <| CN <| zae (v := .int .u32 _) zbt rfl rfl (hst.cellL Q1 rfl) <| MU rfl <| CN <| zir (v1 := .bool _) (v2 := .int .u32 _) (v3 := .int .u32 _) (v4 := .int .i64 _) zxe rfl rfl rfl rfl rfl <| Ret.det (zoH _ _ _ _ _) hst fun w hst => AI rfl <| NL <| SQ <| SR <| MI rfl ?_
 refine CN <| zaW rfl rfl <| NL <| zab rfl (fun g3 => ?_) (fun g3 => ?_)
 ·refine SR <| MI rfl <| AI rfl <| NL <| zah Tryz.func108 rfl (TP (v := .int .i64 _) rfl) ?_
  have hF := zcZ (bound := bound) (i := p.L) (by rw [hob]; simpa using g1)
  rw [hfm] at hF
  rw [if_neg g2] at hF
  rw [if_pos g3] at hF
  exact ⟨Vi (hF).symm, hst.pure⟩
 refine zaf <| SQ <| SR <| AI rfl <| NL <| zao <| zaV <| zaU [(1, .int .u32 _), (2, Pp _ _), (5, Pp _ _)] E3 (fun (k : Nat) => [(8, .int .i64 (k : Int))]) (fun (k : Nat) => []) (fun (k : Nat) => k ≤ p.args.length ∧ zb0 fm bound 0 (p.args.take k) = 0) (fun (k : Nat) => p.args.length - k) (0) hst ⟨Nat.zero_le _, rfl⟩ ⟨rfl, trivial⟩ ?_
 intro k f w hst hJ ih4
 refine SQ <| SR <| MI rfl <| CN <| zaa zbR rfl <| CN <| zae (v := .slice _ _ _) zdb rfl rfl (hst.cellL Q1 rfl) <| CN <| zaQ (rest := []) zdb rfl <| CN <| zaS rfl rfl <| NL <| zab rfl (fun g5 => ?_) (fun g5 => ?_)
 ·refine zaf <| SQ <| zao <| SQ ?_
  have hidx : p.args.getD ((k : Int)).toNat zeroA = (p.args.getD k zeroA) := rfl
  refine RunD.start [] hst (bs := [0, 1, 0, 7, 0, 16, 0, 112, 240, 0, 1023, 2047]) (ds := [some 42, some 43, some 44, some 45, some 46, some 47, some 48, some 49, some 50, some 51, some 52, some 7]) ⟨Kr, Kr, Kr⟩ (fun tab6 => ?_)
  refine DO tab6 1 (fun f' L' w' hc=> zaa zdj (hc.old (v := Pp _ _) rfl rfl rfl) hc.z) <| DO tab6 2 (fun f' L' w' hc=> zae (v := .int .u16 _) zi4 rfl (hc.d 0 rfl rfl rfl rfl) (hc.st.cellL (List.mem_append_right _ Q1) rfl) hc.z) <| DO tab6 3 (fun f' L' w' hc=> zad (v := .int .i64 _) (hc.old rfl rfl rfl) hc.z) <| DO tab6 4 (fun f' L' w' hc=> zaz (v1 := .int .u16 _) (v2 := .int .i64 _) zwk rfl (hc.d 1 rfl rfl rfl rfl) (hc.d 2 rfl rfl rfl rfl) ((zel h0 hfm _ Om _).mono fun v w hp => ⟨[], ⟨hp.1, rfl⟩, hc.st.keepc hp.2⟩)) <| DO tab6 5 (fun f' L' w' hc=> zaa zbR (hc.old (v := Pp _ _) rfl rfl rfl) hc.z) <| DO tab6 6 (fun f' L' w' hc=> zae (v := .slice _ _ _) zdb rfl (hc.d 4 rfl rfl rfl rfl) (hc.st.cellL (List.mem_append_right _ Q1) rfl) hc.z) <| DO tab6 7 (fun f' L' w' hc=> zad (v := .int .i64 _) (hc.old rfl rfl rfl) hc.z) <| DO tab6 8 (fun f' L' w' hc=> zaO zdb za9 (hc.st.hD _ Q0) (hc.d 5 rfl rfl rfl rfl) (hc.d 6 rfl rfl rfl rfl) Om Om hc.z) <| DO tab6 9 (fun f' L' w' hc=> zar (vs := zcX _ _ _) za9 rfl (hc.d 7 rfl rfl rfl rfl) rfl (Res.rs2_cells (m := 3) (hc.st.hD _ Q0) _ (zbG (g := zff) (d := zeroA) zcL _ _ Om)) hc.z) <| DO tab6 10 (fun _ _ _ hc => zad (v := .int .u32 _) (hc.old rfl rfl rfl) hc.z) <| RunD.fin zaw tab6 hst rfl (fun f7 w R10 hs8 hd9 hr11 hst => ?_)
  obtain ⟨h42_, r0⟩ := hd9 0 42 rfl rfl
  obtain ⟨h43_, r1⟩ := hd9 1 43 rfl rfl
  obtain ⟨h44_, r2⟩ := hd9 2 44 rfl rfl
  obtain ⟨h45_, r3⟩ := hd9 3 45 rfl rfl
  obtain ⟨h46_, r4⟩ := hd9 4 46 rfl rfl
  obtain ⟨h47_, r5⟩ := hd9 5 47 rfl rfl
  obtain ⟨h48_, r6⟩ := hd9 6 48 rfl rfl
  obtain ⟨h49_, r7⟩ := hd9 7 49 rfl rfl
  obtain ⟨h50_, r8⟩ := hd9 8 50 rfl rfl
  obtain ⟨h51_, r9⟩ := hd9 9 51 rfl rfl
  simp only [zyh, Fc, Fn, Mc, Mn, r0, r1, r2, r3, r4, r5, r6, r7, r8, r9, Na, An, Ca] at hst
  refine zaD (sl := [(1, .int .u32 _), (2, Pp _ _), (5, Pp _ _), (8, .int .i64 _), (45, .int .u8 _), (50, zcy _ _ _), (51, .int .u32 _)]) ⟨(hs8 1 rfl).trans rfl, (hs8 2 rfl).trans rfl, (hs8 5 rfl).trans rfl, (hs8 8 rfl).trans rfl, h45_, h50_, h51_, trivial⟩ ?_
  clear hs8 hd9 hr11 tab6
  refine CN <| zbD (v1 := .int .u8 _) (v2 := zcy _ _ _) (v3 := .int .u32 _) ent159 rfl rfl rfl rfl <| Ret.det (zoE _ (zcp fm (k : Int)).1 (zcp fm (k : Int)).2 (p.args.getD k zeroA) (by have := hla _ (zb8 (l := p.args) (i := k) (d := zeroA) Om); omega) bound _) hst fun w hst => AI rfl <| NSR <| MI rfl <| CN <| zaW rfl rfl <| NL <| zaj [(1, .int .u32 _), (2, Pp _ _), (5, Pp _ _), (7, .int .i64 _), (8, .int .i64 _), (54, .bool _)] E6 fun f => zab rfl (fun g12 => ?_) (fun g12 => ?_)
  ·refine SR <| MI rfl <| AI rfl <| NL <| zah Tryz.func108 rfl (TP (v := .int .i64 _) rfl) ?_
   have hF := zcZ (bound := bound) (i := p.L) (by rw [hob]; simpa using g1)
   rw [hfm] at hF
   rw [if_neg g2] at hF
   rw [if_neg g3] at hF
   have hw := (zhn Om hJ.2).2 g12
   rw [if_pos (by (try dsimp only); rw [hw]; exact g12)] at hF
   try dsimp only at hF
   rw [hw] at hF
   exact ⟨Vi (hF).symm, hst.pure⟩
  refine zaf <| zam <| RG <| MI rfl <| CN <| zas rfl rfl rfl zbe <| AI rfl <| NL <| zay ?_
  exact ih4 (k + 1) _ w Om hst (⟨by omega, ((zhn Om hJ.2).1).trans (Nn g12)⟩) E3 ⟨(Vi Om), trivial⟩
 obtain rfl : k = p.args.length := by omega
 have hwl := hJ.2
 rw [List.take_length] at hwl
 refine zaJ (id := 0) rfl <| SQ <| SR <| CN <| zar (vs := zaC _ _ _ _ _ _ _ _) zaM rfl rfl rfl (zac (n := 8) (hst.objL Q0) _ rfl) <| CN <| zaa zbR rfl <| CN <| zae (v := .slice _ _ _) zdb rfl rfl (hst.cellL Q1 rfl) <| CN <| zaQ (rest := []) zdb rfl <| CN <| zaz (v1 := zau _ _ _ _ _ _ _ _) (v2 := .int .i64 _) ent160 rfl rfl rfl <| Ret.det (zoF fm hf p.args.length Om _) hst fun w hst => CN <| zaZ rfl <| NL <| zaA rfl (fun g13 => ?_) (fun g13 => ?_)
 ·refine SR <| AI rfl <| NL <| zah Tryz.func108 rfl (TP (v := .int .i64 _) rfl) ?_
  have hF := zcZ (bound := bound) (i := p.L) (by rw [hob]; simpa using g1)
  rw [hfm] at hF
  rw [if_neg g2] at hF
  rw [if_neg g3] at hF
  rw [if_neg (fun h => h hwl)] at hF
  have hb := zex (op := p.op) (bound := bound) (l := p.args) (by rw [hfm]; exact hwl)
  have hq := ziy (fm := fm) (n := p.args.length) (fun hr => by have := zg2 (f := fm) hr (by rw [← hfm]; exact hb); rwa [List.length_map] at this)
  rw [if_pos (Nn (fun hx => by have h2 := hq.2 hx; have hg := g13; rw [h2] at hg; cases hg))] at hF
  exact ⟨Vi (hF).symm, hst.pure⟩
 refine zaf <| SQ <| SR <| CN <| zar (vs := zbg _ _ _ _ _ _) zbp rfl rfl rfl (zac (n := 4) (hst.objL Q1) _ rfl) <| CN <| zar (vs := zaC _ _ _ _ _ _ _ _) zaM rfl rfl rfl (zac (n := 8) (hst.objL Q0) _ rfl) <| CN <| zaz (v1 := zbb _ _ _ _ _ _) (v2 := zau _ _ _ _ _ _ _ _) zwj rfl rfl rfl <| Ret.det (zf1 p fm _ (hst.hD _ Q0) hsm hla) hst fun w hst => CN <| zbm rfl rfl <| NL <| zab rfl (fun g14 => ?_) (fun g14 => ?_)
 ·refine SR <| AI rfl <| NL <| zah Tryz.func108 rfl (TP (v := .int .i64 _) rfl) ?_
  have hF := zcZ (bound := bound) (i := p.L) (by rw [hob]; simpa using g1)
  rw [hfm] at hF
  rw [if_neg g2] at hF
  rw [if_neg g3] at hF
  rw [if_neg (fun h => h hwl)] at hF
  have hb := zex (op := p.op) (bound := bound) (l := p.args) (by rw [hfm]; exact hwl)
  have hq := ziy (fm := fm) (n := p.args.length) (fun hr => by have := zg2 (f := fm) hr (by rw [← hfm]; exact hb); rwa [List.length_map] at this)
  rw [if_neg (hq.1 (by simpa using g13))] at hF
  rw [if_pos (by (try dsimp only); omega)] at hF
  exact ⟨Vi (hF).symm, hst.pure⟩
 refine zaf <| SR <| AI rfl <| NL <| zah Tryz.func108 rfl (TP (v := .int .i64 _) rfl) ?_
 have hF := zcZ (bound := bound) (i := p.L) (by rw [hob]; simpa using g1)
 rw [hfm] at hF
 rw [if_neg g2] at hF
 rw [if_neg g3] at hF
 rw [if_neg (fun h => h hwl)] at hF
 have hb := zex (op := p.op) (bound := bound) (l := p.args) (by rw [hfm]; exact hwl)
 have hq := ziy (fm := fm) (n := p.args.length) (fun hr => by have := zg2 (f := fm) hr (by rw [← hfm]; exact hb); rwa [List.length_map] at this)
 rw [if_neg (hq.1 (by simpa using g13))] at hF
 rw [if_neg (by (try dsimp only); omega)] at hF
 exact ⟨Vi (hF).symm, hst.pure⟩
theorem zst (p : InstP) (bound : Int) (h0 : 0 ≤ p.op) (w : World) (hA : (Res.rargs p).holds w) (hsm : (p.args.map za1).sum ≤ 900000000) (hla : ∀ a ∈ p.args, a.s.length ≤ 100000000000) : Ret Tryz.prog 60 #[.agg #[.int .u16 p.op, .int .u32 p.ty, .int .u32 p.res, .slice p.ao p.args.length p.cap], .int .u32 bound] w (fun v w' => ∃ ro rc, v = .tuple #[.agg #[.int .u16 (zis bound p.L).1.1, .slice ro (zis bound p.L).1.2.length rc], .int .i64 (zis bound p.L).2] ∧ St w NoM [Res.sl ro (zis bound p.L).1.2.length rc 22 1 ((zis bound p.L).1.2.flatMap zdE)] [] w') := by
 refine zav (args := [.agg #[.int .u16 p.op, .int .u32 p.ty, .int .u32 p.res, .slice p.ao p.args.length p.cap], .int .u32 bound]) Tryz.func60 rfl rfl rfl ?_
 have hst : St w NoM [] [Res.rargs p] w := St.init_D hA
 clear hA
 obtain ⟨fm, hfm⟩ : ∃ fm, zbq p.op = fm := ⟨_, rfl⟩
 obtain ⟨ob, hob⟩ : ∃ ob, (zbv p.op).isSome = ob := ⟨_, rfl⟩
 have hf : FOk fm := hfm ▸ zeg p.op
 have hlen := zeE p.args
 have hml : (mustW fm.ty p.ty).length ≤ 1 := by unfold mustW; split <;> simp
 refine SR <| CN <| zbi (v := zbb _ _ _ _ _ _) hst rfl rfl fun w b2 hst => CN <| Op1.alloc hst zeR fun w b4 hst => AI rfl <| NSR <| CN <| zar (vs := zbg _ _ _ _ _ _) zbp rfl rfl rfl (zac (n := 4) (hst.objL Q1) _ rfl) <| MU rfl <| CN <| zaz (v1 := zbb _ _ _ _ _ _) (v2 := .int .u32 _) zxp rfl rfl rfl <| Ret.det (zi2 p bound h0 _ (hst.hD _ Q0) hsm hla) hst fun w hst => AI rfl <| NL <| SQ <| SQ ?_
 refine RG <| MI rfl <| CN <| zaW rfl rfl <| NL <| zab rfl (fun g1 => ?_) (fun g1 => ?_)
 ·refine SR <| CN (zag zeR zpm .nil ?_)
  refine MI rfl <| CN (SO (v := gHL _ _ _ _) hst zeR rfl rfl .u0 fun w hst => ?_)
  refine AI rfl <| NL <| zai Tryz.func60 rfl (zal (vs := lHL _ _ _ _) rfl zeR rfl rfl (zac (n := 2) (hst.objL Q0) _ rfl)) (TP (v := .int .i64 _) rfl) ?_
  replace hst := hst.pick .nil
  have hI := zgO (bound := bound) (i := p.L) rfl g1
  rw [hI]
  exact ⟨none, 0, rfl, (hst.pushNil 22 1).noD⟩
 refine zaf <| SR <| CN <| zaa zdj rfl <| CN <| zae (v := .int .u16 _) zi4 rfl rfl (hst.cellL Q1 rfl) <| CN <| Op1.call1 (v1 := .int .u16 _) zog rfl rfl <| Ret.det (zeJ hfm hob _) hst fun w hst => CN <| zad (v := .tuple #[zau _ _ _ _ _ _ _ _, .bool _]) rfl <| CN <| Ex (zau _ _ _ _ _ _ _ _) rfl rfl <| CN <| Ex (.bool _) rfl rfl <| CN <| Op1.alloc hst zaM fun w b7 hst => CN (SO (v := zau _ _ _ _ _ _ _ _) hst zaM rfl rfl .u0 fun w hst => ?_)
 refine AB rfl <| NL <| SQ ?_
 replace hst := hst.pushNil 22 1
 refine RG <| CN <| zaa zdj rfl <| CN <| zae (v := .int .u16 _) zi4 rfl rfl (hst.cellL Q3 rfl) <| CN (zag zeR zpm (.c (v := .int .u16 _) rfl (h := .nil)) ?_)
 refine CN <| Op1.alloc hst zeR fun w b9 hst => CN (SO (v := gHL _ _ _ _) hst zeR rfl rfl .u0 fun w hst => ?_)
 refine NL <| zaj [(2, Pp _ _), (4, Pp _ _), (7, Pp _ _), (9, Pp _ _)] E4 fun f => SQ <| zcT (L1 := [_, _]) [(2, Pp _ _), (4, Pp _ _), (7, Pp _ _), (9, Pp _ _)] hst E4 (fun (q : Option Addr × Nat) => []) (fun (q : Option Addr × Nat) => [Res.row b9 62 [.int .u16 p.op, .slice q.1 (mustW fm.ty p.ty).length q.2], Res.sl q.1 (mustW fm.ty p.ty).length q.2 22 1 ((mustW fm.ty p.ty).flatMap zdE)]) (fun (q : Option Addr × Nat) => True) (fun ⟨ao1, cp1⟩ f w hst hJ1 => ?_) (fun cut2 => ?_)
 replace hst : St _ _ ([Res.row b9 62 [.int .u16 p.op, .slice ao1 (mustW fm.ty p.ty).length cp1], Res.sl ao1 (mustW fm.ty p.ty).length cp1 22 1 ((mustW fm.ty p.ty).flatMap zdE)] ++ [_, _, _]) _ _ := hst
 replace hJ1 : True := hJ1
 skip
 ·refine SQ <| zcT (L1 := [_, _]) [(2, Pp _ _), (4, Pp _ _), (9, Pp _ _)] hst E3 (fun (q : Option Addr × Nat) => []) (fun (q : Option Addr × Nat) => [Res.row b9 62 [.int .u16 p.op, .slice q.1 (zfN fm p.ty p.res).length q.2], Res.sl q.1 (zfN fm p.ty p.res).length q.2 22 1 ((zfN fm p.ty p.res).flatMap zdE)]) (fun (q : Option Addr × Nat) => True) (fun ⟨ao2, cp2⟩ f w hst hJ2 => ?_) (fun cut4 => ?_)
  replace hst : St _ _ ([Res.row b9 62 [.int .u16 p.op, .slice ao2 (zfN fm p.ty p.res).length cp2], Res.sl ao2 (zfN fm p.ty p.res).length cp2 22 1 ((zfN fm p.ty p.res).flatMap zdE)] ++ [_, _, _]) _ _ := hst
  replace hJ2 : True := hJ2
  skip
  ·refine SQ <| SR <| AI rfl <| NL <| zao <| zaV <| zaU [(2, Pp _ _), (4, Pp _ _), (9, Pp _ _)] E3 (fun (q : Nat × Option Addr × Nat) => [(10, .int .i64 (q.1 : Int))]) (fun (q : Nat × Option Addr × Nat) => [Res.row b9 62 [.int .u16 p.op, .slice q.2.1 (zci fm p.L q.1).length q.2.2], Res.sl q.2.1 (zci fm p.L q.1).length q.2.2 22 1 ((zci fm p.L q.1).flatMap zdE)]) (fun (q : Nat × Option Addr × Nat) => q.1 ≤ p.args.length) (fun (q : Nat × Option Addr × Nat) => p.args.length - q.1) ((0, ao2, cp2)) (by (try dsimp only); rw [show (zci fm p.L 0) = (zfN fm p.ty p.res) from List.append_nil _]; exact hst) (Nat.zero_le _) ⟨rfl, trivial⟩ ?_
   intro ⟨k, aq, cq⟩ f w hst hJ ih6
   replace hst : St _ _ ([Res.row b9 62 [.int .u16 p.op, .slice aq (zci fm p.L k).length cq], Res.sl aq (zci fm p.L k).length cq 22 1 ((zci fm p.L k).flatMap zdE)] ++ [_, _, _]) _ _ := hst
   replace hJ : k ≤ p.args.length := hJ
   refine za2 (sl := [(10, .int .i64 (k : Int))]) ⟨rfl, trivial⟩ <| SQ <| SR <| MI rfl <| CN <| zaa zbR rfl <| CN <| zae (v := .slice _ _ _) zdb rfl rfl (hst.cellL Q4 rfl) <| CN <| zaQ (rest := []) zdb rfl <| CN <| zaS rfl rfl <| NL <| zab rfl (fun g7 => ?_) (fun g7 => ?_)
   ·have hstep := zpc (fm := fm) (p := p.L) (k := k) Od
    have hwk := zrA (fm := fm) (p := p.L) (k := k)
    have hsum : zm3 p.L.args k ≤ (p.args.map za1).sum := zmd
    have hmem : (p.args.getD k zeroA) ∈ p.args := zb8 Om
    have hsl := hla _ hmem
    have hidx : p.args.getD ((k : Int)).toNat zeroA = (p.args.getD k zeroA) := rfl
    have hidx2 : (p.args.getD ((k : Int)).toNat zeroA).kind = (p.args.getD k zeroA).kind := rfl
    refine zaf <| SQ <| zao <| SQ <| SR <| CN <| zaa zbR rfl <| CN <| zae (v := .slice _ _ _) zdb rfl rfl (hst.cellL Q4 rfl) <| MI rfl <| CN <| zaO zdb za9 (hst.hD _ Q0) rfl rfl Om Om <| CN <| zaa zbA rfl <| CN <| zae (v := .int .u8 _) ty5 rfl rfl (Res.rs2_cellF (hst.hD _ Q0) (za3 (g := zff) (d := zeroA) zcL rfl Om)) <| CN <| zaW rfl rfl <| NL <| zab rfl (fun g8 => ?_) (fun g8 => ?_)
    ·refine SQ <| RunD.start [] hst (bs := [0, 1, 0, 4, 0, 28, 60, 124, 252, 511, 1023, 2047]) (ds := [some 62, some 63, some 64, some 65, some 66, some 67, some 68, some 69, some 70, some 71, some 72, none]) ⟨Kr, Kr, Kr⟩ (fun tab9 => ?_)
     refine DO tab9 1 (fun f' L' w' hc=> zaa zdJ (hc.old (v := Pp _ _) rfl rfl rfl) hc.z) <| DO tab9 2 (fun f' L' w' hc=> zae (v := .slice _ _ _) ze7 rfl (hc.d 0 rfl rfl rfl rfl) (hc.st.cellL (List.mem_append_right _ Q0) rfl) hc.z) <| DO tab9 3 (fun f' L' w' hc=> zaa zbR (hc.old (v := Pp _ _) rfl rfl rfl) hc.z) <| DO tab9 4 (fun f' L' w' hc=> zae (v := .slice _ _ _) zdb rfl (hc.d 2 rfl rfl rfl rfl) (hc.st.cellL (List.mem_append_right _ Q4) rfl) hc.z) <| DO tab9 5 (fun f' L' w' hc=> zad (v := .int .i64 _) (hc.old rfl rfl rfl) hc.z) <| DO tab9 6 (fun f' L' w' hc=> zaO zdb za9 (hc.st.hD _ Q0) (hc.d 3 rfl rfl rfl rfl) (hc.d 4 rfl rfl rfl rfl) Om Om hc.z) <| DO tab9 7 (fun f' L' w' hc=> zaa zbM (hc.d 5 rfl rfl rfl rfl) hc.z) <| DO tab9 8 (fun f' L' w' hc=> zae (v := .int .u32 _) zbt rfl (hc.d 6 rfl rfl rfl rfl) (Res.rs2_cellF (hc.st.hD _ Q0) (za3 (g := zff) (d := zeroA) zcL rfl Om)) hc.z) <| RunD.op (fun v rs => ∃ b, v = .slice (some ⟨b, 0, none⟩) 1 1 ∧ rs = [Res.row b 22 (zdE (p.args.getD k zeroA).n)]) tab9 9 (fun _ _ _ hc => zaE (z0 := [.int .u32 0]) hc.st ze7 zbt rfl rfl Kr (.c (v := .int .u32 _) (hc.d 7 rfl rfl rfl rfl) (h := .nil)) fun w b hst => ⟨[_], ⟨b, rfl, rfl⟩, hst⟩) ?_
     refine RunD.fin zaw tab9 hst rfl (fun f10 w R13 hs11 hd12 hr14 hst => ?_)
     obtain ⟨h62_, r0⟩ := hd12 0 62 rfl rfl
     obtain ⟨h63_, r1⟩ := hd12 1 63 rfl rfl
     obtain ⟨h64_, r2⟩ := hd12 2 64 rfl rfl
     obtain ⟨h65_, r3⟩ := hd12 3 65 rfl rfl
     obtain ⟨h66_, r4⟩ := hd12 4 66 rfl rfl
     obtain ⟨h67_, r5⟩ := hd12 5 67 rfl rfl
     obtain ⟨h68_, r6⟩ := hd12 6 68 rfl rfl
     obtain ⟨h69_, r7⟩ := hd12 7 69 rfl rfl
     obtain ⟨b70, h70_, r8⟩ := hd12 8 70 rfl rfl
     simp only [rg9, Fc, Fn, Mc, Mn, r0, r1, r2, r3, r4, r5, r6, r7, r8, Na, An, Ca] at hst
     refine zaD (sl := [(2, Pp _ _), (4, Pp _ _), (9, Pp _ _), (10, .int .i64 _), (63, .slice _ _ _), (70, .slice _ _ _)]) ⟨(hs11 2 rfl).trans rfl, (hs11 4 rfl).trans rfl, (hs11 9 rfl).trans rfl, (hs11 10 rfl).trans rfl, h63_, h70_, trivial⟩ ?_
     clear hs11 hd12 hr14 tab9
     refine CN (zaI (news := [.int .u32 _]) hst ze7 zbt rfl rfl .u2 rfl rfl rfl (zac (n := 1) (hst.objL Q0) _ rfl) rfl rfl Om fun w ao15 cp16 hst => ?_)
     replace hst := hst.drop .u1
     refine CN <| zaa zdJ rfl <| CN (SO (v := .slice _ _ _) hst ze7 rfl rfl .u1 fun w hst => ?_)
     refine NL <| zaJ (id := 1) rfl <| zaj [(2, Pp _ _), (4, Pp _ _), (9, Pp _ _), (10, .int .i64 _)] E4 fun f => RG <| MI rfl <| CN <| zas rfl rfl rfl zbe <| AI rfl <| NL <| zay ?_
     have hy := (zek (a := (p.args.getD k zeroA)) Om).1
     rw [show p.L.args.getD k zeroA = (p.args.getD k zeroA) from rfl, hy] at hstep
     have e1 : (zci fm p.L k).length + 1 = (zci fm p.L (k + 1)).length := by rw [hstep]; simp
     have e2 : (zci fm p.L k).flatMap zdE ++ [.int .u32 (p.args.getD k zeroA).n] = (zci fm p.L (k + 1)).flatMap zdE := by rw [hstep, List.flatMap_append]; rfl
     rw [e1] at hst
     replace hst := hst.pick (.cons .u1 (.cons .u0 (.cons .u0 (.cons .u0 (.cons .u0 .nil)))))
     exact ih6 ((k + 1, ao15, cp16)) _ w (by (try dsimp only); omega) (by (try dsimp only); rw [← e2]; exact hst) (by (try dsimp only); omega) E3 ⟨(Vi (by (try dsimp only); omega)), trivial⟩
    refine zaf <| SR <| CN <| zaa zbR rfl <| CN <| zae (v := .slice _ _ _) zdb rfl rfl (hst.cellL Q4 rfl) <| MI rfl <| CN <| zaO zdb za9 (hst.hD _ Q0) rfl rfl Om Om <| CN <| zaa zbh rfl <| CN <| zae (v := str _) ty9 rfl rfl (Res.rs2_cellF (hst.hD _ Q0) (za3 (g := zff) (d := zeroA) zcL rfl Om)) <| CN (Op1.call1 (v1 := str _) ent111 rfl rfl ((zmV (p.args.getD k zeroA).s _ Om).mono fun v w hp => ?_))
    obtain ⟨aT, cT, rfl, hp⟩ := hp
    replace hst : St _ _ (_ :: _) _ _ := hst.call0 hp
    clear hp
    have hTl := zj5 (p.args.getD k zeroA).s
    refine CN <| zad (v := .tuple #[.slice _ _ _, .int .i64 _]) rfl <| CN <| Ex (.slice _ _ _) rfl rfl <| CN <| Ex (.int .i64 _) rfl rfl <| AL rfl <| AI rfl <| NL <| zaj [(2, Pp _ _), (4, Pp _ _), (9, Pp _ _), (10, .int .i64 _), (11, .slice _ _ _)] E5 fun f => SR <| AI rfl <| NL <| zao <| zaV ?_
    replace hst := hst.pick (.cons .u1 (.cons .u1 (.cons .u0 (.cons .u0 (.cons .u0 (.cons .u0 .nil))))))
    refine zaU [(2, Pp _ _), (4, Pp _ _), (9, Pp _ _), (10, .int .i64 _), (11, .slice _ _ _)] E5 (fun (q : Nat × Option Addr × Nat) => [(13, .int .i64 (q.1 : Int))]) (fun (q : Nat × Option Addr × Nat) => [Res.row b9 62 [.int .u16 p.op, .slice q.2.1 ((zci fm p.L k).length + q.1) q.2.2], Res.sl q.2.1 ((zci fm p.L k).length + q.1) q.2.2 22 1 ((zci fm p.L k).flatMap zdE ++ ((zby (p.args.getD k zeroA).s).take q.1).flatMap zdE)]) (fun (q : Nat × Option Addr × Nat) => q.1 ≤ (zby (p.args.getD k zeroA).s).length) (fun (q : Nat × Option Addr × Nat) => (zby (p.args.getD k zeroA).s).length - q.1) ((0, aq, cq)) (by (try dsimp only); rw [List.take_zero, List.flatMap_nil, List.append_nil (List.flatMap zdE _), Nat.add_zero]; exact hst) (Nat.zero_le _) ⟨rfl, trivial⟩ ?_
    intro ⟨n, an, cn⟩ f w hst hN ih17
    replace hst : St _ _ ([Res.row b9 62 [.int .u16 p.op, .slice an ((zci fm p.L k).length + n) cn], Res.sl an ((zci fm p.L k).length + n) cn 22 1 ((zci fm p.L k).flatMap zdE ++ ((zby (p.args.getD k zeroA).s).take n).flatMap zdE)] ++ [_, _, _, _]) _ _ := hst
    replace hN : n ≤ (zby (p.args.getD k zeroA).s).length := hN
    refine za2 (sl := [(13, .int .i64 (n : Int))]) ⟨rfl, trivial⟩ <| SQ <| SR <| MI rfl <| ML rfl <| CN <| zaQ (rest := []) ze7 rfl <| CN <| zaS rfl rfl <| NL <| zab rfl (fun g18 => ?_) (fun g18 => ?_)
    ·have hidn : (zby (p.args.getD k zeroA).s).getD ((n : Int)).toNat 0 = (zby (p.args.getD k zeroA).s).getD n 0 := rfl
     refine zaf <| SQ <| zao ?_
     obtain ⟨bT, rfl⟩ := Res.sl_some (hst.hL _ Q2) Om
     refine RunD.start [] hst (bs := [0, 1, 0, 0, 12, 28, 60, 127, 255, 511]) (ds := [some 89, some 90, some 91, some 92, some 93, some 94, some 95, some 96, some 97, none]) ⟨Kr, Kr, Kr⟩ (fun tab19 => ?_)
     refine DO tab19 1 (fun f' L' w' hc=> zaa zdJ (hc.old (v := Pp _ _) rfl rfl rfl) hc.z) <| DO tab19 2 (fun f' L' w' hc=> zae (v := .slice _ _ _) ze7 rfl (hc.d 0 rfl rfl rfl rfl) (hc.st.cellL (List.mem_append_right _ Q0) rfl) hc.z) <| DO tab19 3 (fun f' L' w' hc=> zad (v := .slice _ _ _) (hc.old rfl rfl rfl) hc.z) <| DO tab19 4 (fun f' L' w' hc=> zad (v := .int .i64 _) (hc.old rfl rfl rfl) hc.z) <| DO tab19 5 (fun f' L' w' hc=> za5 ze7 zbt (hc.d 2 rfl rfl rfl rfl) (hc.d 3 rfl rfl rfl rfl) Om Om hc.z) <| DO tab19 6 (fun f' L' w' hc=> zae (v := .int .u32 _) zbt rfl (hc.d 4 rfl rfl rfl rfl) (Res.sl_cell (hc.st.hL _ (List.mem_append_right _ Q2)) (zcq (g := zdE) (d := 0) zjd rfl Om)) hc.z) <| RunD.op (fun v rs => ∃ b, v = .slice (some ⟨b, 0, none⟩) 1 1 ∧ rs = [Res.row b 22 (zdE ((zby (p.args.getD k zeroA).s).getD n 0))]) tab19 7 (fun _ _ _ hc => zaE (z0 := [.int .u32 0]) hc.st ze7 zbt rfl rfl Kr (.c (v := .int .u32 _) (hc.d 5 rfl rfl rfl rfl) (h := .nil)) fun w b hst => ⟨[_], ⟨b, rfl, rfl⟩, hst⟩) ?_
     refine RunD.fin zaw tab19 hst rfl (fun f20 w R23 hs21 hd22 hr24 hst => ?_)
     obtain ⟨h89_, r0⟩ := hd22 0 89 rfl rfl
     obtain ⟨h90_, r1⟩ := hd22 1 90 rfl rfl
     obtain ⟨h91_, r2⟩ := hd22 2 91 rfl rfl
     obtain ⟨h92_, r3⟩ := hd22 3 92 rfl rfl
     obtain ⟨h93_, r4⟩ := hd22 4 93 rfl rfl
     obtain ⟨h94_, r5⟩ := hd22 5 94 rfl rfl
     obtain ⟨b95, h95_, r6⟩ := hd22 6 95 rfl rfl
     simp only [rg7, Fc, Fn, Mc, Mn, r0, r1, r2, r3, r4, r5, r6, Na, An, Ca] at hst
     refine zaD (sl := [(2, Pp _ _), (4, Pp _ _), (9, Pp _ _), (10, .int .i64 _), (11, .slice _ _ _), (13, .int .i64 _), (90, .slice _ _ _), (95, .slice _ _ _)]) ⟨(hs21 2 rfl).trans rfl, (hs21 4 rfl).trans rfl, (hs21 9 rfl).trans rfl, (hs21 10 rfl).trans rfl, (hs21 11 rfl).trans rfl, (hs21 13 rfl).trans rfl, h90_, h95_, trivial⟩ ?_
     clear hs21 hd22 hr24 tab19
     refine CN (zaI (news := [.int .u32 _]) hst ze7 zbt rfl rfl .u2 rfl rfl rfl (zac (n := 1) (hst.objL Q0) _ rfl) rfl rfl Om fun w ao25 cp26 hst => ?_)
     replace hst := hst.drop .u1
     refine CN <| zaa zdJ rfl <| CN (SO (v := .slice _ _ _) hst ze7 rfl rfl .u1 fun w hst => ?_)
     refine NL <| zam <| RG <| MI rfl <| CN <| zas rfl rfl rfl zbe <| AI rfl <| NL <| zay ?_
     have e3 : (zci fm p.L k).flatMap zdE ++ ((zby (p.args.getD k zeroA).s).take n).flatMap zdE ++ [.int .u32 ((zby (p.args.getD k zeroA).s).getD n 0)] = (zci fm p.L k).flatMap zdE ++ ((zby (p.args.getD k zeroA).s).take (n + 1)).flatMap zdE := by rw [zc4 (d := 0) (by omega), List.flatMap_append (xs := (zby (p.args.getD k zeroA).s).take n)]; simp only [List.append_assoc]; rfl
     rw [e3, Nat.add_assoc] at hst
     replace hst := hst.pick (.cons .u1 (.cons .u0 (.cons .u0 (.cons .u0 (.cons .u0 (.cons .u0 .nil))))))
     exact ih17 ((n + 1, ao25, cp26)) _ w Od hst Od E5 ⟨(Vi Od), trivial⟩
    refine zaJ (id := 2) rfl <| zam <| RG <| MI rfl <| CN <| zas rfl rfl rfl zbe <| AI rfl <| NL <| zay ?_
    obtain rfl : n = (zby (p.args.getD k zeroA).s).length := by omega
    have hy := (zd8 (a := (p.args.getD k zeroA)) Om).1
    rw [show p.L.args.getD k zeroA = (p.args.getD k zeroA) from rfl, hy] at hstep
    have e1 : (zci fm p.L k).length + (zby (p.args.getD k zeroA).s).length = (zci fm p.L (k + 1)).length := by rw [hstep]; simp
    have e2 : (zci fm p.L k).flatMap zdE ++ ((zby (p.args.getD k zeroA).s).take (zby (p.args.getD k zeroA).s).length).flatMap zdE = (zci fm p.L (k + 1)).flatMap zdE := by rw [hstep, List.take_length, List.flatMap_append]
    rw [e1, e2] at hst
    replace hst := hst.pick (.cons .u0 (.cons .u0 (.cons .u1 (.cons .u1 (.cons .u1 .nil)))))
    exact ih6 ((k + 1, an, cn)) _ w Od hst Od E3 ⟨(Vi Od), trivial⟩
   obtain rfl : k = p.args.length := by omega
   have hall : zci fm p.L p.args.length = zhg fm p.L := zrB
   rw [hall] at hst
   refine zaJ (id := 0) rfl <| SR <| CN <| zar (vs := lHL _ _ _ _) zeR rfl rfl rfl (zac (n := 2) (hst.objL Q0) _ rfl) <| CN (SO (v := gHL _ _ _ _) hst zeR rfl rfl .u3 fun w hst => ?_)
   refine AI rfl <| NL <| zai Tryz.func60 rfl (zal (vs := lHL _ _ _ _) rfl zeR rfl rfl (zac (n := 2) (hst.objL Q3) _ rfl)) (TP (v := .int .i64 _) rfl) ?_
   replace hst := hst.pick (.cons .u1 .nil)
   have hI := zps (bound := bound) (i := p.L) (Nn g1)
   rw [hI]
   dsimp only
   rw [hfm, ← hall]
   rw [← hall] at hst
   exact ⟨_, _, rfl, hst.noD⟩
  ·refine SR <| CN <| zaa zcS rfl <| CN <| zae (v := .bool _) ty4 rfl rfl (hst.cellL Q2 rfl) <| NL <| zaA rfl (fun g27 => ?_) (fun g27 => ?_)
   ·have hr : fm.res = true := by simpa using g27
    have hm2 : (zfN fm p.ty p.res) = (mustW fm.ty p.ty) ++ [p.res] := by show (mustW fm.ty p.ty) ++ mustW fm.res p.res = _; rw [mustW.eq_def fm.res, hr]; rfl
    refine RG <| CN <| zaa zdJ rfl <| CN <| zae (v := .slice _ _ _) ze7 rfl rfl (hst.cellL Q0 rfl) <| CN <| zaa zeb rfl <| CN <| zae (v := .int .u32 _) zbt rfl rfl (hst.cellL Q4 rfl) <| CN (zaE (z0 := [.int .u32 0]) hst ze7 zbt rfl rfl Kr (.c (v := .int .u32 _) rfl (h := .nil)) fun w b45 hst => ?_)
    refine CN (zaI (news := [.int .u32 _]) hst ze7 zbt rfl rfl .u2 rfl rfl rfl (zac (n := 1) (hst.objL Q0) _ rfl) rfl rfl Om fun w ao28 cp29 hst => ?_)
    replace hst := hst.drop .u1
    refine CN <| zaa zdJ rfl <| CN (SO (v := .slice _ _ _) hst ze7 rfl rfl .u1 fun w hst => ?_)
    refine NL ?_
    replace hst := hst.pick (.cons .u1 (.cons .u0 (.cons .u0 (.cons .u0 (.cons .u0 .nil)))))
    have e1 : (mustW fm.ty p.ty).length + 1 = (zfN fm p.ty p.res).length := by rw [hm2]; simp
    have e2 : (mustW fm.ty p.ty).flatMap zdE ++ [.int .u32 p.res] = (zfN fm p.ty p.res).flatMap zdE := by rw [hm2]; simp
    rw [e1, e2] at hst
    exact cut4 ((ao28, cp29)) _ w (hst) (trivial) E3 trivial
   have hr : fm.res = false := by simpa using g27
   have hm2 : (zfN fm p.ty p.res) = (mustW fm.ty p.ty) ++ [] := by show (mustW fm.ty p.ty) ++ mustW fm.res p.res = _; rw [mustW.eq_def fm.res, hr]; rfl
   refine zaf ?_
   exact cut4 ((ao1, cp1)) _ w ((by (try dsimp only); rw [hm2, List.append_nil]; exact hst)) (trivial) E3 trivial
 ·refine SR <| CN <| zaa zdy rfl <| CN <| zae (v := .bool _) ty4 rfl rfl (hst.cellL Q2 rfl) <| NL <| zaA rfl (fun g30 => ?_) (fun g30 => ?_)
  ·have ht : fm.ty = true := by simpa using g30
   have hm1 : (mustW fm.ty p.ty) = [p.ty] := by rw [mustW, ht]; rfl
   refine RG <| CN <| zaa zdJ rfl <| CN <| zae (v := .slice _ _ _) ze7 rfl rfl (hst.cellL Q0 rfl) <| CN <| zaa zdK rfl <| CN <| zae (v := .int .u32 _) zbt rfl rfl (hst.cellL Q4 rfl) <| CN (zaE (z0 := [.int .u32 0]) hst ze7 zbt rfl rfl Kr (.c (v := .int .u32 _) rfl (h := .nil)) fun w b36 hst => ?_)
   refine CN (zaI (news := [.int .u32 _]) hst ze7 zbt rfl rfl .u2 rfl rfl rfl (zac (n := 1) (hst.objL Q0) _ rfl) rfl rfl Om fun w ao31 cp32 hst => ?_)
   replace hst := hst.drop .u1
   refine CN <| zaa zdJ rfl <| CN (SO (v := .slice _ _ _) hst ze7 rfl rfl .u1 fun w hst => ?_)
   refine NL ?_
   replace hst := hst.pick (.cons .u1 (.cons .u0 (.cons .u0 (.cons .u0 (.cons .u0 .nil)))))
   exact cut2 ((ao31, cp32)) _ w ((by (try dsimp only); rw [hm1]; exact hst)) (trivial) E4 trivial
  have ht : fm.ty = false := by simpa using g30
  have hm1 : (mustW fm.ty p.ty) = [] := by rw [mustW, ht]; rfl
  refine zaf ?_
  exact cut2 ((none, 0)) _ w ((by (try dsimp only); rw [hm1]; exact hst)) (trivial) E4 trivial
end Go.SK
namespace Go.SK
open Go Go.Proofs
open Go.RowKit
theorem zpZ {p : InstP} {bound rop re : Int} {rws : List Int} (hR : zis bound p.L = ((rop, rws), re)) (h0 : 0 ≤ p.op) (w : World) (hA : (Res.rargs p).holds w) (hsm : (p.args.map za1).sum ≤ 900000000) (hla : ∀ a ∈ p.args, a.s.length ≤ 100000000000) : Ret Tryz.prog 60 #[.agg #[.int .u16 p.op, .int .u32 p.ty, .int .u32 p.res, .slice p.ao p.args.length p.cap], .int .u32 bound] w (fun v w' => ∃ ro rc, v = .tuple #[.agg #[.int .u16 rop, .slice ro rws.length rc], .int .i64 re] ∧ St w NoM [Res.sl ro rws.length rc 22 1 (rws.flatMap zdE)] [] w') := by
 have h := zst p bound h0 w hA hsm hla
 rw [hR] at h; exact h
end Go.SK
namespace Go.SK
open Go Go.Proofs
theorem zra : zaN Tryz.prog 109 := ⟨Tryz.f109, _, Tryz.func109, Kr, rfl⟩
theorem zup : zaN Tryz.prog 113 := ⟨Tryz.f113, _, Tryz.func113, Kr, rfl⟩
theorem ent114 : zaN Tryz.prog 114 := ⟨Tryz.f114, _, Tryz.func114, Kr, rfl⟩
end Go.SK
namespace Go.SK
open Go Go.Proofs
theorem ent60 : zaN Tryz.prog 60 := ⟨Tryz.f60, _, Tryz.func60, Kr, rfl⟩
theorem ent62 : zaN Tryz.prog 62 := ⟨Tryz.f62, _, Tryz.func62, Kr, rfl⟩
theorem ent61 : zaN Tryz.prog 61 := ⟨Tryz.f61, _, Tryz.func61, Kr, rfl⟩
theorem ent31 : zaN Tryz.prog 31 := ⟨Tryz.f31, _, Tryz.func31, Kr, rfl⟩
end Go.SK
namespace Go.SK
open Go Go.Proofs
open Go.RowKit
theorem zkC (u : Nat) (hu : u < 4294967296) (w : World) (hG : LxG.holds w) : Ret Tryz.prog 109 #[.int .u32 (u : Int)] w (fun v w' => v = str (Lib.decDigits u) ∧ St w NoM [] [] w') := by
 refine zav (args := [.int .u32 (u : Int)]) Tryz.func109 rfl rfl rfl ?_
 have hst : St w NoM [] [LxG] w := St.init_Ds (by simp only [List.forall_mem_cons]; exact ⟨hG, fun _ h => absurd h List.not_mem_nil⟩)
 refine SR <| AS rfl <| NSR <| MU rfl ?_
 first | refine CN (zaY zbt zbF rfl zdV ?_) | refine CN (za8 zbt zbF rfl ?_)
 refine CN <| zaz (v1 := .int .u64 _) (v2 := .int .i64 _) zwh rfl rfl rfl <| Ret.det (zmX u hu _ (hst.hD _ Q0)) hst fun w hst => AS rfl <| NL <| zah Tryz.func109 rfl (TP (v := str _) rfl) ?_
 exact ⟨rfl, hst.pure⟩
theorem zgz (n : Int) (h0 : 0 ≤ n) (h1 : n < 4294967296) (w : World) (hG : LxG.holds w) : Ret Tryz.prog 109 #[.int .u32 n] w (fun v w' => v = str (zd7 n) ∧ St w NoM [] [] w') := by
 obtain ⟨u, rfl⟩ := Int.eq_ofNat_of_zero_le h0
 exact zkC u Om w hG
theorem zuI (u : Nat) (hu : u < 4294967296) (w : World) (hG : LxG.holds w) : Ret Tryz.prog 113 #[.int .u32 (u : Int)] w (fun v w' => v = .agg #[.int .u8 2, str (Lib.decDigits u), .int .i64 0] ∧ St w NoM [] [] w') := by
 refine zav (args := [.int .u32 (u : Int)]) Tryz.func113 rfl rfl rfl ?_
 have hst : St w NoM [] [LxG] w := St.init_Ds (by simp only [List.forall_mem_cons]; exact ⟨hG, fun _ h => absurd h List.not_mem_nil⟩)
 refine SR <| CN <| Op1.alloc hst zbd fun w b2 hst => NSR <| MU rfl <| CN <| Op1.call1 (v1 := .int .u32 _) zra rfl rfl <| Ret.det (zkC u hu _ (hst.hD _ Q0)) hst fun w hst => CN (zag zbd zda (.c (v := .int .u8 _) rfl (h := (.c (v := str _) rfl (h := .nil)))) ?_)
 refine CN (SO (v := zbO _ _ _) hst zbd rfl rfl .u0 fun w hst => ?_)
 refine NL <| zah Tryz.func113 rfl (zal (vs := zeS _ _ _) rfl zbd rfl rfl (zac (n := 3) (hst.objL Q0) _ rfl)) ?_
 exact ⟨rfl, hst.pure⟩
theorem zmW (n : Int) (h0 : 0 ≤ n) (h1 : n < 4294967296) (w : World) (hG : LxG.holds w) : Ret Tryz.prog 113 #[.int .u32 n] w (fun v w' => v = .agg #[.int .u8 2, str (zd7 n), .int .i64 0] ∧ St w NoM [] [] w') := by
 obtain ⟨u, rfl⟩ := Int.eq_ofNat_of_zero_le h0
 exact zuI u Om w hG
theorem zuJ (c : Int) (a : ArgP) (w : World) (hG : LxG.holds w) (h0 : 0 ≤ a.n) (h1 : a.n < 4294967296) : Ret Tryz.prog 114 #[.int .u8 c, .agg #[.int .u8 a.kind, .int .u32 a.n, str a.s]] w (fun v w' => v = .agg #[.int .u8 (zgx c a).kind, str (zgx c a).text, .int .i64 (zgx c a).at_] ∧ St w NoM [] [] w') := by
 refine zav (args := [.int .u8 c, .agg #[.int .u8 a.kind, .int .u32 a.n, str a.s]]) Tryz.func114 rfl rfl rfl ?_
 have hst : St w NoM [] [LxG] w := St.init_Ds (by simp only [List.forall_mem_cons]; exact ⟨hG, fun _ h => absurd h List.not_mem_nil⟩)
 refine SR <| CN <| zbi (v := zcy _ _ _) hst rfl rfl fun w b3 hst => CN <| Op1.alloc hst zbd fun w b4 hst => NL <| SQ <| SR <| CN <| zaa zbA rfl <| CN <| zae (v := .int .u8 _) ty5 rfl rfl (hst.cellL Q1 rfl) <| CN <| zak rfl rfl <| NL <| zab rfl (fun g1 => ?_) (fun g1 => ?_)
 ·refine SR <| CN <| zaa zbM rfl <| CN <| zae (v := .int .u32 _) zbt rfl rfl (hst.cellL Q1 rfl) <| CN <| Op1.call1 (v1 := .int .u32 _) zup rfl rfl <| Ret.det (zmW a.n h0 h1 _ (hst.hD _ Q0)) hst fun w hst => CN (SO (v := zbO _ _ _) hst zbd rfl rfl .u0 fun w hst => ?_)
  refine NL <| zah Tryz.func114 rfl (zal (vs := zeS _ _ _) rfl zbd rfl rfl (zac (n := 3) (hst.objL Q0) _ rfl)) ?_
  rw [argK1 g1]
  exact ⟨rfl, hst.pure⟩
 refine zaf <| SQ <| SR <| CN <| zaa zbA rfl <| CN <| zae (v := .int .u8 _) ty5 rfl rfl (hst.cellL Q1 rfl) <| CN <| zak rfl rfl <| NL <| zab rfl (fun g2 => ?_) (fun g2 => ?_)
 ·refine SR <| CN <| zaa zbM rfl <| CN <| zae (v := .int .u32 _) zbt rfl rfl (hst.cellL Q1 rfl) <| CN <| Op1.call1 (v1 := .int .u32 _) zra rfl rfl <| Ret.det (zgz a.n h0 h1 _ (hst.hD _ Q0)) hst fun w hst => CN (zag zbd zda (.c (v := .int .u8 _) rfl (h := (.c (v := str _) rfl (h := .nil)))) ?_)
  refine CN (SO (v := zbO _ _ _) hst zbd rfl rfl .u0 fun w hst => ?_)
  refine NL <| zah Tryz.func114 rfl (zal (vs := zeS _ _ _) rfl zbd rfl rfl (zac (n := 3) (hst.objL Q0) _ rfl)) ?_
  rw [argK2 g1 g2]
  exact ⟨rfl, hst.pure⟩
 refine zaf <| SQ <| SR <| CN <| zaa zbA rfl <| CN <| zae (v := .int .u8 _) ty5 rfl rfl (hst.cellL Q1 rfl) <| CN <| zak rfl rfl <| NL <| zab rfl (fun g3 => ?_) (fun g3 => ?_)
 ·refine SR <| CN <| zaa zbh rfl <| CN <| zae (v := str _) ty9 rfl rfl (hst.cellL Q1 rfl) <| CN (zag zbd zda (.c (v := .int .u8 _) rfl (h := (.c (v := str _) rfl (h := .nil)))) ?_)
  refine CN (SO (v := zbO _ _ _) hst zbd rfl rfl .u0 fun w hst => ?_)
  refine NL <| zah Tryz.func114 rfl (zal (vs := zeS _ _ _) rfl zbd rfl rfl (zac (n := 3) (hst.objL Q0) _ rfl)) ?_
  rw [argK3 g1 g2 g3]
  exact ⟨rfl, hst.pure⟩
 refine zaf <| SR <| MC rfl <| CN <| zaa zbM rfl <| CN <| zae (v := .int .u32 _) zbt rfl rfl (hst.cellL Q1 rfl) <| CN <| zaz (v1 := .int .u8 _) (v2 := .int .u32 _) zmD rfl rfl rfl <| Ret.det (zlO c a.n _) hst fun w hst => CN <| zad (v := .tuple #[str _, .bool _]) rfl <| CN <| Ex (str _) rfl rfl <| CN <| Ex (.bool _) rfl rfl <| AS rfl <| AB rfl <| NL <| zaj [(4, Pp _ _), (5, str _)] E2 fun f => SQ ?_
 refine RG <| MS rfl <| CN (zag zbd zda (.c (v := .int .u8 _) rfl (h := (.c (v := str _) rfl (h := .nil)))) ?_)
 refine CN (SO (v := zbO _ _ _) hst zbd rfl rfl .u0 fun w hst => ?_)
 refine NL <| zah Tryz.func114 rfl (zal (vs := zeS _ _ _) rfl zbd rfl rfl (zac (n := 3) (hst.objL Q0) _ rfl)) ?_
 rw [argK4 g1 g2 g3]
 exact ⟨rfl, hst.pure⟩
theorem zoJ (p : InstP) (w : World) (hG : LxG.holds w) (hA0 : (Res.rargs p).holds w) (hu : p.L.U32) (hop : 0 ≤ p.op) (hsm : (p.args.map za1).sum ≤ 900000000) : Ret Tryz.prog 62 #[.agg #[.int .u16 p.op, .int .u32 p.ty, .int .u32 p.res, .slice p.ao p.args.length p.cap]] w (fun v w' => ∃ ao cp, v = .slice ao (zgd p.L).length cp ∧ St w NoM [Res.sl ao (zgd p.L).length cp 72 3 ((zgd p.L).flatMap zbW)] [] w') := by
 refine zav (args := [.agg #[.int .u16 p.op, .int .u32 p.ty, .int .u32 p.res, .slice p.ao p.args.length p.cap]]) Tryz.func62 rfl rfl rfl ?_
 have hst : St w NoM [] [LxG, Res.rargs p] w := St.init_Ds (by simp only [List.forall_mem_cons]; exact ⟨hG, hA0, fun _ h => absurd h List.not_mem_nil⟩)
 refine SR <| CN <| zbi (v := zbb _ _ _ _ _ _) hst rfl rfl fun w b1 hst => AL rfl <| NSR <| CN <| zaa zdj rfl <| CN (zae (v := .int .u16 _) zi4 rfl rfl (hst.cellL Q0 rfl) ?_)
 obtain ⟨fm, hfm⟩ : ∃ x, zbq p.op = x := ⟨_, rfl⟩
 obtain ⟨ob, hob⟩ : ∃ x, (zbv p.op).isSome = x := ⟨_, rfl⟩
 have htl := fun k => zqA (i := p.L) (fm := fm) (k := k) hu
 have hal : p.L.args.length ≤ 900000000 := Nat.le_trans (zeE _) hsm
 refine CN <| Op1.call1 (v1 := .int .u16 _) zog rfl rfl <| Ret.det (zeJ hfm hob _) hst fun w hst => CN <| zad (v := .tuple #[zau _ _ _ _ _ _ _ _, .bool _]) rfl <| CN <| Ex (zau _ _ _ _ _ _ _ _) rfl rfl <| CN <| Ex (.bool _) rfl rfl <| CN <| Op1.alloc hst zaM fun w b3 hst => CN (SO (v := zau _ _ _ _ _ _ _ _) hst zaM rfl rfl .u0 fun w hst => ?_)
 refine AB rfl <| NL <| SQ ?_
 replace hst := hst.pushNil 72 3
 refine RG <| CN <| Op1.assign (v := .slice none 0 0) rfl <| NL <| SQ <| zcT (L1 := [_]) [(1, Pp _ _), (3, Pp _ _)] hst E2 (fun (qq : Option Addr × Nat) => [(5, .slice qq.1 (zjK p.L).length qq.2)]) (fun (qq : Option Addr × Nat) => [Res.sl qq.1 (zjK p.L).length qq.2 72 3 ((zjK p.L).flatMap zbW)]) (fun (qq : Option Addr × Nat) => True) (fun ⟨aq, cq⟩ f w hst hJ2 => ?_) (fun cut1 => ?_)
 replace hst : St _ _ ([Res.sl aq (zjK p.L).length cq 72 3 ((zjK p.L).flatMap zbW)] ++ [_, _]) _ _ := hst
 replace hJ2 : True := hJ2
 refine za2 (sl := [(5, .slice aq (zjK p.L).length cq)]) ⟨rfl, trivial⟩ ?_
 ·have htR : (zjK p.L).length ≤ 2 := by unfold zjK; split <;> simp
  refine SR <| ML rfl <| CN <| zaa zjv rfl <| CN <| zae (v := str _) ty9 rfl rfl (hst.cellL Q1 rfl) <| CN (zag zbd zda (.c (v := .int .u8 _) rfl (h := (.c (v := str _) rfl (h := .nil)))) ?_)
  refine CN (zaE (z0 := [.int .u8 0, str [], .int .i64 0]) hst zcB zbd rfl rfl Kr (.c (v := zbO _ _ _) rfl (h := .nil)) fun w b29 hst => ?_)
  refine CN (zaI (news := (zeS _ _ _)) hst zcB zbd rfl rfl .u1 rfl rfl rfl (zac (n := 3) (hst.objL Q0) _ rfl) rfl rfl Om fun w ao4 cp5 hst => ?_)
  replace hst := hst.drop .u1
  refine AL rfl <| NL <| SQ <| zcT (L1 := [_]) [(1, Pp _ _)] hst ⟨rfl, trivial⟩ (fun (qq : Option Addr × Nat) => [(5, .slice qq.1 (zl8 p.L).length qq.2)]) (fun (qq : Option Addr × Nat) => [Res.sl qq.1 (zl8 p.L).length qq.2 72 3 ((zl8 p.L).flatMap zbW)]) (fun (qq : Option Addr × Nat) => True) (fun ⟨aq, cq⟩ f w hst hJ7 => ?_) (fun cut6 => ?_)
  replace hst : St _ _ ([Res.sl aq (zl8 p.L).length cq 72 3 ((zl8 p.L).flatMap zbW)] ++ [_, _]) _ _ := hst
  replace hJ7 : True := hJ7
  refine za2 (sl := [(5, .slice aq (zl8 p.L).length cq)]) ⟨rfl, trivial⟩ ?_
  ·have h0 := htl 0
   rw [zdl] at h0
   refine SQ <| SR <| AI rfl <| NL <| zao <| zaV <| zaU [(1, Pp _ _)] ⟨rfl, trivial⟩ (fun (qq : Nat × Option Addr × Nat) => [(5, .slice qq.2.1 (zm2 p.L fm qq.1).length qq.2.2), (6, .int .i64 (qq.1 : Int))]) (fun (qq : Nat × Option Addr × Nat) => [Res.sl qq.2.1 (zm2 p.L fm qq.1).length qq.2.2 72 3 ((zm2 p.L fm qq.1).flatMap zbW)]) (fun (qq : Nat × Option Addr × Nat) => qq.1 ≤ p.args.length) (fun (qq : Nat × Option Addr × Nat) => p.args.length - qq.1) ((0, aq, cq)) (by (try dsimp only); rw [zdl]; exact hst) (Nat.zero_le _) ⟨(by (try dsimp only); rw [zdl]; rfl), rfl, trivial⟩ ?_
   intro ⟨i, aq, cq⟩ f w hst hJ ih9
   replace hst : St _ _ ([Res.sl aq (zm2 p.L fm i).length cq 72 3 ((zm2 p.L fm i).flatMap zbW)] ++ [_, _]) _ _ := hst
   replace hJ : i ≤ p.args.length := hJ
   refine za2 (sl := [(5, .slice aq (zm2 p.L fm i).length cq), (6, .int .i64 (i : Int))]) E2 ?_
   have hti := htl i
   refine SQ <| SR <| MI rfl <| CN <| zaa zbR rfl <| CN <| zae (v := .slice _ _ _) zdb rfl rfl (hst.cellL Q2 rfl) <| CN <| zaQ (rest := []) zdb rfl <| CN <| zaS rfl rfl <| NL <| zab rfl (fun g10 => ?_) (fun g10 => ?_)
   ·have hi : i < p.L.args.length := by show i < p.args.length; omega
    have han := hu.args _ (zb8 (d := zeroA) hi)
    refine zaf <| SQ <| zao <| RunD.start [] hst (bs := [0, 0, 2, 0, 14, 0, 32, 0, 224, 480, 1022, 2046, 4095, 8191]) (ds := [some 46, some 47, some 48, some 49, some 50, some 51, some 52, some 53, some 54, some 55, some 56, some 57, some 58, some 5]) ⟨Kr, Kr, Kr⟩ (fun tab11 => ?_)
    refine DO tab11 1 (fun f' L' w' hc=> zad (v := .slice _ _ _) (hc.old rfl rfl rfl) hc.z) <| DO tab11 2 (fun f' L' w' hc=> zaa zdj (hc.old (v := Pp _ _) rfl rfl rfl) hc.z) <| DO tab11 3 (fun f' L' w' hc=> zae (v := .int .u16 _) zi4 rfl (hc.d 1 rfl rfl rfl rfl) (hc.st.cellL (List.mem_append_right _ Q2) rfl) hc.z) <| DO tab11 4 (fun f' L' w' hc=> zad (v := .int .i64 _) (hc.old rfl rfl rfl) hc.z) <| DO tab11 5 (fun f' L' w' hc=> zaz (v1 := .int .u16 _) (v2 := .int .i64 _) zwk rfl (hc.d 2 rfl rfl rfl rfl) (hc.d 3 rfl rfl rfl rfl) ((zel hop hfm (i : Int) Om _).mono fun v w hp => ⟨[], ⟨hp.1, rfl⟩, hc.st.keepc hp.2⟩)) <| DO tab11 6 (fun f' L' w' hc=> zaa zbR (hc.old (v := Pp _ _) rfl rfl rfl) hc.z) <| DO tab11 7 (fun f' L' w' hc=> zae (v := .slice _ _ _) zdb rfl (hc.d 5 rfl rfl rfl rfl) (hc.st.cellL (List.mem_append_right _ Q2) rfl) hc.z) <| DO tab11 8 (fun f' L' w' hc=> zad (v := .int .i64 _) (hc.old rfl rfl rfl) hc.z) <| DO tab11 9 (fun f' L' w' hc=> zaO zdb za9 (hc.st.hD _ Q1) (hc.d 6 rfl rfl rfl rfl) (hc.d 7 rfl rfl rfl rfl) Om Om hc.z) <| DO tab11 10 (fun f' L' w' hc=> zar (vs := zcX _ _ _) za9 rfl (hc.d 8 rfl rfl rfl rfl) rfl (Res.rs2_cells (m := 3) (hc.st.hD _ Q1) _ (zbG (g := zff) (d := zeroA) zcL _ _ Om)) hc.z) <| DO tab11 11 (fun f' L' w' hc=> zaz (v1 := .int .u8 _) (v2 := zcy _ _ _) ent114 rfl (hc.d 4 rfl rfl rfl rfl) (hc.d 9 rfl rfl rfl rfl) ((zuJ (zaP fm (i : Int)) (p.args.getD ((i : Int).toNat) zeroA) _ (hc.st.hD _ Q0) han.1 han.2).mono fun v w hp => ⟨[], ⟨hp.1, rfl⟩, hc.st.keepc hp.2⟩)) <| RunD.op (fun v rs => ∃ b, v = .slice (some ⟨b, 0, none⟩) 1 1 ∧ rs = [Res.row b 72 (zbW (zgx (zaP fm (i : Int)) (p.args.getD ((i : Int).toNat) zeroA)))]) tab11 12 (fun _ _ _ hc => zaE (z0 := [.int .u8 0, str [], .int .i64 0]) hc.st zcB zbd rfl rfl Kr (.c (v := zbO _ _ _) (hc.d 10 rfl rfl rfl rfl) (h := .nil)) fun w b hst => ⟨[_], ⟨b, rfl, rfl⟩, hst⟩) ?_
    refine RunD.fin zaw tab11 hst rfl (fun f12 w R15 hs13 hd14 hr16 hst => ?_)
    obtain ⟨h46_, r0⟩ := hd14 0 46 rfl rfl
    obtain ⟨h47_, r1⟩ := hd14 1 47 rfl rfl
    obtain ⟨h48_, r2⟩ := hd14 2 48 rfl rfl
    obtain ⟨h49_, r3⟩ := hd14 3 49 rfl rfl
    obtain ⟨h50_, r4⟩ := hd14 4 50 rfl rfl
    obtain ⟨h51_, r5⟩ := hd14 5 51 rfl rfl
    obtain ⟨h52_, r6⟩ := hd14 6 52 rfl rfl
    obtain ⟨h53_, r7⟩ := hd14 7 53 rfl rfl
    obtain ⟨h54_, r8⟩ := hd14 8 54 rfl rfl
    obtain ⟨h55_, r9⟩ := hd14 9 55 rfl rfl
    obtain ⟨h56_, r10⟩ := hd14 10 56 rfl rfl
    obtain ⟨b57, h57_, r11⟩ := hd14 11 57 rfl rfl
    simp only [rg12, Fc, Fn, Mc, Mn, r0, r1, r2, r3, r4, r5, r6, r7, r8, r9, r10, r11, Na, An, Ca] at hst
    refine zaD (sl := [(1, Pp _ _), (6, .int .i64 _), (46, .slice _ _ _), (57, .slice _ _ _)]) ⟨(hs13 1 rfl).trans rfl, (hs13 6 rfl).trans rfl, h46_, h57_, trivial⟩ ?_
    clear hs13 hd14 hr16 tab11
    refine CN (zaI (news := zbW (zgx (zaP fm (i : Int)) (p.args.getD ((i : Int).toNat) zeroA))) hst zcB zbd rfl rfl .u1 rfl rfl rfl (zac (n := 3) (hst.objL Q0) _ rfl) rfl rfl Om fun w ao17 cp18 hst => ?_)
    replace hst := hst.drop .u1
    refine AL rfl <| NL <| zam <| zaj [(1, Pp _ _), (5, .slice _ _ _), (6, .int .i64 _)] E3 fun f => RG <| MI rfl <| CN <| zas rfl rfl rfl zbe <| AI rfl <| NL <| zay ?_
    exact ih9 ((i + 1, ao17, cp18)) _ w ((by (try dsimp only); omega)) (by (try dsimp only); rw [zjL (i := p.L) (fm := fm) hi, List.length_append, List.flatMap_append]; exact hst) ((by (try dsimp only); omega)) ⟨rfl, trivial⟩ ⟨(by (try dsimp only); rw [zjL (i := p.L) (fm := fm) hi, List.length_append]; rfl), (Vi (by (try dsimp only); omega)), trivial⟩
   have hi : i = p.L.args.length := by show i = p.args.length; omega
   refine zaJ (id := 0) rfl <| SR <| ML rfl <| AL rfl <| NL <| zah Tryz.func62 rfl (TP (v := .slice _ _ _) rfl) ?_
   rw [zqB hfm hi] at hst ⊢
   replace hst := hst.pick (.cons .u0 .nil)
   exact ⟨_, _, rfl, hst.noD⟩
  ·refine SR <| CN <| zaa zdy rfl <| CN <| zae (v := .bool _) ty4 rfl rfl (hst.cellL Q1 rfl) <| NL <| zaA rfl (fun g19 => ?_) (fun g19 => ?_)
   ·refine RG <| ML rfl <| CN <| zaa zdK rfl <| CN <| zae (v := .int .u32 _) zbt rfl rfl (hst.cellL Q2 rfl) <| CN <| Op1.call1 (v1 := .int .u32 _) zup rfl rfl <| Ret.det (zmW p.ty hu.ty.1 hu.ty.2 _ (hst.hD _ Q0)) hst fun w hst => CN (zaE (z0 := [.int .u8 0, str [], .int .i64 0]) hst zcB zbd rfl rfl Kr (.c (v := zbO _ _ _) rfl (h := .nil)) fun w b37 hst => ?_)
    refine CN (zaI (news := zbW (idK p.ty)) hst zcB zbd rfl rfl .u1 rfl rfl rfl (zac (n := 3) (hst.objL Q0) _ rfl) rfl rfl Om fun w ao20 cp21 hst => ?_)
    replace hst := hst.drop .u1
    refine AL rfl <| NL ?_
    exact cut6 ((ao20, cp21)) _ w ((by (try dsimp only); rw [zl7 (i := p.L) hfm g19]; rw [List.length_append, List.length_append, List.flatMap_append, List.flatMap_append]; exact hst)) (trivial) ⟨rfl, trivial⟩ ⟨(by (try dsimp only); rw [zl7 (i := p.L) hfm g19]; rw [List.length_append, List.length_append]; rfl), trivial⟩
   refine zaf ?_
   exact cut6 ((ao4, cp5)) _ w ((by (try dsimp only); rw [zph (i := p.L) hfm g19]; rw [List.length_append, List.flatMap_append]; exact hst)) (trivial) ⟨rfl, trivial⟩ ⟨(by (try dsimp only); rw [zph (i := p.L) hfm g19]; rw [List.length_append]; rfl), trivial⟩
 ·refine SR <| CN <| zaa zcS rfl <| CN <| zae (v := .bool _) ty4 rfl rfl (hst.cellL Q1 rfl) <| NL <| zaA rfl (fun g22 => ?_) (fun g22 => ?_)
  ·refine SR <| ML rfl <| CN <| zaa zeb rfl <| CN <| zae (v := .int .u32 _) zbt rfl rfl (hst.cellL Q2 rfl) <| CN <| Op1.call1 (v1 := .int .u32 _) zup rfl rfl <| Ret.det (zmW p.res hu.res.1 hu.res.2 _ (hst.hD _ Q0)) hst fun w hst => CN (zaE (z0 := [.int .u8 0, str [], .int .i64 0]) hst zcB zbd rfl rfl Kr (.c (v := zbO _ _ _) rfl (h := .nil)) fun w b19 hst => ?_)
   refine CN (zaI (news := zbW (idK p.res)) hst zcB zbd rfl rfl .u1 rfl rfl rfl (zac (n := 3) (hst.objL Q0) _ rfl) rfl rfl Om fun w ao23 cp24 hst => ?_)
   replace hst := hst.drop .u1
   refine AL rfl <| NL <| zaj [(1, Pp _ _), (3, Pp _ _), (5, .slice _ _ _)] E3 fun f => RG <| ML rfl <| CN (zag zbd zda (.c (v := .int .u8 _) rfl (h := (.c (v := str _) rfl (h := .nil)))) ?_)
   refine CN (zaE (z0 := [.int .u8 0, str [], .int .i64 0]) hst zcB zbd rfl rfl Kr (.c (v := zbO _ _ _) rfl (h := .nil)) fun w b23 hst => ?_)
   refine CN (zaI (news := zbW ⟨5, [61], 0⟩) hst zcB zbd rfl rfl .u1 rfl rfl rfl (zac (n := 3) (hst.objL Q0) _ rfl) rfl rfl Om fun w ao25 cp26 hst => ?_)
   replace hst := hst.drop .u1
   refine AL rfl <| NL ?_
   exact cut1 ((ao25, cp26)) _ w ((by rw [zl6 (i := p.L) hfm g22]; exact hst)) (trivial) E2 ⟨(by rw [zl6 (i := p.L) hfm g22]; rfl), trivial⟩
  refine zaf ?_
  exact cut1 ((none, 0)) _ w ((by rw [zpg (i := p.L) hfm g22]; exact hst)) (trivial) E2 ⟨(by rw [zpg (i := p.L) hfm g22]; rfl), trivial⟩
end Go.SK
namespace Go.SK
open Go Go.Proofs
open Go.RowKit
theorem zlP (p : InstP) (bound : Int) (w : World) (hG : LxG.holds w) (hA0 : (Res.rargs p).holds w) (hu : p.L.U32) (hop : 0 ≤ p.op) (hsm : (p.args.map za1).sum ≤ 900000000) (hla : ∀ a ∈ p.args, a.s.length ≤ 100000000000) : Ret Tryz.prog 31 #[.agg #[.int .u16 p.op, .int .u32 p.ty, .int .u32 p.res, .slice p.ao p.args.length p.cap], .int .u32 bound] w (fun v w' => v = .tuple #[str (zcU bound p.L).1, .int .i64 (zcU bound p.L).2] ∧ St w NoM [] [] w') := by
 refine zav (args := [.agg #[.int .u16 p.op, .int .u32 p.ty, .int .u32 p.res, .slice p.ao p.args.length p.cap], .int .u32 bound]) Tryz.func31 rfl rfl rfl ?_
 have hst : St w NoM [] [LxG, Res.rargs p] w := St.init_Ds (by simp only [List.forall_mem_cons]; exact ⟨hG, hA0, fun _ h => absurd h List.not_mem_nil⟩)
 have hyw := zgG hu hsm
 refine SR <| CN <| zbi (v := zbb _ _ _ _ _ _) hst rfl rfl fun w b2 hst => AS rfl <| AI rfl <| NSR <| CN <| zar (vs := zbg _ _ _ _ _ _) zbp rfl rfl rfl (zac (n := 4) (hst.objL Q0) _ rfl) <| MU rfl ?_
 obtain ⟨⟨rop, rws⟩, re, hR⟩ : ∃ r e, zis bound p.L = (r, e) := ⟨_, _, rfl⟩
 have hre := (zhU hR).1
 refine CN (zaz (v1 := zbb _ _ _ _ _ _) (v2 := .int .u32 _) ent60 rfl rfl rfl ((zpZ hR hop _ (hst.hD _ Q1) hsm hla).mono fun v w hp => ?_))
 obtain ⟨ro, rc, rfl, hp⟩ := hp
 replace hst : St _ _ (_ :: _) _ _ := hst.call0 hp
 clear hp
 refine CN <| zad (v := .tuple #[gHL _ _ _ _, .int .i64 _]) rfl <| CN <| Ex (gHL _ _ _ _) rfl rfl <| CN <| Ex (.int .i64 _) rfl rfl <| CN <| Op1.alloc hst zeR fun w b6 hst => CN (SO (v := gHL _ _ _ _) hst zeR rfl rfl .u0 fun w hst => ?_)
 refine AI rfl <| NL <| SQ <| SR <| MI rfl <| CN <| zaW rfl rfl <| NL <| zab rfl (fun g1 => ?_) (fun g1 => ?_)
 ·refine SR <| MI rfl <| AS rfl <| AI rfl <| NL <| zai Tryz.func31 rfl (TP (v := str _) rfl) (TP (v := .int .i64 _) rfl) ?_
  rw [zke (by rw [← hre]; exact g1), ← hre]
  exact ⟨rfl, hst.pure⟩
 refine zaf <| SR <| CN <| zar (vs := zbg _ _ _ _ _ _) zbp rfl rfl rfl (zac (n := 4) (hst.objL Q2) _ rfl) <| CN (Op1.call1 (v1 := zbb _ _ _ _ _ _) ent62 rfl rfl ((zoJ p _ (hst.hD _ Q0) (hst.hD _ Q1) hu hop hsm).mono fun v w hp => ?_))
 obtain ⟨aoK, cpK, rfl, hp⟩ := hp
 replace hst : St _ _ (_ :: _) _ _ := hst.call0 hp
 clear hp
 refine CN <| Op1.call1 (v1 := .slice _ _ _) ent61 rfl rfl <| Ret.det (zp6 (zgd p.L) _ _ _ (Res.rs_of_sl (hst.hL _ Q0)) hyw.2 hyw.1) hst fun w hst => CN <| zad (v := .tuple #[str _, .int .i64 _]) rfl <| CN <| Ex (str _) rfl rfl <| CN <| Ex (.int .i64 _) rfl rfl <| AS rfl <| AI rfl <| NL <| zaj [(8, str _)] ⟨rfl, trivial⟩ fun f => SR <| MS rfl <| AS rfl <| AI rfl <| NL <| zai Tryz.func31 rfl (TP (v := str _) rfl) (TP (v := .int .i64 _) rfl) ?_
 have hw := zgF (bd := bound) (by rw [← hre]; exact Nn g1) hu
 rw [hw.2]
 exact ⟨rfl, hst.pure⟩
end Go.SK
