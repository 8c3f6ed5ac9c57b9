/-
  Steps of functions, plain law, and walks of functions: what the laws rest on.
-/
import Derived.Test.YtglmmdpeenckbaaGreatDoorSkH0c
import Derived.Test.YtglmmdpeenckbaaGreatDoorSkH1a
import Derived.Test.YtglmmdpeenckbaaGreatDoorSkH3a
import Derived.Test.YtglmmdpeenckbaaGreatDoorSkH4a
import Derived.Test.YtglmmdpeenckbaaGreatDoorSkH6a
import Derived.Test.YtglmmdpeenckbaaGreatDoorSkH7a
import Derived.Test.YtglmmdpeenckbaaGreatDoorSkH9a
import Derived.Test.YtglmmdpeenckbaaGreatDoorSkH10a
import Derived.Test.YtglmmdpeenckbaaGreatDoorSkH11a
import Derived.Test.YtglmmdpeenckbaaGreatDoorSkH15a
import Derived.Test.YtglmmdpeenckbaaGreatDoorSkH19a
set_option linter.unusedVariables false
set_option linter.unusedSimpArgs false
set_option linter.unusedSectionVars false
namespace Go.SK
open Go.RowKit
section
variable {P : Program} {ty : TypeId} {ρ : Operand → Value} {w0 w : World} {C : Value → World → Prop} {M : Nat → Prop} {L L' D : List Res}
variable {T e : TypeId} {de : TypeDesc} {d : TypeDesc} {sz bytes es eb : Nat} {zs ez : List Value} {ao : Option Addr} {n cap : Nat} {xs : List Value}
theorem Res.sl_snoc {α : Type} (g : α → List Value) (ao : Option Addr) (cap : Nat) (e : TypeId) (es : Nat) (l : List α) (a : α) : Res.sl ao (l.length + 1) cap e es (l.flatMap g ++ g a) = Res.sl ao (l ++ [a]).length cap e es ((l ++ [a]).flatMap g) := by
  simp
end
end Go.SK
namespace Go.SK
variable {P : Program} {b : Base} {k : List Item} {E : Frame → World → Prop} {ops : Array Oper} {f : Nat → Value} {w0 w : World} {M : Nat → Prop} {L D : List Res} {pd : zkN} {tk : zdC} {bs : List Nat} {ds : List (Option Nat)} {i : Nat} {l : List Oper} {ws : Nat → zhe}
def overW (t : Nat) (T : TypeId) (X : List Value) : zhe := fun g v rs => v = undef ∧ ∃ b, g t = .pointer (some ⟨b, 0, none⟩) ∧ rs = [Res.row b T X]
theorem zsr {d : Option Tmp} {op : Op} {ty : TypeId} {pos : String} {aft : Array Edge} {T : TypeId} {zs : List Value} (X : List Value) (htab : DrawTab ops bs ds) (i' : Nat) (j t : Nat) (hm : (j, i) ∈ tk) (ht : ds.getD j none = some t) (hw : zm4 (bs.getD i 0) j = true)
    (hz : ws j = cw (fun v rs => ∃ b, v = .pointer (some ⟨b, 0, none⟩) ∧ rs = [Res.row b T zs]))
    (hv : ∀ f' L' w' c L2, Know1 tk bs ds f w0 M L D i ws f' L' w' → f' t = .pointer (some ⟨c, 0, none⟩) → St w0 M (Res.row c T zs :: L2) D w' → Op1 P op ty (ev b.n f') w' (fun v w'' => v = undef ∧ St w0 M (Res.row c T X :: L2) D w''))
    (h : RunD tk pd P b ops bs ds k E f w0 M L D w i' l (zo9 ws i (overW t T X))) (hj : Nat.blt j i = true := by rfl) (hi : i + 1 = i' := by rfl) (hd : zdi op = false := by rfl) : RunD tk pd P b ops bs ds k E f w0 M L D w i (⟨d, op, ty, pos, aft, none⟩ :: l) ws := by
  refine zkx (overW t T X) htab i' j t hm ht (fun f' L' L'' w' hc hq => ?_) h hj hi hd
  obtain ⟨g, rs, h1, _, hp⟩ := hq
  rw [hz] at h1
  obtain ⟨c, hc1, hrs⟩ := h1
  subst hrs
  have hst : St w0 M (Res.row c T zs :: (L'' ++ L)) D w' := hc.st.perm (hp.append_right L)
  exact (hv f' L' w' c _ hc hc1 hst).mono fun v w'' h2 => ⟨[Res.row c T X], fun g hg => ⟨h2.1, c, (hg j t hw ht).trans hc1, rfl⟩, h2.2⟩
end Go.SK
namespace Go.SK
theorem zn6 (f : FormL) : (zh4 f).length = 8 := rfl
theorem zqJ : refT.length = 93 := by decide +kernel
theorem zx9 (n : Nat) : (ziu n).length ≤ 93 := by
  rw [← zqJ]; exact List.length_filter_le _ _
end Go.SK
namespace Go.SK
theorem zpM {op : Int} {fm : FormL} (hf : zbq op = fm) {i : Nat} {k : Int} : (zaP fm i = 0 ∨ zbZ (zaP fm i) ≠ k) ↔ zx4 fm i k := by
  subst hf
  constructor
  · rintro (h | h)
    · by_cases hk : k = 0
      · exact .inl hk
      · right; rw [h, znU]; exact fun e => hk e.symm
    · exact .inr h
  · rintro (h | h)
    · by_cases hl : zaP (zbq op) i = 0
      · exact .inl hl
      · right; rw [h]; exact zgo op i hl
    · exact .inr h
theorem ztF {f : FormL} {n : Nat} {m : Nat} {t : Nat} (hm : m = f.fixed.length + t * f.rest.length) (hge : n ≤ m) (hlt : m < n + f.rest.length ∨ t = 0) (hno : f.rest = [] → n ≤ f.fixed.length) : (m ≠ n) ↔ zlt f n := by
  by_cases hr : f.rest = []
  · have h0 : f.rest.length = 0 := by rw [hr]; rfl
    have := hno hr
    rw [h0] at hm
    simp only [zlt]
    constructor
    · intro h; left; omega
    · rintro (h | h)
      · omega
      · exact absurd hr h.1
  · have hrl : 0 < f.rest.length := List.length_pos_iff.2 hr
    have key : ((n : Int) - f.fixed.length) = (t : Int) * f.rest.length - ((m : Int) - n) := by
      have : (m : Int) = f.fixed.length + (t : Int) * f.rest.length := by rw [hm]; simp
      omega
    simp only [zlt]
    by_cases ht : t = 0
    · subst ht
      have : m = f.fixed.length := by simpa using hm
      constructor
      · intro h; left; omega
      · rintro (h | ⟨_, h⟩)
        · omega
        · intro e; apply h; rw [show (n : Int) - f.fixed.length = 0 by omega]; simp
    · have hlt' : m < n + f.rest.length := hlt.resolve_right ht
      constructor
      · intro h
        right
        refine ⟨hr, ?_⟩
        rw [key, show (t : Int) * f.rest.length - ((m : Int) - n) = (f.rest.length - ((m : Int) - n)) + f.rest.length * ((t : Int) - 1) by rw [Int.mul_sub, Int.mul_comm (f.rest.length : Int) t]; omega, Int.add_mul_emod_self_left, Int.emod_eq_of_lt (by omega) (by omega)]
        omega
      · rintro (h | ⟨_, h⟩) e
        · have : f.fixed.length ≤ m := by rw [hm]; exact Nat.le_add_right _ _
          omega
        · apply h
          rw [key, show (m : Int) - n = 0 by omega, Int.sub_zero]
          exact Int.mul_emod_left _ _
end Go.SK
namespace Go.SK
open Go.RowKit
theorem E9 {f : Nat → Value} {t0 t1 t2 t3 t4 t5 t6 t7 t8 : Nat} : Slots f [(t0, f t0), (t1, f t1), (t2, f t2), (t3, f t3), (t4, f t4), (t5, f t5), (t6, f t6), (t7, f t7), (t8, f t8)] := ⟨rfl, rfl, rfl, rfl, rfl, rfl, rfl, rfl, rfl, trivial⟩
theorem E13 {f : Nat → Value} {t0 t1 t2 t3 t4 t5 t6 t7 t8 t9 t10 t11 t12 : Nat} : Slots f [(t0, f t0), (t1, f t1), (t2, f t2), (t3, f t3), (t4, f t4), (t5, f t5), (t6, f t6), (t7, f t7), (t8, f t8), (t9, f t9), (t10, f t10), (t11, f t11), (t12, f t12)] := ⟨rfl, rfl, rfl, rfl, rfl, rfl, rfl, rfl, rfl, rfl, rfl, rfl, rfl, trivial⟩
theorem rg17 : List.range 17 = [0, 1, 2, 3, 4, 5, 6, 7, 8, 9, 10, 11, 12, 13, 14, 15, 16] := rfl
end Go.SK
namespace Go.SK
theorem zqV {a b : Nat} (ha : a ≤ 15) (hb : b ≤ 15) : ((UInt8.ofNat (16 * a + b)).toNat : Int) = 16 * (a : Int) + b := by
  rw [UInt8.toNat_ofNat']; omega
end Go.SK
namespace Go.SK
open Go Go.Proofs
open Go.RowKit
theorem zsz (c : UInt8) (w : World) : Ret Tryz.prog 117 #[.int .u8 (c.toNat : Int)] w (fun v w' => v = .bool (zca c) ∧ St w NoM [] [] w') := by
 refine zav (args := [.int .u8 (c.toNat : Int)]) Tryz.func117 rfl rfl rfl ?_
 have hst := St.init w
 refine SR <| AB rfl <| NSR <| MC rfl <| CN <| zak rfl rfl <| MB rfl <| zan (d := 5) rfl (fun g1 => ?_) (fun g1 => ?_)
 ·refine OM (t := 5) rfl (Vb (Dt g1)) rfl <| OM (t := 5) rfl (Vb (Dt g1)) rfl <| CN <| zap (u := .bool _) (Vb (Dt g1)) rfl <| MB rfl <| OM (t := 9) rfl (Vb (rfl : true = _)) rfl <| OM (t := 9) rfl (Vb (rfl : true = _)) rfl <| CN <| zap (u := .bool _) (Vb (rfl : true = _)) rfl <| AB rfl <| NL <| zah Tryz.func117 rfl (TP (v := .bool _) rfl) <| ⟨Vb ?_, hst.pure⟩
  unfold zca
  first | (rw [decide_eq_decide]; omega) | exact (Df (by omega)).symm | exact (Dt (by omega)).symm
 refine TK (t := 5) rfl (Vb (Df g1)) <| zad (v := .int .u8 _) rfl <| TK (t := 5) rfl (Vb (Df g1)) <| zak rfl rfl <| CN <| zaq (u := .bool _) (Vb (Df g1)) rfl <| MB rfl <| zan (d := 9) rfl (fun g2 => ?_) (fun g2 => ?_)
 ·refine OM (t := 9) rfl (Vb (Dt g2)) rfl <| OM (t := 9) rfl (Vb (Dt g2)) rfl <| CN <| zap (u := .bool _) (Vb (Dt g2)) rfl <| AB rfl <| NL <| zah Tryz.func117 rfl (TP (v := .bool _) rfl) <| ⟨Vb ?_, hst.pure⟩
  unfold zca
  first | (rw [decide_eq_decide]; omega) | exact (Df (by omega)).symm | exact (Dt (by omega)).symm
 refine TK (t := 9) rfl (Vb (Df g2)) <| zad (v := .int .u8 _) rfl <| TK (t := 9) rfl (Vb (Df g2)) <| zak rfl rfl <| CN <| zaq (u := .bool _) (Vb (Df g2)) rfl <| AB rfl <| NL <| zah Tryz.func117 rfl (TP (v := .bool _) rfl) <| ⟨Vb ?_, hst.pure⟩
 unfold zca
 first | (rw [decide_eq_decide]; omega) | exact (Df (by omega)).symm | exact (Dt (by omega)).symm
end Go.SK
namespace Go.SK
open Go Go.Proofs
open Go.RowKit
theorem zuO (s : Tx) (x : Int) (a : Nat) (hx : x = a) (ha : a < s.length) (w : World) (hl : s.length ≤ 140737488355328) : Ret Tryz.prog 205 #[str s, .int .i64 x] w (fun v w' => v = zrV (zcs (s.drop a)) ∧ St w NoM [] [] w') := by
 refine zav (args := [str s, .int .i64 x]) Tryz.func205 rfl rfl rfl ?_
 have hst := St.init w
 subst hx
 have hidx1 : (s.getD (((a : Int) + 1).toNat) 0).toNat = (s.getD (a + 1) 0).toNat := rfl
 have hidx2 : (s.getD (((a : Int) + 2).toNat) 0).toNat = (s.getD (a + 2) 0).toNat := rfl
 have hidx3 : (s.getD (((a : Int) + 3).toNat) 0).toNat = (s.getD (a + 3) 0).toNat := rfl
 have hidx : (s.getD ((a : Int).toNat) 0).toNat = (s.getD a 0).toNat := rfl
 refine SR <| AC rfl <| AI rfl <| NSR <| MS rfl <| MI rfl <| CN <| zaH ty9 rfl rfl Om Om <| AC rfl <| NL <| SQ <| SQ <| RG ?_
 refine MC rfl <| CN <| zaS rfl rfl <| MB rfl <| zan (d := 12) rfl (fun g1 => ?_) (fun g1 => ?_)
 ·refine OM (t := 12) rfl (Vb (Dt g1)) rfl <| OM (t := 12) rfl (Vb (Dt g1)) rfl <| CN <| zap (u := .bool _) (Vb (Dt g1)) rfl <| MB rfl <| OM (t := 16) rfl (Vb (rfl : true = _)) rfl <| OM (t := 16) rfl (Vb (rfl : true = _)) rfl <| CN <| zap (u := .bool _) (Vb (rfl : true = _)) rfl <| NL <| zax (Vb (rfl : true = _)) <| SR <| AC rfl <| AI rfl <| NL <| zai Tryz.func205 rfl (TP (v := .int .u8 _) rfl) (TP (v := .int .i64 _) rfl) ?_
  rw [zhX ha (by omega)]
  exact ⟨rfl, hst.pure⟩
 refine TK (t := 12) rfl (Vb (Df g1)) <| zad (v := .int .u8 _) rfl <| TK (t := 12) rfl (Vb (Df g1)) <| zbm rfl rfl <| CN <| zaq (u := .bool _) (Vb (Df g1)) rfl <| MB rfl <| zan (d := 16) rfl (fun g2 => ?_) (fun g2 => ?_)
 ·refine OM (t := 16) rfl (Vb (Dt g2)) rfl <| OM (t := 16) rfl (Vb (Dt g2)) rfl <| CN <| zap (u := .bool _) (Vb (Dt g2)) rfl <| NL <| zax (Vb (rfl : true = _)) <| SR <| AC rfl <| AI rfl <| NL <| zai Tryz.func205 rfl (TP (v := .int .u8 _) rfl) (TP (v := .int .i64 _) rfl) ?_
  rw [zhX ha (by omega)]
  exact ⟨rfl, hst.pure⟩
 refine TK (t := 16) rfl (Vb (Df g2)) <| zad (v := .int .u8 _) rfl <| TK (t := 16) rfl (Vb (Df g2)) <| zak rfl rfl <| CN <| zaq (u := .bool _) (Vb (Df g2)) rfl <| NL <| zab rfl (fun g3 => ?_) (fun g3 => ?_)
 ·refine SR <| AC rfl <| AI rfl <| NL <| zai Tryz.func205 rfl (TP (v := .int .u8 _) rfl) (TP (v := .int .i64 _) rfl) ?_
  rw [zhX ha (by omega)]
  exact ⟨rfl, hst.pure⟩
 refine zaf <| SQ <| SR <| MC rfl <| CN <| zaW rfl rfl <| NL <| zab rfl (fun g4 => ?_) (fun g4 => ?_)
 ·refine SR <| MC rfl <| AC rfl <| AI rfl <| NL <| zai Tryz.func205 rfl (TP (v := .int .u8 _) rfl) (TP (v := .int .i64 _) rfl) ?_
  rw [zmm ha (by omega) (by omega)]
  exact ⟨rfl, hst.pure⟩
 refine zaf <| SQ <| SR <| MI rfl <| CN <| zas rfl rfl rfl zbe <| MS rfl <| CN <| zaL (rest := []) ty9 rfl <| CN <| zaS rfl rfl <| MB rfl <| zan (d := 28) rfl (fun g5 => ?_) (fun g5 => ?_)
 ·refine TK (t := 28) rfl (Vb (Dt g5)) <| zad (v := str _) rfl <| TK (t := 28) rfl (Vb (Dt g5)) <| zad (v := .int .i64 _) rfl <| TK (t := 28) rfl (Vb (Dt g5)) <| zas rfl rfl rfl zbe <| TK (t := 28) rfl (Vb (Dt g5)) <| zaH ty9 rfl rfl Om Om <| TK (t := 28) rfl (Vb (Dt g5)) <| zak rfl rfl <| TK (t := 28) rfl (Vb (Dt g5)) <| zad (v := .bool _) rfl <| zan (d := 34) rfl (fun g6 => ?_) (fun g6 => ?_)
  ·refine OM (t := 34) rfl (Vb (Dt g6)) rfl <| OM (t := 34) rfl (Vb (Dt g6)) rfl <| OM (t := 34) rfl (Vb (Dt g6)) rfl <| OM (t := 34) rfl (Vb (Dt g6)) rfl <| OM (t := 34) rfl (Vb (Dt g6)) rfl <| TK (t := 28) rfl (Vb (Dt g5)) <| zap (u := .bool _) (Vb (Dt g6)) rfl <| CN <| zap (u := .bool _) (Vb (Dt g5)) rfl <| NL <| zaj [(0, str _), (1, .int .i64 _), (41, .bool _)] E3 fun f => zax (Vb (rfl : true = _)) <| SR <| MS rfl <| MI rfl <| CN (zas rfl rfl rfl zbe ?_)
   refine CN <| zaH ty9 rfl rfl Om Om <| AC rfl <| AI rfl <| NL <| zai Tryz.func205 rfl (TP (v := .int .u8 _) rfl) (TP (v := .int .i64 _) rfl) ?_
   rw [zjm ha (by omega) (by omega) (by omega)]
   exact ⟨rfl, hst.pure⟩
  refine TK (t := 34) rfl (Vb (Df g6)) <| zad (v := str _) rfl <| TK (t := 34) rfl (Vb (Df g6)) <| zad (v := .int .i64 _) rfl <| TK (t := 34) rfl (Vb (Df g6)) <| zas rfl rfl rfl zbe <| TK (t := 34) rfl (Vb (Df g6)) <| zaH ty9 rfl rfl Om Om <| TK (t := 34) rfl (Vb (Df g6)) <| zak rfl rfl <| TK (t := 28) rfl (Vb (Dt g5)) <| zaq (u := .bool _) (Vb (Df g6)) rfl <| CN <| zap (u := .bool _) (Vb (Dt g5)) rfl <| NL <| zaj [(0, str _), (1, .int .i64 _), (41, .bool _)] E3 fun f => zab rfl (fun g7 => ?_) (fun g7 => ?_)
  ·refine SR <| MS rfl <| MI rfl <| CN <| zas rfl rfl rfl zbe <| CN <| zaH ty9 rfl rfl Om Om <| AC rfl <| AI rfl <| NL <| zai Tryz.func205 rfl (TP (v := .int .u8 _) rfl) (TP (v := .int .i64 _) rfl) ?_
   rw [zjm ha (by omega) (by omega) (by omega)]
   exact ⟨rfl, hst.pure⟩
  refine zaf <| SQ <| SR <| MI rfl <| CN <| zas rfl rfl rfl zbe <| MS rfl <| CN <| zaL (rest := []) ty9 rfl <| CN <| zaS rfl rfl <| MB rfl <| zan (d := 51) rfl (fun g8 => ?_) (fun g8 => ?_)
  ·refine TK (t := 51) rfl (Vb (Dt g8)) <| zad (v := str _) rfl <| TK (t := 51) rfl (Vb (Dt g8)) <| zad (v := .int .i64 _) rfl <| TK (t := 51) rfl (Vb (Dt g8)) <| zas rfl rfl rfl zbe <| TK (t := 51) rfl (Vb (Dt g8)) <| zaH ty9 rfl rfl Om Om <| TK (t := 51) rfl (Vb (Dt g8)) <| zak rfl rfl <| CN <| zap (u := .bool _) (Vb (Dt g8)) rfl <| MB rfl <| zan (d := 58) rfl (fun g9 => ?_) (fun g9 => ?_)
   ·refine TK (t := 58) rfl (Vb (Dt g9)) <| zad (v := str _) rfl <| TK (t := 58) rfl (Vb (Dt g9)) <| zad (v := .int .i64 _) rfl <| TK (t := 58) rfl (Vb (Dt g9)) <| zas rfl rfl rfl zbe <| TK (t := 58) rfl (Vb (Dt g9)) <| zaH ty9 rfl rfl Om Om <| TK (t := 58) rfl (Vb (Dt g9)) (Op1.call1 (v1 := .int .u8 _) zlH rfl rfl ((zg7 _ _).mono fun v w hp => ?_))
    obtain ⟨rfl, hp⟩ := hp
    replace hst := hst.keepc hp
    clear hp
    refine CN <| zap (u := .bool _) (Vb (Dt g9)) rfl <| MB rfl <| zbH (d := 65) rfl (fun g10 => ?_) (fun g10 => ?_)
    ·refine TK (t := 65) rfl (Vb g10) <| zad (v := str _) rfl <| TK (t := 65) rfl (Vb g10) <| zad (v := .int .i64 _) rfl <| TK (t := 65) rfl (Vb g10) <| zas rfl rfl rfl zbe <| TK (t := 65) rfl (Vb g10) <| zaH ty9 rfl rfl Om Om <| TK (t := 65) rfl (Vb g10) (Op1.call1 (v1 := .int .u8 _) zlH rfl rfl ((zg7 _ _).mono fun v w hp => ?_))
     obtain ⟨rfl, hp⟩ := hp
     replace hst := hst.keepc hp
     clear hp
     refine CN <| zap (u := .bool _) (Vb g10) rfl <| NL <| zaj [(0, str _), (1, .int .i64 _), (71, .bool _)] E3 fun f => zaA rfl (fun g11 => ?_) (fun g11 => ?_)
     ·have hw2 := (zd5 g10).2
      have hw3 := (zd5 g11).2
      refine SQ <| RunD.start [] hst (bs := [0, 0, 2, 7, 15, 31, 0, 0, 128, 448, 991, 2047, 4095, 8191, 16383]) (ds := [some 72, some 73, some 74, some 75, some 76, some 77, some 78, some 79, some 80, some 81, some 82, some 83, some 84, some 4, some 5]) ⟨Kr, Kr, Kr⟩ (fun tab12 => ?_)
      refine DO tab12 1 (fun f' L' w' hc=> zad (v := str _) (hc.old rfl rfl rfl) hc.z) <| DO tab12 2 (fun f' L' w' hc=> zad (v := .int .i64 _) (hc.old rfl rfl rfl) hc.z) <| DO tab12 3 (fun f' L' w' hc=> zas (hc.d 1 rfl rfl rfl rfl) rfl rfl zbe hc.z) <| DO tab12 4 (fun f' L' w' hc=> zaH ty9 (hc.d 0 rfl rfl rfl rfl) (hc.d 2 rfl rfl rfl rfl) Om Om hc.z) <| DO tab12 5 (fun f' L' w' hc=> Op1.call1 (v1 := .int .u8 _) zlG rfl (hc.d 3 rfl rfl rfl rfl) ((zet _ g10 _).mono fun v w hp => ⟨[], ⟨hp.1, rfl⟩, hc.st.keepc hp.2⟩)) <| DO tab12 6 (fun f' L' w' hc=> zbP rfl (hc.d 4 rfl rfl rfl rfl) rfl zdV hc.z) <| DO tab12 7 (fun f' L' w' hc=> zad (v := str _) (hc.old rfl rfl rfl) hc.z) <| DO tab12 8 (fun f' L' w' hc=> zad (v := .int .i64 _) (hc.old rfl rfl rfl) hc.z) <| DO tab12 9 (fun f' L' w' hc=> zas (hc.d 7 rfl rfl rfl rfl) rfl rfl zbe hc.z) <| DO tab12 10 (fun f' L' w' hc=> zaH ty9 (hc.d 6 rfl rfl rfl rfl) (hc.d 8 rfl rfl rfl rfl) Om Om hc.z) <| DO tab12 11 (fun _ _ _ hc => Op1.call1 (v1 := .int .u8 _) zlG rfl (hc.d 9 rfl rfl rfl rfl) ((zet _ g11 _).mono fun v w hp => ⟨[], ⟨hp.1, rfl⟩, hc.st.keepc hp.2⟩)) <| RunD.fin zaw tab12 hst rfl (fun f13 w R16 hs14 hd15 hr17 hst => ?_)
      obtain ⟨h72_, r0⟩ := hd15 0 72 rfl rfl
      obtain ⟨h73_, r1⟩ := hd15 1 73 rfl rfl
      obtain ⟨h74_, r2⟩ := hd15 2 74 rfl rfl
      obtain ⟨h75_, r3⟩ := hd15 3 75 rfl rfl
      obtain ⟨h76_, r4⟩ := hd15 4 76 rfl rfl
      obtain ⟨h77_, r5⟩ := hd15 5 77 rfl rfl
      obtain ⟨h78_, r6⟩ := hd15 6 78 rfl rfl
      obtain ⟨h79_, r7⟩ := hd15 7 79 rfl rfl
      obtain ⟨h80_, r8⟩ := hd15 8 80 rfl rfl
      obtain ⟨h81_, r9⟩ := hd15 9 81 rfl rfl
      obtain ⟨h82_, r10⟩ := hd15 10 82 rfl rfl
      simp only [rg11, Fc, Fn, Mc, Mn, r0, r1, r2, r3, r4, r5, r6, r7, r8, r9, r10, Na, An, Ca] at hst
      refine zaD (sl := [(77, .int .u64 _), (82, .int .u64 _)]) ⟨h77_, h82_, trivial⟩ ?_
      clear hs14 hd15 hr17 tab12
      refine CN (zas rfl rfl rfl zdV ?_)
      first | refine CN (zaY zbF ty5 rfl Wu8 ?_) | refine CN (za8 zbF ty5 rfl ?_)
      refine AC rfl <| AI rfl <| NL <| zai Tryz.func205 rfl (TP (v := .int .u8 _) rfl) (TP (v := .int .i64 _) rfl) ?_
      rw [zhY ha (by omega) (by omega) (by omega) g10 g11]
      unfold zrV; dsimp only [Option.getD]
      have hb4 : ((UInt8.ofNat (16 * zdO (s.getD (a + 2) 0) + zdO (s.getD (a + 3) 0))).toNat : Int) = 16 * (zdO (s.getD (a + 2) 0) : Int) + (zdO (s.getD (a + 3) 0) : Int) := zqV hw2 hw3
      rw [hb4]
      exact ⟨rfl, hst.pure⟩
     refine zaf <| SR <| AC rfl <| AI rfl <| NL <| zai Tryz.func205 rfl (TP (v := .int .u8 _) rfl) (TP (v := .int .i64 _) rfl) ?_
     have hq4 : ¬ (a + 3 < s.length ∧ (s.getD (a + 1) 0).toNat = 120 ∧ zcY (s.getD (a + 2) 0) = true ∧ zcY (s.getD (a + 3) 0) = true) := by intro ⟨q1, q2, q3, q4⟩; first | omega | exact absurd (q4.symm.trans g11) De
     rw [zdQ ha (by omega) (by omega) hq4]
     exact ⟨rfl, hst.pure⟩
    refine OM (t := 65) rfl (Vb g10) rfl <| OM (t := 65) rfl (Vb g10) rfl <| OM (t := 65) rfl (Vb g10) rfl <| OM (t := 65) rfl (Vb g10) rfl <| OM (t := 65) rfl (Vb g10) rfl <| CN <| zaq (u := .bool _) (Vb g10) rfl <| NL <| zaj [(0, str _), (1, .int .i64 _), (71, .bool _)] E3 fun f => zat (Vb (rfl : false = _)) <| zaf <| SR <| AC rfl <| AI rfl <| NL ?_
    refine zai Tryz.func205 rfl (TP (v := .int .u8 _) rfl) (TP (v := .int .i64 _) rfl) ?_
    have hq4 : ¬ (a + 3 < s.length ∧ (s.getD (a + 1) 0).toNat = 120 ∧ zcY (s.getD (a + 2) 0) = true ∧ zcY (s.getD (a + 3) 0) = true) := by intro ⟨q1, q2, q3, q4⟩; first | omega | exact absurd (q3.symm.trans g10) De
    rw [zdQ ha (by omega) (by omega) hq4]
    exact ⟨rfl, hst.pure⟩
   refine OM (t := 58) rfl (Vb (Df g9)) rfl <| OM (t := 58) rfl (Vb (Df g9)) rfl <| OM (t := 58) rfl (Vb (Df g9)) rfl <| OM (t := 58) rfl (Vb (Df g9)) rfl <| OM (t := 58) rfl (Vb (Df g9)) rfl <| CN <| zaq (u := .bool _) (Vb (Df g9)) rfl <| MB rfl <| OM (t := 65) rfl (Vb (rfl : false = _)) rfl <| OM (t := 65) rfl (Vb (rfl : false = _)) rfl <| OM (t := 65) rfl (Vb (rfl : false = _)) rfl <| OM (t := 65) rfl (Vb (rfl : false = _)) rfl <| OM (t := 65) rfl (Vb (rfl : false = _)) rfl <| CN <| zaq (u := .bool _) (Vb (rfl : false = _)) rfl <| NL <| zat (Vb (rfl : false = _)) ?_
   refine zaf <| SR <| AC rfl <| AI rfl <| NL <| zai Tryz.func205 rfl (TP (v := .int .u8 _) rfl) (TP (v := .int .i64 _) rfl) ?_
   have hq4 : ¬ (a + 3 < s.length ∧ (s.getD (a + 1) 0).toNat = 120 ∧ zcY (s.getD (a + 2) 0) = true ∧ zcY (s.getD (a + 3) 0) = true) := by intro ⟨q1, q2, q3, q4⟩; first | omega
   rw [zdQ ha (by omega) (by omega) hq4]
   exact ⟨rfl, hst.pure⟩
  refine OM (t := 51) rfl (Vb (Df g8)) rfl <| OM (t := 51) rfl (Vb (Df g8)) rfl <| OM (t := 51) rfl (Vb (Df g8)) rfl <| OM (t := 51) rfl (Vb (Df g8)) rfl <| OM (t := 51) rfl (Vb (Df g8)) rfl <| CN <| zaq (u := .bool _) (Vb (Df g8)) rfl <| MB rfl <| OM (t := 58) rfl (Vb (rfl : false = _)) rfl <| OM (t := 58) rfl (Vb (rfl : false = _)) rfl <| OM (t := 58) rfl (Vb (rfl : false = _)) rfl <| OM (t := 58) rfl (Vb (rfl : false = _)) rfl <| OM (t := 58) rfl (Vb (rfl : false = _)) rfl <| CN <| zaq (u := .bool _) (Vb (rfl : false = _)) rfl <| MB rfl <| OM (t := 65) rfl (Vb (rfl : false = _)) rfl ?_
  refine OM (t := 65) rfl (Vb (rfl : false = _)) rfl <| OM (t := 65) rfl (Vb (rfl : false = _)) rfl <| OM (t := 65) rfl (Vb (rfl : false = _)) rfl <| OM (t := 65) rfl (Vb (rfl : false = _)) rfl <| CN <| zaq (u := .bool _) (Vb (rfl : false = _)) rfl <| NL <| zat (Vb (rfl : false = _)) <| zaf <| SR <| AC rfl <| AI rfl <| NL <| zai Tryz.func205 rfl (TP (v := .int .u8 _) rfl) (TP (v := .int .i64 _) rfl) ?_
  have hq4 : ¬ (a + 3 < s.length ∧ (s.getD (a + 1) 0).toNat = 120 ∧ zcY (s.getD (a + 2) 0) = true ∧ zcY (s.getD (a + 3) 0) = true) := by intro ⟨q1, q2, q3, q4⟩; first | omega
  rw [zdQ ha (by omega) (by omega) hq4]
  exact ⟨rfl, hst.pure⟩
 refine OM (t := 28) rfl (Vb (Df g5)) rfl <| OM (t := 28) rfl (Vb (Df g5)) rfl <| OM (t := 28) rfl (Vb (Df g5)) rfl <| OM (t := 28) rfl (Vb (Df g5)) rfl <| OM (t := 28) rfl (Vb (Df g5)) rfl <| OM (t := 28) rfl (Vb (Df g5)) rfl <| zaB (t := 34) rfl rfl <| zaB (t := 34) rfl rfl <| zaB (t := 34) rfl rfl <| zaB (t := 34) rfl rfl <| zaB (t := 34) rfl rfl <| OM (t := 28) rfl (Vb (Df g5)) rfl <| CN <| zaq (u := .bool _) (Vb (Df g5)) rfl <| NL <| zaj [(0, str _), (1, .int .i64 _), (41, .bool _)] E3 (fun f => ?_)
 refine zat (Vb (rfl : false = _)) <| zaf <| SQ <| SR <| MI rfl <| CN <| zas rfl rfl rfl zbe <| MS rfl <| CN <| zaL (rest := []) ty9 rfl <| CN <| zaS rfl rfl <| MB rfl <| zan (d := 51) rfl (fun g18 => ?_) (fun g18 => ?_)
 ·refine TK (t := 51) rfl (Vb (Dt g18)) <| zad (v := str _) rfl <| TK (t := 51) rfl (Vb (Dt g18)) <| zad (v := .int .i64 _) rfl <| TK (t := 51) rfl (Vb (Dt g18)) <| zas rfl rfl rfl zbe <| TK (t := 51) rfl (Vb (Dt g18)) <| zaH ty9 rfl rfl Om Om <| TK (t := 51) rfl (Vb (Dt g18)) <| zak rfl rfl <| CN <| zap (u := .bool _) (Vb (Dt g18)) rfl <| MB rfl <| zan (d := 58) rfl (fun g19 => ?_) (fun g19 => ?_)
  ·refine TK (t := 58) rfl (Vb (Dt g19)) <| zad (v := str _) rfl <| TK (t := 58) rfl (Vb (Dt g19)) <| zad (v := .int .i64 _) rfl <| TK (t := 58) rfl (Vb (Dt g19)) <| zas rfl rfl rfl zbe <| TK (t := 58) rfl (Vb (Dt g19)) <| zaH ty9 rfl rfl Om Om <| TK (t := 58) rfl (Vb (Dt g19)) (Op1.call1 (v1 := .int .u8 _) zlH rfl rfl ((zg7 _ _).mono fun v w hp => ?_))
   obtain ⟨rfl, hp⟩ := hp
   replace hst := hst.keepc hp
   clear hp
   refine CN <| zap (u := .bool _) (Vb (Dt g19)) rfl <| MB rfl <| zbH (d := 65) rfl (fun g20 => ?_) (fun g20 => ?_)
   ·refine TK (t := 65) rfl (Vb g20) <| zad (v := str _) rfl <| TK (t := 65) rfl (Vb g20) <| zad (v := .int .i64 _) rfl <| TK (t := 65) rfl (Vb g20) <| zas rfl rfl rfl zbe <| TK (t := 65) rfl (Vb g20) <| zaH ty9 rfl rfl Om Om <| TK (t := 65) rfl (Vb g20) (Op1.call1 (v1 := .int .u8 _) zlH rfl rfl ((zg7 _ _).mono fun v w hp => ?_))
    obtain ⟨rfl, hp⟩ := hp
    replace hst := hst.keepc hp
    clear hp
    refine CN <| zap (u := .bool _) (Vb g20) rfl <| NL <| zaj [(0, str _), (1, .int .i64 _), (71, .bool _)] E3 fun f => zaA rfl (fun g21 => ?_) (fun g21 => ?_)
    ·have hw2 := (zd5 g20).2
     have hw3 := (zd5 g21).2
     refine SQ <| RunD.start [] hst (bs := [0, 0, 2, 7, 15, 31, 0, 0, 128, 448, 991, 2047, 4095, 8191, 16383]) (ds := [some 72, some 73, some 74, some 75, some 76, some 77, some 78, some 79, some 80, some 81, some 82, some 83, some 84, some 4, some 5]) ⟨Kr, Kr, Kr⟩ (fun tab22 => ?_)
     refine DO tab22 1 (fun f' L' w' hc=> zad (v := str _) (hc.old rfl rfl rfl) hc.z) <| DO tab22 2 (fun f' L' w' hc=> zad (v := .int .i64 _) (hc.old rfl rfl rfl) hc.z) <| DO tab22 3 (fun f' L' w' hc=> zas (hc.d 1 rfl rfl rfl rfl) rfl rfl zbe hc.z) <| DO tab22 4 (fun f' L' w' hc=> zaH ty9 (hc.d 0 rfl rfl rfl rfl) (hc.d 2 rfl rfl rfl rfl) Om Om hc.z) <| DO tab22 5 (fun f' L' w' hc=> Op1.call1 (v1 := .int .u8 _) zlG rfl (hc.d 3 rfl rfl rfl rfl) ((zet _ g20 _).mono fun v w hp => ⟨[], ⟨hp.1, rfl⟩, hc.st.keepc hp.2⟩)) <| DO tab22 6 (fun f' L' w' hc=> zbP rfl (hc.d 4 rfl rfl rfl rfl) rfl zdV hc.z) <| DO tab22 7 (fun f' L' w' hc=> zad (v := str _) (hc.old rfl rfl rfl) hc.z) <| DO tab22 8 (fun f' L' w' hc=> zad (v := .int .i64 _) (hc.old rfl rfl rfl) hc.z) <| DO tab22 9 (fun f' L' w' hc=> zas (hc.d 7 rfl rfl rfl rfl) rfl rfl zbe hc.z) <| DO tab22 10 (fun f' L' w' hc=> zaH ty9 (hc.d 6 rfl rfl rfl rfl) (hc.d 8 rfl rfl rfl rfl) Om Om hc.z) <| DO tab22 11 (fun _ _ _ hc => Op1.call1 (v1 := .int .u8 _) zlG rfl (hc.d 9 rfl rfl rfl rfl) ((zet _ g21 _).mono fun v w hp => ⟨[], ⟨hp.1, rfl⟩, hc.st.keepc hp.2⟩)) <| RunD.fin zaw tab22 hst rfl (fun f23 w R26 hs24 hd25 hr27 hst => ?_)
     obtain ⟨h72_, r0⟩ := hd25 0 72 rfl rfl
     obtain ⟨h73_, r1⟩ := hd25 1 73 rfl rfl
     obtain ⟨h74_, r2⟩ := hd25 2 74 rfl rfl
     obtain ⟨h75_, r3⟩ := hd25 3 75 rfl rfl
     obtain ⟨h76_, r4⟩ := hd25 4 76 rfl rfl
     obtain ⟨h77_, r5⟩ := hd25 5 77 rfl rfl
     obtain ⟨h78_, r6⟩ := hd25 6 78 rfl rfl
     obtain ⟨h79_, r7⟩ := hd25 7 79 rfl rfl
     obtain ⟨h80_, r8⟩ := hd25 8 80 rfl rfl
     obtain ⟨h81_, r9⟩ := hd25 9 81 rfl rfl
     obtain ⟨h82_, r10⟩ := hd25 10 82 rfl rfl
     simp only [rg11, Fc, Fn, Mc, Mn, r0, r1, r2, r3, r4, r5, r6, r7, r8, r9, r10, Na, An, Ca] at hst
     refine zaD (sl := [(77, .int .u64 _), (82, .int .u64 _)]) ⟨h77_, h82_, trivial⟩ ?_
     clear hs24 hd25 hr27 tab22
     refine CN (zas rfl rfl rfl zdV ?_)
     first | refine CN (zaY zbF ty5 rfl Wu8 ?_) | refine CN (za8 zbF ty5 rfl ?_)
     refine AC rfl <| AI rfl <| NL <| zai Tryz.func205 rfl (TP (v := .int .u8 _) rfl) (TP (v := .int .i64 _) rfl) ?_
     rw [zhY ha (by omega) (by omega) (by omega) g20 g21]
     unfold zrV; dsimp only [Option.getD]
     have hb4 : ((UInt8.ofNat (16 * zdO (s.getD (a + 2) 0) + zdO (s.getD (a + 3) 0))).toNat : Int) = 16 * (zdO (s.getD (a + 2) 0) : Int) + (zdO (s.getD (a + 3) 0) : Int) := zqV hw2 hw3
     rw [hb4]
     exact ⟨rfl, hst.pure⟩
    refine zaf <| SR <| AC rfl <| AI rfl <| NL <| zai Tryz.func205 rfl (TP (v := .int .u8 _) rfl) (TP (v := .int .i64 _) rfl) ?_
    have hq4 : ¬ (a + 3 < s.length ∧ (s.getD (a + 1) 0).toNat = 120 ∧ zcY (s.getD (a + 2) 0) = true ∧ zcY (s.getD (a + 3) 0) = true) := by intro ⟨q1, q2, q3, q4⟩; first | omega | exact absurd (q4.symm.trans g21) De
    rw [zdQ ha (by omega) (by omega) hq4]
    exact ⟨rfl, hst.pure⟩
   refine OM (t := 65) rfl (Vb g20) rfl <| OM (t := 65) rfl (Vb g20) rfl <| OM (t := 65) rfl (Vb g20) rfl <| OM (t := 65) rfl (Vb g20) rfl <| OM (t := 65) rfl (Vb g20) rfl <| CN <| zaq (u := .bool _) (Vb g20) rfl <| NL <| zaj [(0, str _), (1, .int .i64 _), (71, .bool _)] E3 fun f => zat (Vb (rfl : false = _)) <| zaf <| SR <| AC rfl <| AI rfl <| NL ?_
   refine zai Tryz.func205 rfl (TP (v := .int .u8 _) rfl) (TP (v := .int .i64 _) rfl) ?_
   have hq4 : ¬ (a + 3 < s.length ∧ (s.getD (a + 1) 0).toNat = 120 ∧ zcY (s.getD (a + 2) 0) = true ∧ zcY (s.getD (a + 3) 0) = true) := by intro ⟨q1, q2, q3, q4⟩; first | omega | exact absurd (q3.symm.trans g20) De
   rw [zdQ ha (by omega) (by omega) hq4]
   exact ⟨rfl, hst.pure⟩
  refine OM (t := 58) rfl (Vb (Df g19)) rfl <| OM (t := 58) rfl (Vb (Df g19)) rfl <| OM (t := 58) rfl (Vb (Df g19)) rfl <| OM (t := 58) rfl (Vb (Df g19)) rfl <| OM (t := 58) rfl (Vb (Df g19)) rfl <| CN <| zaq (u := .bool _) (Vb (Df g19)) rfl <| MB rfl <| OM (t := 65) rfl (Vb (rfl : false = _)) rfl <| OM (t := 65) rfl (Vb (rfl : false = _)) rfl <| OM (t := 65) rfl (Vb (rfl : false = _)) rfl <| OM (t := 65) rfl (Vb (rfl : false = _)) rfl <| OM (t := 65) rfl (Vb (rfl : false = _)) rfl <| CN <| zaq (u := .bool _) (Vb (rfl : false = _)) rfl <| NL <| zat (Vb (rfl : false = _)) ?_
  refine zaf <| SR <| AC rfl <| AI rfl <| NL <| zai Tryz.func205 rfl (TP (v := .int .u8 _) rfl) (TP (v := .int .i64 _) rfl) ?_
  have hq4 : ¬ (a + 3 < s.length ∧ (s.getD (a + 1) 0).toNat = 120 ∧ zcY (s.getD (a + 2) 0) = true ∧ zcY (s.getD (a + 3) 0) = true) := by intro ⟨q1, q2, q3, q4⟩; first | omega
  rw [zdQ ha (by omega) (by omega) hq4]
  exact ⟨rfl, hst.pure⟩
 refine OM (t := 51) rfl (Vb (Df g18)) rfl <| OM (t := 51) rfl (Vb (Df g18)) rfl <| OM (t := 51) rfl (Vb (Df g18)) rfl <| OM (t := 51) rfl (Vb (Df g18)) rfl <| OM (t := 51) rfl (Vb (Df g18)) rfl <| CN <| zaq (u := .bool _) (Vb (Df g18)) rfl <| MB rfl <| OM (t := 58) rfl (Vb (rfl : false = _)) rfl <| OM (t := 58) rfl (Vb (rfl : false = _)) rfl <| OM (t := 58) rfl (Vb (rfl : false = _)) rfl <| OM (t := 58) rfl (Vb (rfl : false = _)) rfl <| OM (t := 58) rfl (Vb (rfl : false = _)) rfl <| CN <| zaq (u := .bool _) (Vb (rfl : false = _)) rfl <| MB rfl <| OM (t := 65) rfl (Vb (rfl : false = _)) rfl ?_
 refine OM (t := 65) rfl (Vb (rfl : false = _)) rfl <| OM (t := 65) rfl (Vb (rfl : false = _)) rfl <| OM (t := 65) rfl (Vb (rfl : false = _)) rfl <| OM (t := 65) rfl (Vb (rfl : false = _)) rfl <| CN <| zaq (u := .bool _) (Vb (rfl : false = _)) rfl <| NL <| zat (Vb (rfl : false = _)) <| zaf <| SR <| AC rfl <| AI rfl <| NL <| zai Tryz.func205 rfl (TP (v := .int .u8 _) rfl) (TP (v := .int .i64 _) rfl) ?_
 have hq4 : ¬ (a + 3 < s.length ∧ (s.getD (a + 1) 0).toNat = 120 ∧ zcY (s.getD (a + 2) 0) = true ∧ zcY (s.getD (a + 3) 0) = true) := by intro ⟨q1, q2, q3, q4⟩; first | omega
 rw [zdQ ha (by omega) (by omega) hq4]
 exact ⟨rfl, hst.pure⟩
end Go.SK
namespace Go.SK
theorem zme (s : Tx) : (zsV s).length = 1 := rfl
end Go.SK
namespace Go.SK
def lnI (t : Tx) (i k : Nat) (o : List Tx) : Prop := k ≤ i ∧ i ≤ t.length ∧ (∀ j, k ≤ j → j < i → (t.getD j 0).toNat ≠ 10) ∧ o.length ≤ i ∧ lnF t = o ++ lnF (t.drop k)
theorem ztR (t : Tx) : lnI t 0 0 [] := ⟨Nat.le_refl _, Nat.zero_le _, fun j _ h => absurd h (Nat.not_lt_zero _), Nat.le_refl _, rfl⟩
theorem zvW {t : Tx} {i k : Nat} {o : List Tx} (h : lnI t i k o) (hi : i < t.length) (h10 : (t.getD i 0).toNat = 10) : lnI t (i + 1) (i + 1) (o ++ [(t.drop k).take (i - k)]) := by
  refine ⟨Nat.le_refl _, hi, fun j h1 h2 => by omega, by rw [List.length_append, List.length_singleton]; have := h.2.2.2.1; omega, ?_⟩
  have hk := h.1
  have hc := zoq (r := t.drop k) (k := i - k) (by rw [List.length_drop]; omega) (fun j hj => by rw [zdv]; exact h.2.2.1 _ (by omega) (by omega)) (by rw [zdv, show k + (i - k) = i by omega]; exact h10)
  rw [h.2.2.2.2, zdR (by rw [List.length_drop]; omega), hc.1, hc.2, List.drop_drop, show k + (i - k + 1) = i + 1 by omega, List.append_assoc]; rfl
theorem zvV {t : Tx} {i k : Nat} {o : List Tx} (h : lnI t i k o) (hi : i < t.length) (h10 : ¬ (t.getD i 0).toNat = 10) : lnI t (i + 1) k o := by
  refine ⟨by have := h.1; omega, hi, fun j h1 h2 => ?_, by have := h.2.2.2.1; omega, h.2.2.2.2⟩
  rcases Nat.lt_or_ge j i with hj | hj
  · exact h.2.2.1 j h1 hj
  · obtain rfl : j = i := by omega
    exact h10
theorem zvX {t : Tx} {i k : Nat} {o : List Tx} (h : lnI t i k o) (hi : t.length ≤ i) (hk : k < t.length) : lnF t = o ++ [t.drop k] := by
  have hi2 := h.2.1
  have hc := zmJ (r := t.drop k) (fun j hj => by rw [List.length_drop] at hj; rw [zdv]; exact h.2.2.1 _ (by omega) (by omega))
  rw [h.2.2.2.2, zdR (by rw [List.length_drop]; omega), hc.1, hc.2]; rfl
theorem zxP {t : Tx} {i k : Nat} {o : List Tx} (h : lnI t i k o) (hk : t.length ≤ k) : lnF t = o := by
  rw [h.2.2.2.2, zdG (by rw [List.length_drop]; omega), List.append_nil]
end Go.SK
namespace Go.SK
open Go.RowKit
theorem zw1 {t : Tx} {bound : Int} (h : (!decide (1 ≤ (plR t : Int) ∧ (plR t : Int) < bound)) = true) : idL t bound = 0 := if_neg (by simp only [Bool.not_eq_true', decide_eq_false_iff_not] at h; exact h)
theorem znZ {t : Tx} {bound : Int} (h : (!decide (1 ≤ (plR t : Int) ∧ (plR t : Int) < bound)) = false) : idL t bound = (plR t : Int) ∧ idL t bound ≠ 0 := by
  have h2 : 1 ≤ (plR t : Int) ∧ (plR t : Int) < bound := by simp only [Bool.not_eq_false', decide_eq_true_eq] at h; exact h
  have e : idL t bound = (plR t : Int) := if_pos h2
  exact ⟨e, by omega⟩
end Go.SK
namespace Go.SK
open Go.RowKit
section
variable {n bound : Int} {l : List TokL} {m : Nat} {fm : FormL} {res ty : Int} {q j : Nat} {ags : List ArgP}
theorem LnC.badty (h : LnC bound l m fm res) (ht : fm.ty = true) (hl : m + 1 < l.length) (he : (zb9 105 (l.getD (m + 1) zaR) bound).2 ≠ 0) : zcV n l bound = (zeroIL, false, ((zb9 105 (l.getD (m + 1) zaR) bound).2, (l.getD (m + 1) zaR).at_)) := by
  by_cases hk : (l.getD (m + 1) zaR).kind = 2
  · by_cases hi : idL (l.getD (m + 1) zaR).text bound = 0
    · rw [zjx hk hi, h.noid ht hl hk hi]
    · rw [zmN hk hi] at he; exact absurd rfl he
  · rw [zeH (c := 105) (by decide) hk, h.notid ht hl hk]
theorem LnI.ofArg (h : LnC bound l m fm res) (ht : fm.ty = true) (hl : m + 1 < l.length) (he : (zb9 105 (l.getD (m + 1) zaR) bound).2 = 0) : LnI bound l m fm res (zb9 105 (l.getD (m + 1) zaR) bound).1.n (m + 2) := by
  by_cases hk : (l.getD (m + 1) zaR).kind = 2
  · by_cases hi : idL (l.getD (m + 1) zaR).text bound = 0
    · rw [zjx hk hi] at he; cases he
    · rw [zmN hk hi]; exact LnI.yes h ht rfl hi hl hk
  · rw [zeH (c := 105) (by decide) hk] at he; cases he
theorem LnI.fine (h : LnI bound l m fm res ty q) (hA : ArI fm bound l q j ags) (hj : l.length ≤ q + j) (hf : (zej fm.op (ags.map ArgP.kind)).2 = true) (hr : ¬ zbT fm ags > 65535) : zcV n l bound = (⟨fm.op, ty, res, ags⟩, true, (0, 0)) := by
  rw [(h.fit hA hj hf).1, if_neg hr]
end
end Go.SK
namespace Go.SK
open Go.RowKit
section
variable {t : Tx} {i : Nat} {hd : Bool} {gn bd : Int} {wd : Nat} {dm : List InstP}
theorem PaR.mk0 (h : PaM t i gn bd 0 dm) : PaR t i false gn bd 5 dm := ⟨h, fun _ => rfl, fun q => by cases q⟩
theorem PaR.mk1 (h : PaM t i gn bd wd dm) (h0 : wd ≠ 0) : PaR t i true gn bd wd dm := ⟨h, fun q => (by cases q), fun _ => h0⟩
theorem PaM.notoks (h : PaM t i gn bd 0 dm) (hi : i < (lnF t).length) (he : (za7 ((lnF t).getD i [])).2.1 ≠ 0) : zfM 0 (lnF t) ⟨0, 0, 0, []⟩ = zhD (za7 ((lnF t).getD i [])).2.1 ((i : Int) + 1) := by
  have e : zcf ((lnF t).getD i []) = ((0, 0), (za7 ((lnF t).getD i [])).2) := if_pos he
  rw [h.nohead hi rfl (fun q => he q.1) (by rw [e]; exact he), e]
end
end Go.SK
namespace Go.SK
section
variable {n : Int} {l : List TokL} {k : Nat} {gn bd : Int}
theorem HdI.at3 (h : HdI l k gn bd) (hk : k = 3) (hl : k < l.length) : zcK n l = ((0, 0), (70, (l.getD k zaR).at_)) := by
  subst hk; rw [h.from3 (by omega) (by omega), if_pos hl]
theorem HdI.bad0 (h : HdI l k gn bd) (hk : k = 0) (hl : k < l.length) (hb : (l.getD k zaR).kind ≠ 1 ∨ (l.getD k zaR).text ≠ modW) : zcK n l = ((0, 0), (70, (l.getD k zaR).at_)) := by
  subst hk; exact zxS Om hb
theorem HdI.badk (h : HdI l k gn bd) (hk : 0 < k) (h3 : ¬ k = 3) (hl : k < l.length) (hb : (l.getD k zaR).kind ≠ 3) : zcK n l = ((0, 0), (70, (l.getD k zaR).at_)) := by
  have hle := h.le
  rcases (show k = 1 ∨ k = 2 by omega) with rfl | rfl
  · rw [h.from1 (by omega) (by omega), if_pos hb]
  · rw [h.from2 (by omega) (by omega), if_pos hb]
theorem HdI.step0 (h : HdI l k gn bd) (hk : k = 0) (hl : k < l.length) (h1 : (l.getD k zaR).kind = 1) (h2 : (l.getD k zaR).text = modW) : HdI l (k + 1) gn bd := by
  subst hk
  exact ⟨⟨by omega, by omega⟩, fun _ => ⟨h1, h2⟩, fun q => absurd q Om, fun q => absurd q Om⟩
theorem HdI.step2 (h : HdI l k gn bd) (hk : k = 2) (hl : k < l.length) (hb : (l.getD k zaR).kind = 3) (hn : (zba (l.getD k zaR).text).2 = 0) (hq : ¬ ((zba (l.getD k zaR).text).1 < 1 ∨ 65536 < (zba (l.getD k zaR).text).1)) : HdI l (k + 1) gn (zba (l.getD k zaR).text).1 := by
  subst hk
  exact ⟨⟨by omega, by omega⟩, fun _ => h.k0 Om, fun _ => h.k1 Om, fun _ => ⟨hb, hn, rfl, hq⟩⟩
theorem HdI.short (h : HdI l k gn bd) (hl : l.length ≤ k) (h3 : l.length < 3) : zcK n l = ((0, 0), (72, n)) := by
  have hle := h.le
  rcases (show k = 0 ∨ k = 1 ∨ k = 2 by omega) with rfl | rfl | rfl
  · exact head0 Om
  · exact head2 (h.k0 Om).1 (h.k0 Om).2 Om
  · obtain ⟨q1, q2, q3⟩ := h.k1 Om
    rw [h.from1 (by omega) (by omega), if_neg (fun q => q q1), if_neg (fun q => q q2), if_pos (by omega)]
end
end Go.SK
namespace Go.SK
open Go Go.Proofs
theorem ent205 : zaN Tryz.prog 205 := ⟨Tryz.f205, _, Tryz.func205, Kr, rfl⟩
end Go.SK
namespace Go.SK
open Go Go.Proofs
open Go.RowKit
theorem zqc (s : Tx) (x : Int) (a : Nat) (hx : x = a) (ha : a < s.length) (w : World) (hl : s.length ≤ 1099511627776) : Ret Tryz.prog 168 #[str s, .int .i64 x] w (fun v w' => v = .tuple #[str (zrR (zgR s (a + 1))).1, .int .i64 ((zrR (zgR s (a + 1))).2 : Int)] ∧ St w NoM [] [] w') := by
 refine zav (args := [str s, .int .i64 x]) Tryz.func168 rfl rfl rfl ?_
 have hst := St.init w
 subst hx
 refine SR <| AS rfl <| AI rfl <| NSR <| AL rfl <| NSR <| MI rfl <| CN <| zas rfl rfl rfl zbe <| AI rfl <| NL ?_
 refine SQ <| zao <| zaV ?_
 replace hst := hst.pushNil 5 1
 refine zaU [(0, str _), (1, .int .i64 _)] E2 (fun (qq : Nat × Tx × Option Addr × Nat) => [(6, .slice qq.2.2.1 qq.2.1.length qq.2.2.2), (7, .int .i64 (qq.1 : Int))]) (fun (qq : Nat × Tx × Option Addr × Nat) => [Res.sl qq.2.2.1 qq.2.1.length qq.2.2.2 5 1 (qq.2.1.flatMap byC)]) (fun (qq : Nat × Tx × Option Addr × Nat) => zvL s (a + 1) qq.1 qq.2.1) (fun (qq : Nat × Tx × Option Addr × Nat) => s.length - qq.1) ((a + 1, [], none, 0)) hst (zlp Om) E2 ?_
 intro ⟨i, b, aq, cq⟩ f w hst hJ ih1
 replace hst : St _ _ ([Res.sl aq b.length cq 5 1 (b.flatMap byC)] ++ []) _ _ := hst
 replace hJ : zvL s (a + 1) i b := hJ
 refine za2 (sl := [(6, .slice aq b.length cq), (7, .int .i64 (i : Int))]) E2 ?_
 have hidx : (s.getD ((i : Int).toNat) 0).toNat = (s.getD i 0).toNat := rfl
 have hj2 := hJ.2.1
 have hj3 := hJ.2.2.1
 have hj1 := hJ.1
 refine SQ <| SR <| MI rfl <| MS rfl <| CN <| zaL (rest := []) ty9 rfl <| CN <| zaS rfl rfl <| NL <| zab rfl (fun g2 => ?_) (fun g2 => ?_)
 ·refine zaf <| zao <| SQ <| SR <| MS rfl <| MI rfl <| CN <| zaH ty9 rfl rfl Om Om <| CN <| zak rfl rfl <| NL <| zab rfl (fun g3 => ?_) (fun g3 => ?_)
  ·refine SR <| ML rfl <| CN <| zc7 (l := b) zcr ty5 ty9 rfl rfl (Res.rs_of_sl (hst.hL _ Q0)) rfl <| MI rfl <| CN <| zas rfl rfl rfl zbe <| MI rfl <| CN <| zbx rfl rfl rfl zbe <| AS rfl <| AI rfl <| NL <| zai Tryz.func168 rfl (TP (v := str _) rfl) (TP (v := .int .i64 _) rfl) ?_
   rw [znB hJ (by omega) (by omega)]
   unfold zrR; dsimp only
   refine ⟨?_, hst.pure⟩
   congr 3; congr 1; have hj1 := hJ.1; congr 1; omega
  refine zaf <| SR <| MS rfl <| MI rfl <| CN <| zaz (v1 := str _) (v2 := .int .i64 _) ent205 rfl rfl rfl <| Ret.det (zuO s _ i rfl Om _ Om) hst fun w hst => CN <| zad (v := .tuple #[.int .u8 _, .int .i64 _]) rfl <| CN <| Ex (.int .u8 _) rfl rfl <| CN <| Ex (.int .i64 _) rfl rfl <| AC rfl <| AI rfl <| NL <| SQ <| SQ <| RG ?_
  refine MI rfl <| CN <| zak rfl rfl <| NL <| zab rfl (fun g4 => ?_) (fun g4 => ?_)
  ·have hpn : zcs (s.drop i) = none := zqZ (d := (0 : UInt8)) (fun c k h => (zml h).1) (Int.ofNat_eq_zero.1 g4)
   refine SR <| AS rfl <| AI rfl <| NL <| zai Tryz.func168 rfl (TP (v := str _) rfl) (TP (v := .int .i64 _) rfl) ?_
   rw [zfn hJ (zjj (by omega) (by omega) hpn)]
   exact ⟨rfl, hst.pure⟩
  have hpt : zcs (s.drop i) = some (((zcs (s.drop i)).getD (0, 0)).1, ((zcs (s.drop i)).getD (0, 0)).2) := zqY (d := (0 : UInt8)) (fun e => g4 (by rw [e]; rfl))
  have hpl := zfK Om hpt
  refine zaf <| SR <| ML rfl <| MC rfl <| CN (zaE (z0 := [.int .u8 0]) hst zcr ty5 rfl rfl Kr (.c (v := .int .u8 _) rfl (h := .nil)) fun w b36 hst => ?_)
  refine CN (zaI (news := byC ((zcs (s.drop i)).getD (0, 0)).1) hst zcr ty5 rfl rfl .u1 rfl rfl rfl (zac (n := 1) (hst.objL Q0) _ rfl) rfl rfl Om fun w ao5 cp6 hst => ?_)
  replace hst := hst.drop .u1
  refine AL rfl <| NL <| zaj [(0, str _), (1, .int .i64 _), (6, .slice _ _ _), (7, .int .i64 _), (9, .int .i64 _)] E5 fun f => RG <| MI rfl <| MI rfl <| CN <| zas rfl rfl rfl zbe <| AI rfl <| NL <| zam <| zay ?_
  have hI := zj1 hJ Om Om hpt
  exact ih1 ((i + ((zcs (s.drop i)).getD (0, 0)).2, b ++ [((zcs (s.drop i)).getD (0, 0)).1], ao5, cp6)) _ w (by (try dsimp only); have := (zfK (by omega) hpt).1; omega) (by rw [List.length_append, List.flatMap_append]; exact hst) (hI) E2 ⟨(by simp only [List.length_append]; rfl), (Vi (by (try dsimp only); omega)), trivial⟩
 refine zaJ (id := 0) rfl <| SR <| AS rfl <| AI rfl <| NL <| zai Tryz.func168 rfl (TP (v := str _) rfl) (TP (v := .int .i64 _) rfl) ?_
 rw [zfn hJ (ztt (by omega))]
 exact ⟨rfl, hst.pure⟩
end Go.SK
namespace Go.SK
open Go Go.Proofs
theorem ent168 : zaN Tryz.prog 168 := ⟨Tryz.f168, _, Tryz.func168, Kr, rfl⟩
theorem ent117 : zaN Tryz.prog 117 := ⟨Tryz.f117, _, Tryz.func117, Kr, rfl⟩
theorem ent118 : zaN Tryz.prog 118 := ⟨Tryz.f118, _, Tryz.func118, Kr, rfl⟩
end Go.SK
namespace Go.SK
open Go Go.Proofs
open Go.RowKit
theorem zp7 (s : Tx) (x : Int) (a : Nat) (hx : x = a) (ha : a < s.length) (w : World) (hl : s.length ≤ 1099511627776) : Ret Tryz.prog 118 #[str s, .int .i64 x] w (fun v w' => (∃ kd t m, zf7 (s.drop a) = .ok (kd, t, m) ∧ v = .tuple #[.agg #[.int .u8 kd, str t, .int .i64 (a : Int)], .int .i64 ((m : Nat) : Int), .int .i64 0] ∧ St w NoM [] [] w') ∨ (∃ e kd t m, zf7 (s.drop a) = .error e ∧ e ≠ 0 ∧ v = .tuple #[.agg #[.int .u8 kd, str t, .int .i64 0], .int .i64 m, .int .i64 e] ∧ St w NoM [] [] w')) := by
 refine zav (args := [str s, .int .i64 x]) Tryz.func118 rfl rfl rfl ?_
 have hst := St.init w
 subst hx
 have hidx : (s.getD ((a : Int).toNat) 0).toNat = (s.getD a 0).toNat := rfl
 have hru := zjX (s.drop (a + 1))
 rw [List.length_drop] at hru
 refine SR <| CN <| Op1.alloc hst zbd fun w b4 hst => AI rfl <| AI rfl <| NSR <| MS rfl <| MI rfl <| CN <| zaH ty9 rfl rfl Om Om <| AC rfl <| NL <| SQ <| SQ ?_
 refine RG <| MC rfl <| CN <| Op1.call1 (v1 := .int .u8 _) zul rfl rfl <| Ret.det (zhy _ _) hst fun w hst => NL <| zaA rfl (fun g1 => ?_) (fun g1 => ?_)
 ·refine SR <| MS rfl <| MI rfl <| CN <| zaz (v1 := str _) (v2 := .int .i64 _) zoi rfl rfl rfl <| Ret.det (zil s _ a rfl Om _ Om) hst fun w hst => AS rfl <| NSR <| MS rfl <| MI rfl <| CN (zag zbd zda (.c (v := .int .u8 _) rfl (h := (.c (v := str _) rfl (h := (.c (v := .int .i64 _) rfl (h := .nil)))))) ?_)
  refine MS rfl <| CN <| zaL (rest := []) ty9 rfl <| CN (SO (v := zbO _ _ _) hst zbd rfl rfl .u0 fun w hst => ?_)
  refine AI rfl <| AI rfl <| NL <| zbf Tryz.func118 rfl (zal (vs := zeS _ _ _) rfl zbd rfl rfl (zac (n := 3) (hst.objL Q0) _ rfl)) (TP (v := .int .i64 _) rfl) (TP (v := .int .i64 _) rfl) ?_
  exact .inl ⟨_, _, _, zhI g1, rfl, hst.pure⟩
 refine zaf <| SQ <| SR <| MC rfl <| CN <| zak rfl rfl <| NL <| zab rfl (fun g2 => ?_) (fun g2 => ?_)
 ·refine SR <| MS rfl <| MI rfl <| CN <| zas rfl rfl rfl zbe <| CN <| zaz (v1 := str _) (v2 := .int .i64 _) zoi rfl rfl rfl <| Ret.det (zil s _ (a + 1) Om Om _ Om) hst fun w hst => AS rfl <| NSR <| MS rfl <| CN <| Op1.call1 (v1 := str _) zok rfl rfl <| Ret.det (zfB _ _ Om) hst fun w hst => CN <| zad (v := .tuple #[.int .u64 _, .bool _]) rfl <| CN <| Ex (.int .u64 _) rfl rfl <| CN (Ex (.bool _) rfl rfl ?_)
  refine CN <| Op1.assign (v := .int .u64 _) rfl <| AB rfl <| NL <| zaj [(1, .int .i64 _), (4, Pp _ _), (9, str _), (11, .bool _)] E4 fun f => SQ <| SR <| MB rfl <| CN <| zaZ rfl <| NL <| zaA rfl (fun g3 => ?_) (fun g3 => ?_)
  ·refine SR <| CN (zag zbd zda .nil ?_)
   refine CN (SO (v := zbO _ _ _) hst zbd rfl rfl .u0 fun w hst => ?_)
   refine AI rfl <| AI rfl <| NL <| zbf Tryz.func118 rfl (zal (vs := zeS _ _ _) rfl zbd rfl rfl (zac (n := 3) (hst.objL Q0) _ rfl)) (TP (v := .int .i64 _) rfl) (TP (v := .int .i64 _) rfl) ?_
   exact .inr ⟨_, _, _, _, zqw Om (zrY g3), by decide, rfl, hst.pure⟩
  refine zaf <| SR <| MS rfl <| MI rfl <| CN (zag zbd zda (.c (v := .int .u8 _) rfl (h := (.c (v := str _) rfl (h := (.c (v := .int .i64 _) rfl (h := .nil)))))) ?_)
  refine MS rfl <| CN <| zaL (rest := []) ty9 rfl <| CN <| zas rfl rfl rfl zbe <| CN (SO (v := zbO _ _ _) hst zbd rfl rfl .u0 fun w hst => ?_)
  refine AI rfl <| AI rfl <| NL <| zbf Tryz.func118 rfl (zal (vs := zeS _ _ _) rfl zbd rfl rfl (zac (n := 3) (hst.objL Q0) _ rfl)) (TP (v := .int .i64 _) rfl) (TP (v := .int .i64 _) rfl) ?_
  exact .inl ⟨_, _, _, zl4 Om (zrZ g3), rfl, hst.pure⟩
 refine zaf <| SQ <| SR <| MC rfl <| CN <| Op1.call1 (v1 := .int .u8 _) zlI rfl rfl <| Ret.det (zeu _ _) hst fun w hst => MB rfl <| zbH (d := 52) rfl (fun g4 => ?_) (fun g4 => ?_)
 ·refine OM (t := 52) rfl (Vb g4) rfl <| OM (t := 52) rfl (Vb g4) rfl <| CN <| zap (u := .bool _) (Vb g4) rfl <| NL <| zax (Vb (rfl : true = _)) <| SR <| MS rfl <| MI rfl <| MI rfl <| CN <| zas rfl rfl rfl zbe <| MS rfl <| MI rfl <| CN <| zas rfl rfl rfl zbe <| CN <| zaz (v1 := str _) (v2 := .int .i64 _) zoi rfl rfl rfl <| Ret.det (zil s _ (a + 1) Om Om _ Om) hst fun w hst => ?_
  refine CN <| zaL (rest := []) ty9 rfl <| CN <| zas rfl rfl rfl zbe <| CN <| zea ty9 rfl rfl rfl (by omega) (by omega) (by omega) <| AS rfl <| NL <| zaj [(1, .int .i64 _), (4, Pp _ _), (12, str _)] E3 fun f => SR <| MS rfl <| CN <| Op1.call1 (v1 := str _) zoj rfl rfl <| Ret.det (zeM _ _ (by first | omega | (simp only [List.length_drop, List.length_take, List.length_append, List.length_cons, List.length_nil]; omega))) hst fun w hst => CN <| zad (v := .tuple #[.int .u32 _, .int .i64 _]) rfl <| CN <| Ex (.int .u32 _) rfl rfl <| CN <| Ex (.int .i64 _) rfl rfl <| AU rfl <| AI rfl ?_
  refine NL <| SQ <| SR <| MI rfl <| CN <| zaW rfl rfl <| NL <| zab rfl (fun g5 => ?_) (fun g5 => ?_)
  ·have hta : (s.drop a).take (1 + (zch (s.drop (a + 1))).length) = (s.drop ((a : Int).toNat)).take (((a : Int) + 1 + ((zch (s.drop (a + 1))).length : Int)).toNat - (a : Int).toNat) := by congr 1; omega
   refine SR <| CN (zag zbd zda .nil ?_)
   refine CN (SO (v := zbO _ _ _) hst zbd rfl rfl .u0 fun w hst => ?_)
   refine AI rfl <| AI rfl <| NL <| zbf Tryz.func118 rfl (zal (vs := zeS _ _ _) rfl zbd rfl rfl (zac (n := 3) (hst.objL Q0) _ rfl)) (TP (v := .int .i64 _) rfl) (TP (v := .int .i64 _) rfl) ?_
   exact .inr ⟨_, _, _, _, zhJ (.inl g4) hta g5, by decide, rfl, hst.pure⟩
  have hta : (s.drop a).take (1 + (zch (s.drop (a + 1))).length) = (s.drop ((a : Int).toNat)).take (((a : Int) + 1 + ((zch (s.drop (a + 1))).length : Int)).toNat - (a : Int).toNat) := by congr 1; omega
  refine zaf <| SR <| MS rfl <| MI rfl <| CN (zag zbd zda (.c (v := .int .u8 _) rfl (h := (.c (v := str _) rfl (h := (.c (v := .int .i64 _) rfl (h := .nil)))))) ?_)
  refine MS rfl <| CN <| zaL (rest := []) ty9 rfl <| CN (SO (v := zbO _ _ _) hst zbd rfl rfl .u0 fun w hst => ?_)
  refine AI rfl <| AI rfl <| NL <| zbf Tryz.func118 rfl (zal (vs := zeS _ _ _) rfl zbd rfl rfl (zac (n := 3) (hst.objL Q0) _ rfl)) (TP (v := .int .i64 _) rfl) (TP (v := .int .i64 _) rfl) ?_
  exact .inl ⟨_, _, _, zgj (.inl g4) hta Om, rfl, hst.pure⟩
 refine TK (t := 52) rfl (Vb g4) <| zad (v := .int .u8 _) rfl <| TK (t := 52) rfl (Vb g4) <| zak rfl rfl <| CN <| zaq (u := .bool _) (Vb g4) rfl <| NL <| zab rfl (fun g6 => ?_) (fun g6 => ?_)
 ·refine SR <| MS rfl <| MI rfl <| MI rfl <| CN <| zas rfl rfl rfl zbe <| MS rfl <| MI rfl <| CN <| zas rfl rfl rfl zbe <| CN <| zaz (v1 := str _) (v2 := .int .i64 _) zoi rfl rfl rfl <| Ret.det (zil s _ (a + 1) Om Om _ Om) hst fun w hst => CN <| zaL (rest := []) ty9 rfl <| CN <| zas rfl rfl rfl zbe <| CN <| zea ty9 rfl rfl rfl Om Om Om <| AS rfl <| NL ?_
  refine zaj [(1, .int .i64 _), (4, Pp _ _), (12, str _)] E3 fun f => SR <| MS rfl <| CN <| Op1.call1 (v1 := str _) zoj rfl rfl <| Ret.det (zeM _ _ (by first | omega | (simp only [List.length_drop, List.length_take, List.length_append, List.length_cons, List.length_nil]; omega))) hst fun w hst => CN <| zad (v := .tuple #[.int .u32 _, .int .i64 _]) rfl <| CN <| Ex (.int .u32 _) rfl rfl <| CN <| Ex (.int .i64 _) rfl rfl <| AU rfl <| AI rfl <| NL <| SQ <| SR <| MI rfl ?_
  refine CN <| zaW rfl rfl <| NL <| zab rfl (fun g7 => ?_) (fun g7 => ?_)
  ·have hta : (s.drop a).take (1 + (zch (s.drop (a + 1))).length) = (s.drop ((a : Int).toNat)).take (((a : Int) + 1 + ((zch (s.drop (a + 1))).length : Int)).toNat - (a : Int).toNat) := by congr 1; omega
   refine SR <| CN (zag zbd zda .nil ?_)
   refine CN (SO (v := zbO _ _ _) hst zbd rfl rfl .u0 fun w hst => ?_)
   refine AI rfl <| AI rfl <| NL <| zbf Tryz.func118 rfl (zal (vs := zeS _ _ _) rfl zbd rfl rfl (zac (n := 3) (hst.objL Q0) _ rfl)) (TP (v := .int .i64 _) rfl) (TP (v := .int .i64 _) rfl) ?_
   exact .inr ⟨_, _, _, _, zhJ (.inr Om) hta g7, by decide, rfl, hst.pure⟩
  have hta : (s.drop a).take (1 + (zch (s.drop (a + 1))).length) = (s.drop ((a : Int).toNat)).take (((a : Int) + 1 + ((zch (s.drop (a + 1))).length : Int)).toNat - (a : Int).toNat) := by congr 1; omega
  refine zaf <| SR <| MS rfl <| MI rfl <| CN (zag zbd zda (.c (v := .int .u8 _) rfl (h := (.c (v := str _) rfl (h := (.c (v := .int .i64 _) rfl (h := .nil)))))) ?_)
  refine MS rfl <| CN <| zaL (rest := []) ty9 rfl <| CN (SO (v := zbO _ _ _) hst zbd rfl rfl .u0 fun w hst => ?_)
  refine AI rfl <| AI rfl <| NL <| zbf Tryz.func118 rfl (zal (vs := zeS _ _ _) rfl zbd rfl rfl (zac (n := 3) (hst.objL Q0) _ rfl)) (TP (v := .int .i64 _) rfl) (TP (v := .int .i64 _) rfl) ?_
  exact .inl ⟨_, _, _, zgj (.inr Om) hta Om, rfl, hst.pure⟩
 refine zaf <| SQ <| SR <| MC rfl <| CN <| zak rfl rfl <| NL <| zaj [(0, str _), (1, .int .i64 _), (4, Pp _ _), (7, .int .u8 _), (81, .bool _)] E5 fun f => zab rfl (fun g8 => ?_) (fun g8 => ?_)
 ·refine SR <| MS rfl <| MI rfl <| CN <| zaz (v1 := str _) (v2 := .int .i64 _) ent168 rfl rfl rfl <| Ret.det (zqc s _ a rfl Om _ Om) hst fun w hst => CN <| zad (v := .tuple #[str _, .int .i64 _]) rfl <| CN <| Ex (str _) rfl rfl <| CN <| Ex (.int .i64 _) rfl rfl <| AS rfl <| AI rfl <| NL <| SQ <| SR <| MI rfl ?_
  refine CN <| zak rfl rfl <| NL <| zab rfl (fun g9 => ?_) (fun g9 => ?_)
  ·refine SR <| CN (zag zbd zda .nil ?_)
   refine CN (SO (v := zbO _ _ _) hst zbd rfl rfl .u0 fun w hst => ?_)
   refine AI rfl <| AI rfl <| NL <| zbf Tryz.func118 rfl (zal (vs := zeS _ _ _) rfl zbd rfl rfl (zac (n := 3) (hst.objL Q0) _ rfl)) (TP (v := .int .i64 _) rfl) (TP (v := .int .i64 _) rfl) ?_
   exact .inr ⟨_, _, _, _, znf Om Om, by decide, rfl, hst.pure⟩
  refine zaf <| SR <| MS rfl <| MI rfl <| CN (zag zbd zda (.c (v := .int .u8 _) rfl (h := (.c (v := str _) rfl (h := (.c (v := .int .i64 _) rfl (h := .nil)))))) ?_)
  refine MI rfl <| CN (SO (v := zbO _ _ _) hst zbd rfl rfl .u0 fun w hst => ?_)
  refine AI rfl <| AI rfl <| NL <| zbf Tryz.func118 rfl (zal (vs := zeS _ _ _) rfl zbd rfl rfl (zac (n := 3) (hst.objL Q0) _ rfl)) (TP (v := .int .i64 _) rfl) (TP (v := .int .i64 _) rfl) ?_
  exact .inl ⟨_, _, _, zjJ Om Om, rfl, hst.pure⟩
 refine zaf <| SQ <| SR <| MC rfl <| CN <| zak rfl rfl <| NL <| zab rfl (fun g10 => ?_) (fun g10 => ?_)
 ·refine SR <| MI rfl <| CN (zag zbd zda (.c (v := .int .u8 _) rfl (h := (.c (v := str _) rfl (h := (.c (v := .int .i64 _) rfl (h := .nil)))))) ?_)
  refine CN (SO (v := zbO _ _ _) hst zbd rfl rfl .u0 fun w hst => ?_)
  refine AI rfl <| AI rfl <| NL <| zbf Tryz.func118 rfl (zal (vs := zeS _ _ _) rfl zbd rfl rfl (zac (n := 3) (hst.objL Q0) _ rfl)) (TP (v := .int .i64 _) rfl) (TP (v := .int .i64 _) rfl) ?_
  exact .inl ⟨_, _, _, zng Om, rfl, hst.pure⟩
 refine zaf <| SR <| CN (zag zbd zda .nil ?_)
 refine CN (SO (v := zbO _ _ _) hst zbd rfl rfl .u0 fun w hst => ?_)
 refine AI rfl <| AI rfl <| NL <| zbf Tryz.func118 rfl (zal (vs := zeS _ _ _) rfl zbd rfl rfl (zac (n := 3) (hst.objL Q0) _ rfl)) (TP (v := .int .i64 _) rfl) (TP (v := .int .i64 _) rfl) ?_
 exact .inr ⟨_, _, _, _, zl5 (zwc g1) Om (zwc g4) Om Om Om, by decide, rfl, hst.pure⟩
theorem zgA (s : Tx) (w : World) (hl : s.length ≤ 1099511627776) : Ret Tryz.prog 64 #[str s] w (fun v w' => ∃ ao cp, v = .tuple #[.slice ao (za7 s).1.length cp, .agg #[.int .i64 (za7 s).2.1, .int .i64 (za7 s).2.2]] ∧ St w NoM [Res.sl ao (za7 s).1.length cp 72 3 ((za7 s).1.flatMap zbW)] [] w') := by
 refine zav (args := [str s]) Tryz.func64 rfl rfl rfl ?_
 have hst := St.init w
 refine SR <| AL rfl <| CN <| Op1.alloc hst za0 fun w b3 hst => NSR <| AL rfl <| NSR <| AI rfl <| NL <| SQ <| zao ?_
 refine zaV ?_
 replace hst := hst.pushNil 72 3
 refine zaU [(0, str _), (3, Pp _ _)] E2 (fun (qq : Nat × List TokL × Option Addr × Nat) => [(4, .slice qq.2.2.1 qq.2.1.length qq.2.2.2), (5, .int .i64 (qq.1 : Int))]) (fun (qq : Nat × List TokL × Option Addr × Nat) => [Res.sl qq.2.2.1 qq.2.1.length qq.2.2.2 72 3 (qq.2.1.flatMap zbW)]) (fun (qq : Nat × List TokL × Option Addr × Nat) => zjI s qq.1 qq.2.1) (fun (qq : Nat × List TokL × Option Addr × Nat) => s.length - qq.1) ((0, [], none, 0)) hst (zjG s) E2 ?_
 intro ⟨i, l, aq, cq⟩ f w hst hJ ih1
 replace hst : St _ _ ([Res.sl aq l.length cq 72 3 (l.flatMap zbW)] ++ [_]) _ _ := hst
 replace hJ : zjI s i l := hJ
 refine za2 (sl := [(4, .slice aq l.length cq), (5, .int .i64 (i : Int))]) E2 ?_
 have hidx : (s.getD ((i : Int).toNat) 0).toNat = (s.getD i 0).toNat := rfl
 have hj2 := hJ.2.1
 have hj1 := hJ.1
 refine SQ <| SR <| MI rfl <| MS rfl <| CN <| zaL (rest := []) ty9 rfl <| CN <| zaS rfl rfl <| MB rfl <| zan (d := 13) rfl (fun g2 => ?_) (fun g2 => ?_)
 ·refine TK (t := 13) rfl (Vb (Dt g2)) <| zad (v := str _) rfl <| TK (t := 13) rfl (Vb (Dt g2)) <| zad (v := .int .i64 _) rfl <| TK (t := 13) rfl (Vb (Dt g2)) <| zaH ty9 rfl rfl Om Om <| TK (t := 13) rfl (Vb (Dt g2)) <| zaW rfl rfl <| CN <| zap (u := .bool _) (Vb (Dt g2)) rfl <| NL <| zab rfl (fun g3 => ?_) (fun g3 => ?_)
  ·refine zaf <| zao <| SQ <| SR <| MS rfl <| MI rfl <| CN <| zaH ty9 rfl rfl Om Om <| CN <| Op1.call1 (v1 := .int .u8 _) ent117 rfl rfl <| Ret.det (zsz _ _) hst fun w hst => NL <| zaA rfl (fun g4 => ?_) (fun g4 => ?_)
   ·refine SR <| MI rfl <| CN <| zas rfl rfl rfl zbe <| AI rfl <| NL <| zaJ (id := 1) rfl <| zay ?_
    have hI := zjH hJ Om Om g4
    exact ih1 ((i + 1, l, aq, cq)) _ w (Od) hst (hI) E2 ⟨rfl, (Vi Od), trivial⟩
   refine zaf <| SR <| MS rfl <| MI rfl <| CN (zaz (v1 := str _) (v2 := .int .i64 _) ent118 rfl rfl rfl ((zp7 s _ i rfl Om _ hl).mono fun v w hp => ?_))
   rcases hp with ⟨kd, t, m, htk, rfl, hp⟩ | ⟨e, kd, t, m, htk, hne, rfl, hp⟩
   ·replace hst := hst.keepc hp
    clear hp
    have hm := zgH (by rw [List.length_drop]; omega) htk
    rw [List.length_drop] at hm
    refine CN <| zad (v := .tuple #[zbO _ _ _, .int .i64 _, .int .i64 _]) rfl <| CN <| Ex (zbO _ _ _) rfl rfl <| CN <| Ex (.int .i64 _) rfl rfl <| CN <| Ex (.int .i64 _) rfl rfl <| CN <| Op1.alloc hst zbd fun w b6 hst => CN (SO (v := zbO _ _ _) hst zbd rfl rfl .u0 fun w hst => ?_)
    refine AI rfl <| AI rfl <| NL <| zaj [(0, str _), (3, Pp _ _), (4, .slice _ _ _), (5, .int .i64 _), (6, Pp _ _), (7, .int .i64 _), (8, .int .i64 _)] E7 fun f => SQ <| SR <| MI rfl <| CN <| zaW rfl rfl <| NL <| zab rfl (fun g5 => ?_) (fun g5 => ?_)
    ·exfalso
     exact g5 rfl
    refine zaf <| SR <| ML rfl <| CN <| zar (vs := zeS _ _ _) zbd rfl rfl rfl (zac (n := 3) (hst.objL Q0) _ rfl) <| CN (zaE (z0 := [.int .u8 0, str [], .int .i64 0]) hst zcB zbd rfl rfl Kr (.c (v := zbO _ _ _) rfl (h := .nil)) fun w b39 hst => ?_)
    refine CN (zaI (news := zbW ⟨kd, t, (i : Int)⟩) hst zcB zbd rfl rfl .u2 rfl rfl rfl (zac (n := 3) (hst.objL Q0) _ rfl) rfl rfl Om fun w ao6 cp7 hst => ?_)
    replace hst := hst.drop .u1
    refine AL rfl <| NR <| MI rfl <| MI rfl <| CN <| zas rfl rfl rfl zbe <| AI rfl <| NL <| zam <| zay ?_
    have hI := zqv hJ Om Om (zwc g4) htk
    replace hst := hst.pick (.cons .u0 (.cons .u1 .nil))
    exact ih1 ((i + m, l ++ [⟨kd, t, (i : Int)⟩], ao6, cp7)) _ w ((by (try dsimp only); omega)) (by rw [List.length_append, List.flatMap_append]; exact hst) (hI) E2 ⟨(by simp only [List.length_append]; rfl), (Vi (by (try dsimp only); omega)), trivial⟩
   ·replace hst := hst.keepc hp
    clear hp
    refine CN <| zad (v := .tuple #[zbO _ _ _, .int .i64 _, .int .i64 _]) rfl <| CN <| Ex (zbO _ _ _) rfl rfl <| CN <| Ex (.int .i64 _) rfl rfl <| CN <| Ex (.int .i64 _) rfl rfl <| CN <| Op1.alloc hst zbd fun w b6 hst => CN (SO (v := zbO _ _ _) hst zbd rfl rfl .u0 fun w hst => ?_)
    refine AI rfl <| AI rfl <| NL <| zaj [(0, str _), (3, Pp _ _), (4, .slice _ _ _), (5, .int .i64 _), (6, Pp _ _), (7, .int .i64 _), (8, .int .i64 _)] E7 fun f => SQ <| SR <| MI rfl <| CN <| zaW rfl rfl <| NL <| zab rfl (fun g8 => ?_) (fun g8 => ?_)
    ·refine SR <| MI rfl <| MI rfl <| CN (zag za0 zcE (.c (v := .int .i64 _) rfl (h := (.c (v := .int .i64 _) rfl (h := .nil)))) ?_)
     refine AL rfl <| CN (SO (v := gII _ _) hst za0 rfl rfl .u2 fun w hst => ?_)
     refine NL <| zai Tryz.func64 rfl (TP (v := .slice _ _ _) rfl) (zal (vs := lII _ _) rfl za0 rfl rfl (zac (n := 2) (hst.objL Q2) _ rfl)) ?_
     rw [zne hJ (by omega) (by omega) (zwc g4) htk]
     replace hst := hst.pushNil 72 3
     replace hst := hst.pick (.cons .u0 .nil)
     exact ⟨none, 0, rfl, hst.noD⟩
    exfalso
    exact g8 hne
  refine zaJ (id := 0) rfl <| SR <| ML rfl <| CN (zag za0 zcE .nil ?_)
  refine AL rfl <| CN (SO (v := gII _ _) hst za0 rfl rfl .u1 fun w hst => ?_)
  refine NL <| zai Tryz.func64 rfl (TP (v := .slice _ _ _) rfl) (zal (vs := lII _ _) rfl za0 rfl rfl (zac (n := 2) (hst.objL Q1) _ rfl)) ?_
  rw [zhG hJ (by omega)]
  replace hst := hst.pick (.cons .u0 .nil)
  exact ⟨aq, cq, rfl, hst.noD⟩
 refine OM (t := 13) rfl (Vb (Df g2)) rfl <| OM (t := 13) rfl (Vb (Df g2)) rfl <| OM (t := 13) rfl (Vb (Df g2)) rfl <| OM (t := 13) rfl (Vb (Df g2)) rfl <| CN <| zaq (u := .bool _) (Vb (Df g2)) rfl <| NL <| zat (Vb (rfl : false = _)) <| zaJ (id := 0) rfl <| SR <| ML rfl <| CN (zag za0 zcE .nil ?_)
 refine AL rfl <| CN (SO (v := gII _ _) hst za0 rfl rfl .u1 fun w hst => ?_)
 refine NL <| zai Tryz.func64 rfl (TP (v := .slice _ _ _) rfl) (zal (vs := lII _ _) rfl za0 rfl rfl (zac (n := 2) (hst.objL Q1) _ rfl)) ?_
 rw [zhG hJ (by omega)]
 replace hst := hst.pick (.cons .u0 .nil)
 exact ⟨aq, cq, rfl, hst.noD⟩
end Go.SK
namespace Go.SK
open Go Go.Proofs
theorem zxX : zaN Tryz.prog 64 := ⟨Tryz.f64, _, Tryz.func64, Kr, rfl⟩
theorem zeF : zaN Tryz.prog 65 := ⟨Tryz.f65, _, Tryz.func65, Kr, rfl⟩
end Go.SK
namespace Go.SK
open Go Go.Proofs
open Go.RowKit
theorem zbB (x y : Int) (w : World) : Ret Tryz.prog 65 #[.int .i64 x, .int .i64 y] w (fun v w' => v = .agg #[.int .i64 x, .int .i64 y] ∧ St w NoM [] [] w') := by
 refine zav (args := [.int .i64 x, .int .i64 y]) Tryz.func65 rfl rfl rfl ?_
 have hst := St.init w
 refine SR <| CN <| Op1.alloc hst za0 fun w b4 hst => NSR <| MI rfl <| MI rfl <| CN (zag za0 zcE (.c (v := .int .i64 _) rfl (h := (.c (v := .int .i64 _) rfl (h := .nil)))) ?_)
 refine CN (SO (v := gII _ _) hst za0 rfl rfl .u0 fun w hst => ?_)
 refine NL <| zah Tryz.func65 rfl (zal (vs := lII _ _) rfl za0 rfl rfl (zac (n := 2) (hst.objL Q0) _ rfl)) ?_
 exact ⟨rfl, hst.pure⟩
theorem zpY (s : Tx) (w : World) (hG : LxG.holds w) (hl : s.length ≤ 1099511627776) : Ret Tryz.prog 89 #[str s] w (fun v w' => v = .tuple #[.agg #[.int .u32 (zcf s).1.1, .int .u32 (zcf s).1.2], .agg #[.int .i64 (zcf s).2.1, .int .i64 (zcf s).2.2]] ∧ St w NoM [] [] w') := by
 refine zav (args := [str s]) Tryz.func89 rfl rfl rfl ?_
 have hst : St w NoM [] [LxG] w := St.init_Ds (by simp only [List.forall_mem_cons]; exact ⟨hG, fun _ h => absurd h List.not_mem_nil⟩)
 have htl := zhH s
 have hts := zgi s
 refine SR <| CN <| Op1.alloc hst zcm fun w b2 hst => CN <| Op1.alloc hst za0 fun w b3 hst => NSR <| MS rfl <| CN (Op1.call1 (v1 := str _) zxX rfl rfl ((zgA s _ hl).mono fun v w hp => ?_))
 obtain ⟨ao_x1, cp_x1, rfl, hp⟩ := hp
 replace hst := hst.call0 hp
 clear hp
 refine CN <| zad (v := .tuple #[.slice _ _ _, gII _ _]) rfl <| CN <| Ex (.slice _ _ _) rfl rfl <| CN <| Ex (gII _ _) rfl rfl <| CN <| Op1.alloc hst za0 fun w b5 hst => AL rfl <| CN (SO (v := gII _ _) hst za0 rfl rfl .u0 fun w hst => ?_)
 refine NL <| SQ <| SR <| CN <| zaa zbr rfl <| CN <| zae (v := .int .i64 _) zcO rfl rfl (hst.cellL Q0 rfl) <| CN <| zaW rfl rfl <| NL <| zab rfl (fun g1 => ?_) (fun g1 => ?_)
 ·refine SQ ?_
  replace hst := hst.pick (.cons .u3 (.cons .u0 (.cons .u0 (.cons .u0 .nil))))
  apply RunD.start [(2, Res.row b2 81 _, Res.row b2 81 _)] hst (bs := [0, 0, 1, 7]) (ds := [some 18, some 19, none, none]) (htab := ⟨Kr, Kr, Kr⟩)
  intro tab2
  refine DO tab2 1 (fun _ _ _ hc => zag zcm zed .nil hc.z) ?_
  refine DO tab2 2 (fun f' L' w' hc=> zar (vs := lII _ _) za0 rfl (hc.old (v := Pp _ _) rfl rfl rfl) rfl (zac (n := 2) (hc.st.objL (List.mem_append_right _ Q0)) _ rfl) hc.z) <| zcd tab2 3 Q0 (fun f' L' L2 w' hc hsel => zbC (v := gUU _ _) hc.st zcm (hc.old (v := Pp _ _) rfl rfl rfl) (hc.d 0 rfl rfl rfl rfl) rfl rfl rfl hsel (by repeat (first | exact Put.nil | apply Put.put | apply Put.skip)) fun w hst => ⟨rfl, hst⟩) ?_
  refine RunD.fin zaw tab2 hst rfl (fun f3 w R6 hs4 hd5 hr7 hst => ?_)
  obtain ⟨h18_, r0⟩ := hd5 0 18 rfl rfl
  obtain ⟨h19_, r1⟩ := hd5 1 19 rfl rfl
  obtain ⟨_, _, r2⟩ := hr7 2 rfl
  simp only [rg3, Fc, Fn, Mc, Mn, r0, r1, r2, Na, An, Ca] at hst
  refine zaD (sl := [(2, Pp _ _), (3, Pp _ _), (19, gII _ _)]) ⟨(hs4 2 rfl).trans rfl, (hs4 3 rfl).trans rfl, h19_, trivial⟩ ?_
  clear hs4 hd5 hr7 tab2
  refine CN (SO (v := gII _ _) hst za0 rfl rfl .u3 fun w hst => ?_)
  refine NL <| zai Tryz.func89 rfl (zal (vs := lUU _ _) rfl zcm rfl rfl (zac (n := 2) (hst.objL Q0) _ rfl)) (zal (vs := lII _ _) rfl za0 rfl rfl (zac (n := 2) (hst.objL Q3) _ rfl)) ?_
  have he : zcf s = ((0, 0), (za7 s).2) := if_pos g1
  rw [he]
  exact ⟨rfl, hst.pure⟩
 refine zaf <| SR <| CN <| Op1.alloc hst zcm fun w b6 hst => NL <| SQ <| SR <| AI rfl <| NL <| zao <| zaV <| zaU [(0, str _), (2, Pp _ _), (3, Pp _ _), (4, .slice _ _ _), (6, Pp _ _)] E5 (fun (qq : Nat × Int × Int) => [(7, .int .i64 (qq.1 : Int))]) (fun (qq : Nat × Int × Int) => [Res.row b6 81 [.int .u32 qq.2.1, .int .u32 qq.2.2]]) (fun (qq : Nat × Int × Int) => HdI (za7 s).1 qq.1 qq.2.1 qq.2.2) (fun (qq : Nat × Int × Int) => (za7 s).1.length - qq.1) ((0, 0, 0)) hst (HdI.start _) ⟨rfl, trivial⟩ ?_
 intro ⟨k, gn, bd⟩ f w hst hJ ih8
 replace hst : St _ _ ([Res.row b6 81 [.int .u32 gn, .int .u32 bd]] ++ [_, _, _, _]) _ _ := hst
 replace hJ : HdI (za7 s).1 k gn bd := hJ
 refine za2 (sl := [(7, .int .i64 (k : Int))]) ⟨rfl, trivial⟩ ?_
 have hj1 := hJ.le
 have hnu := zh0 ((za7 s).1.getD k zaR).text
 refine SQ <| SR <| MI rfl <| ML rfl <| CN <| zaQ (rest := []) zcB rfl <| CN <| zaS rfl rfl <| NL <| zab rfl (fun g9 => ?_) (fun g9 => ?_)
 ·refine zaf <| SQ <| zao <| SQ <| SR <| MI rfl <| CN <| zak rfl rfl <| MB rfl <| zan (d := 28) rfl (fun g10 => ?_) (fun g10 => ?_)
  ·refine OM (t := 28) rfl (Vb (Dt g10)) rfl <| OM (t := 28) rfl (Vb (Dt g10)) rfl <| OM (t := 28) rfl (Vb (Dt g10)) rfl <| zaB (t := 31) rfl rfl <| zaB (t := 31) rfl rfl <| zaB (t := 31) rfl rfl <| zaB (t := 31) rfl rfl <| zaB (t := 31) rfl rfl <| zaB (t := 31) rfl rfl <| zaB (t := 31) rfl rfl <| zaB (t := 38) rfl rfl <| zaB (t := 38) rfl rfl <| zaB (t := 38) rfl rfl <| zaB (t := 38) rfl rfl <| zaB (t := 38) rfl rfl ?_
   refine zaB (t := 38) rfl rfl <| zaB (t := 31) rfl rfl <| OM (t := 28) rfl (Vb (Dt g10)) rfl <| CN <| zap (u := .bool _) (Vb (Dt g10)) rfl <| MB rfl <| OM (t := 48) rfl (Vb (rfl : true = _)) rfl <| OM (t := 48) rfl (Vb (rfl : true = _)) rfl <| OM (t := 48) rfl (Vb (rfl : true = _)) rfl <| zaB (t := 51) rfl rfl <| zaB (t := 51) rfl rfl <| zaB (t := 51) rfl rfl <| zaB (t := 51) rfl rfl <| zaB (t := 51) rfl rfl <| zaB (t := 51) rfl rfl <| OM (t := 48) rfl (Vb (rfl : true = _)) rfl ?_
   refine CN <| zap (u := .bool _) (Vb (rfl : true = _)) rfl <| NL <| zax (Vb (rfl : true = _)) <| SR <| CN (zag zcm zed .nil ?_)
   refine ML rfl <| MI rfl <| CN <| zaO zcB zbd ((Res.rs_of_sl (hst.hL _ Q2))) rfl rfl Om Om <| CN <| zaa zb4 rfl <| CN <| zae (v := .int .i64 _) ty3 rfl rfl (Res.rs2_cellF ((Res.rs_of_sl (hst.hL _ Q2))) (za3 (g := zbW) (d := zaR) zbk rfl Om)) <| CN <| zaz (v1 := .int .i64 _) (v2 := .int .i64 _) zeF rfl rfl rfl <| Ret.det (zbB _ _ _) hst fun w hst => CN (SO (v := gUU _ _) hst zcm rfl rfl .u4 fun w hst => ?_)
   refine CN (SO (v := gII _ _) hst za0 rfl rfl .u3 fun w hst => ?_)
   refine NL <| zai Tryz.func89 rfl (zal (vs := lUU _ _) rfl zcm rfl rfl (zac (n := 2) (hst.objL Q4) _ rfl)) (zal (vs := lII _ _) rfl za0 rfl rfl (zac (n := 2) (hst.objL Q3) _ rfl)) ?_
   have he : zcf s = zcK s.length (za7 s).1 := if_neg g1
   rw [he, hJ.at3 (by omega) (by omega)]
   exact ⟨rfl, hst.pure⟩
  refine TK (t := 28) rfl (Vb (Df g10)) <| zad (v := .int .i64 _) rfl <| TK (t := 28) rfl (Vb (Df g10)) <| zak rfl rfl <| TK (t := 28) rfl (Vb (Df g10)) <| zad (v := .bool _) rfl <| zan (d := 31) rfl (fun g11 => ?_) (fun g11 => ?_)
  ·refine TK (t := 31) rfl (Vb (Dt g11)) <| zad (v := .slice _ _ _) rfl <| TK (t := 31) rfl (Vb (Dt g11)) <| zad (v := .int .i64 _) rfl <| TK (t := 31) rfl (Vb (Dt g11)) <| zaO zcB zbd ((Res.rs_of_sl (hst.hL _ Q2))) rfl rfl Om Om <| TK (t := 31) rfl (Vb (Dt g11)) <| zaa zfc rfl <| TK (t := 31) rfl (Vb (Dt g11)) <| zae (v := .int .u8 _) ty5 rfl rfl (Res.rs2_cellF ((Res.rs_of_sl (hst.hL _ Q2))) (za3 (g := zbW) (d := zaR) zbk rfl Om)) <| TK (t := 31) rfl (Vb (Dt g11)) <| zaW rfl rfl <| TK (t := 31) rfl (Vb (Dt g11)) <| zad (v := .bool _) rfl <| zan (d := 38) rfl (fun g12 => ?_) (fun g12 => ?_)
   ·refine OM (t := 38) rfl (Vb (Dt g12)) rfl <| OM (t := 38) rfl (Vb (Dt g12)) rfl <| OM (t := 38) rfl (Vb (Dt g12)) rfl <| OM (t := 38) rfl (Vb (Dt g12)) rfl <| OM (t := 38) rfl (Vb (Dt g12)) rfl <| OM (t := 38) rfl (Vb (Dt g12)) rfl <| TK (t := 31) rfl (Vb (Dt g11)) <| zap (u := .bool _) (Vb (Dt g12)) rfl <| TK (t := 28) rfl (Vb (Df g10)) <| zap (u := .bool _) (Vb (Dt g11)) rfl <| CN <| zaq (u := .bool _) (Vb (Df g10)) rfl <| MB rfl <| OM (t := 48) rfl (Vb (rfl : true = _)) rfl <| OM (t := 48) rfl (Vb (rfl : true = _)) rfl <| OM (t := 48) rfl (Vb (rfl : true = _)) rfl <| zaB (t := 51) rfl rfl <| zaB (t := 51) rfl rfl ?_
    refine zaB (t := 51) rfl rfl <| zaB (t := 51) rfl rfl <| zaB (t := 51) rfl rfl <| zaB (t := 51) rfl rfl <| OM (t := 48) rfl (Vb (rfl : true = _)) rfl <| CN <| zap (u := .bool _) (Vb (rfl : true = _)) rfl <| NL <| zaj [(0, str _), (2, Pp _ _), (3, Pp _ _), (4, .slice _ _ _), (6, Pp _ _), (7, .int .i64 _), (59, .bool _)] E7 fun f => zax (Vb (rfl : true = _)) <| SR <| CN (zag zcm zed .nil ?_)
    refine ML rfl <| MI rfl <| CN <| zaO zcB zbd ((Res.rs_of_sl (hst.hL _ Q2))) rfl rfl Om Om <| CN <| zaa zb4 rfl <| CN <| zae (v := .int .i64 _) ty3 rfl rfl (Res.rs2_cellF ((Res.rs_of_sl (hst.hL _ Q2))) (za3 (g := zbW) (d := zaR) zbk rfl Om)) <| CN <| zaz (v1 := .int .i64 _) (v2 := .int .i64 _) zeF rfl rfl rfl <| Ret.det (zbB _ _ _) hst fun w hst => CN (SO (v := gUU _ _) hst zcm rfl rfl .u4 fun w hst => ?_)
    refine CN (SO (v := gII _ _) hst za0 rfl rfl .u3 fun w hst => ?_)
    refine NL <| zai Tryz.func89 rfl (zal (vs := lUU _ _) rfl zcm rfl rfl (zac (n := 2) (hst.objL Q4) _ rfl)) (zal (vs := lII _ _) rfl za0 rfl rfl (zac (n := 2) (hst.objL Q3) _ rfl)) ?_
    have he : zcf s = zcK s.length (za7 s).1 := if_neg g1
    rw [he, hJ.bad0 (by omega) (by omega) (.inl g12)]
    exact ⟨rfl, hst.pure⟩
   refine TK (t := 38) rfl (Vb (Df g12)) <| zad (v := .slice _ _ _) rfl <| TK (t := 38) rfl (Vb (Df g12)) <| zad (v := .int .i64 _) rfl <| TK (t := 38) rfl (Vb (Df g12)) <| zaO zcB zbd ((Res.rs_of_sl (hst.hL _ Q2))) rfl rfl Om Om <| TK (t := 38) rfl (Vb (Df g12)) <| zaa zbl rfl <| TK (t := 38) rfl (Vb (Df g12)) <| zae (v := str _) ty9 rfl rfl (Res.rs2_cellF ((Res.rs_of_sl (hst.hL _ Q2))) (za3 (g := zbW) (d := zaR) zbk rfl Om)) <| TK (t := 38) rfl (Vb (Df g12)) <| zcN rfl rfl <| TK (t := 31) rfl (Vb (Dt g11)) <| zaq (u := .bool _) (Vb (Df g12)) rfl <| TK (t := 28) rfl (Vb (Df g10)) <| zap (u := .bool _) (Vb (Dt g11)) rfl <| CN <| zaq (u := .bool _) (Vb (Df g10)) rfl <| MB rfl <| zan (d := 48) rfl (fun g13 => ?_) (fun g13 => ?_)
   ·refine OM (t := 48) rfl (Vb (Dt g13)) rfl <| OM (t := 48) rfl (Vb (Dt g13)) rfl <| OM (t := 48) rfl (Vb (Dt g13)) rfl <| zaB (t := 51) rfl rfl <| zaB (t := 51) rfl rfl <| zaB (t := 51) rfl rfl <| zaB (t := 51) rfl rfl <| zaB (t := 51) rfl rfl <| zaB (t := 51) rfl rfl <| OM (t := 48) rfl (Vb (Dt g13)) rfl <| CN <| zap (u := .bool _) (Vb (Dt g13)) rfl <| NL <| zaj [(0, str _), (2, Pp _ _), (3, Pp _ _), (4, .slice _ _ _), (6, Pp _ _), (7, .int .i64 _), (59, .bool _)] E7 fun f => zax (Vb (rfl : true = _)) <| SQ ?_
    refine RG <| CN (zag zcm zed .nil ?_)
    refine ML rfl <| MI rfl <| CN <| zaO zcB zbd ((Res.rs_of_sl (hst.hL _ Q2))) rfl rfl Om Om <| CN <| zaa zb4 rfl <| CN <| zae (v := .int .i64 _) ty3 rfl rfl (Res.rs2_cellF ((Res.rs_of_sl (hst.hL _ Q2))) (za3 (g := zbW) (d := zaR) zbk rfl Om)) <| CN <| zaz (v1 := .int .i64 _) (v2 := .int .i64 _) zeF rfl rfl rfl <| Ret.det (zbB _ _ _) hst fun w hst => CN (SO (v := gUU _ _) hst zcm rfl rfl .u4 fun w hst => ?_)
    refine CN (SO (v := gII _ _) hst za0 rfl rfl .u3 fun w hst => ?_)
    refine NL <| zai Tryz.func89 rfl (zal (vs := lUU _ _) rfl zcm rfl rfl (zac (n := 2) (hst.objL Q4) _ rfl)) (zal (vs := lII _ _) rfl za0 rfl rfl (zac (n := 2) (hst.objL Q3) _ rfl)) ?_
    have he : zcf s = zcK s.length (za7 s).1 := if_neg g1
    rw [he, hJ.bad0 (by omega) (by omega) (.inr g13)]
    exact ⟨rfl, hst.pure⟩
   refine TK (t := 48) rfl (Vb (Df g13)) <| zad (v := .int .i64 _) rfl <| TK (t := 48) rfl (Vb (Df g13)) <| zbm rfl rfl <| TK (t := 48) rfl (Vb (Df g13)) <| zad (v := .bool _) rfl <| zan (d := 51) rfl (fun g14 => ?_) (fun g14 => ?_)
   ·exfalso
    omega
   refine OM (t := 51) rfl (Vb (Df g14)) rfl <| OM (t := 51) rfl (Vb (Df g14)) rfl <| OM (t := 51) rfl (Vb (Df g14)) rfl <| OM (t := 51) rfl (Vb (Df g14)) rfl <| OM (t := 51) rfl (Vb (Df g14)) rfl <| OM (t := 51) rfl (Vb (Df g14)) rfl <| TK (t := 48) rfl (Vb (Df g13)) <| zaq (u := .bool _) (Vb (Df g14)) rfl <| CN <| zaq (u := .bool _) (Vb (Df g13)) rfl <| NL <| zaj [(0, str _), (2, Pp _ _), (3, Pp _ _), (4, .slice _ _ _), (6, Pp _ _), (7, .int .i64 _), (59, .bool _)] E7 fun f => zat (Vb (rfl : false = _)) <| zaf <| SR <| MI rfl ?_
   refine CN <| zbm rfl rfl <| NL <| zab rfl (fun g15 => ?_) (fun g15 => ?_)
   ·exfalso
    omega
   refine zaf <| zam <| RG <| MI rfl <| CN <| zas rfl rfl rfl zbe <| AI rfl <| NL <| zay ?_
   exact ih8 ((k + 1, gn, bd)) _ w (Od) hst ((hJ.step0 Om Om (Nn g12) (Nn g13))) E5 ⟨(Vi Od), trivial⟩
  refine OM (t := 31) rfl (Vb (Df g11)) rfl <| OM (t := 31) rfl (Vb (Df g11)) rfl <| OM (t := 31) rfl (Vb (Df g11)) rfl <| OM (t := 31) rfl (Vb (Df g11)) rfl <| OM (t := 31) rfl (Vb (Df g11)) rfl <| OM (t := 31) rfl (Vb (Df g11)) rfl <| OM (t := 31) rfl (Vb (Df g11)) rfl <| zaB (t := 38) rfl rfl <| zaB (t := 38) rfl rfl <| zaB (t := 38) rfl rfl <| zaB (t := 38) rfl rfl <| zaB (t := 38) rfl rfl <| zaB (t := 38) rfl rfl <| OM (t := 31) rfl (Vb (Df g11)) rfl <| TK (t := 28) rfl (Vb (Df g10)) (zaq (u := .bool _) (Vb (Df g11)) rfl ?_)
  refine CN <| zaq (u := .bool _) (Vb (Df g10)) rfl <| MB rfl <| TK (t := 48) rfl (Vb (rfl : false = _)) <| zad (v := .int .i64 _) rfl <| TK (t := 48) rfl (Vb (rfl : false = _)) <| zbm rfl rfl <| TK (t := 48) rfl (Vb (rfl : false = _)) <| zad (v := .bool _) rfl <| zan (d := 51) rfl (fun g16 => ?_) (fun g16 => ?_)
  ·refine TK (t := 51) rfl (Vb (Dt g16)) <| zad (v := .slice _ _ _) rfl <| TK (t := 51) rfl (Vb (Dt g16)) <| zad (v := .int .i64 _) rfl <| TK (t := 51) rfl (Vb (Dt g16)) <| zaO zcB zbd ((Res.rs_of_sl (hst.hL _ Q2))) rfl rfl Om Om <| TK (t := 51) rfl (Vb (Dt g16)) <| zaa zfc rfl <| TK (t := 51) rfl (Vb (Dt g16)) <| zae (v := .int .u8 _) ty5 rfl rfl (Res.rs2_cellF ((Res.rs_of_sl (hst.hL _ Q2))) (za3 (g := zbW) (d := zaR) zbk rfl Om)) <| TK (t := 51) rfl (Vb (Dt g16)) <| zaW rfl rfl <| TK (t := 48) rfl (Vb (rfl : false = _)) <| zap (u := .bool _) (Vb (Dt g16)) rfl <| CN <| zaq (u := .bool _) (Vb (rfl : false = _)) rfl <| NL <| zaj [(0, str _), (2, Pp _ _), (3, Pp _ _), (4, .slice _ _ _), (6, Pp _ _), (7, .int .i64 _), (59, .bool _)] E7 fun f => zab rfl (fun g17 => ?_) (fun g17 => ?_)
   ·refine SR <| CN (zag zcm zed .nil ?_)
    refine ML rfl <| MI rfl <| CN <| zaO zcB zbd ((Res.rs_of_sl (hst.hL _ Q2))) rfl rfl Om Om <| CN <| zaa zb4 rfl <| CN <| zae (v := .int .i64 _) ty3 rfl rfl (Res.rs2_cellF ((Res.rs_of_sl (hst.hL _ Q2))) (za3 (g := zbW) (d := zaR) zbk rfl Om)) <| CN <| zaz (v1 := .int .i64 _) (v2 := .int .i64 _) zeF rfl rfl rfl <| Ret.det (zbB _ _ _) hst fun w hst => CN (SO (v := gUU _ _) hst zcm rfl rfl .u4 fun w hst => ?_)
    refine CN (SO (v := gII _ _) hst za0 rfl rfl .u3 fun w hst => ?_)
    refine NL <| zai Tryz.func89 rfl (zal (vs := lUU _ _) rfl zcm rfl rfl (zac (n := 2) (hst.objL Q4) _ rfl)) (zal (vs := lII _ _) rfl za0 rfl rfl (zac (n := 2) (hst.objL Q3) _ rfl)) ?_
    have he : zcf s = zcK s.length (za7 s).1 := if_neg g1
    rw [he, hJ.badk (by omega) (by omega) (by omega) g17]
    exact ⟨rfl, hst.pure⟩
   refine zaf <| SR <| MI rfl <| CN <| zbm rfl rfl <| NL <| zab rfl (fun g18 => ?_) (fun g18 => ?_)
   ·refine SR <| ML rfl <| MI rfl <| CN <| zaO zcB zbd ((Res.rs_of_sl (hst.hL _ Q2))) rfl rfl Om Om <| CN <| zaa zbl rfl <| CN <| zae (v := str _) ty9 rfl rfl (Res.rs2_cellF ((Res.rs_of_sl (hst.hL _ Q2))) (za3 (g := zbW) (d := zaR) zbk rfl Om)) <| CN <| Op1.call1 (v1 := str _) zoj rfl rfl <| Ret.det (zeM ((za7 s).1.getD k zaR).text _ (by have := zge (l := (za7 s).1) (i := k) Om; omega)) hst fun w hst => CN <| zad (v := .tuple #[.int .u32 _, .int .i64 _]) rfl <| CN <| Ex (.int .u32 _) rfl rfl <| CN <| Ex (.int .i64 _) rfl rfl <| AU rfl <| AI rfl <| NL <| SQ ?_
    refine SR <| MI rfl <| CN <| zaW rfl rfl <| NL <| zab rfl (fun g19 => ?_) (fun g19 => ?_)
    ·refine SR <| CN (zag zcm zed .nil ?_)
     refine MI rfl <| ML rfl <| MI rfl <| CN <| zaO zcB zbd ((Res.rs_of_sl (hst.hL _ Q2))) rfl rfl Om Om <| CN <| zaa zb4 rfl <| CN <| zae (v := .int .i64 _) ty3 rfl rfl (Res.rs2_cellF ((Res.rs_of_sl (hst.hL _ Q2))) (za3 (g := zbW) (d := zaR) zbk rfl Om)) <| CN <| zaz (v1 := .int .i64 _) (v2 := .int .i64 _) zeF rfl rfl rfl <| Ret.det (zbB _ _ _) hst fun w hst => CN (SO (v := gUU _ _) hst zcm rfl rfl .u4 fun w hst => ?_)
     refine CN (SO (v := gII _ _) hst za0 rfl rfl .u3 fun w hst => ?_)
     refine NL <| zai Tryz.func89 rfl (zal (vs := lUU _ _) rfl zcm rfl rfl (zac (n := 2) (hst.objL Q4) _ rfl)) (zal (vs := lII _ _) rfl za0 rfl rfl (zac (n := 2) (hst.objL Q3) _ rfl)) ?_
     have he : zcf s = zcK s.length (za7 s).1 := if_neg g1
     rw [he, hJ.num (by omega) (by omega) (by omega) (Nn g17) g19]
     exact ⟨rfl, hst.pure⟩
    refine zaf <| SR <| MI rfl <| CN <| zak rfl rfl <| NL <| zab rfl (fun g20 => ?_) (fun g20 => ?_)
    ·refine RG <| MU rfl <| CN <| zaa zmx rfl <| CN (SO (v := .int .u32 _) hst zbt rfl rfl .u0 fun w hst => ?_)
     refine NL <| zam <| zaj [(0, str _), (2, Pp _ _), (3, Pp _ _), (4, .slice _ _ _), (6, Pp _ _), (7, .int .i64 _)] E6 fun f => RG <| MI rfl <| CN <| zas rfl rfl rfl zbe <| AI rfl <| NL <| zay ?_
     exact ih8 ((k + 1, (zba ((za7 s).1.getD k zaR).text).1, bd)) _ w (Od) hst ((hJ.step1 Om Om (Nn g17) (Nn g19))) E5 ⟨(Vi Od), trivial⟩
    refine SR <| MU rfl <| CN <| zaa zmw rfl <| CN (SO (v := .int .u32 _) hst zbt rfl rfl .u0 fun w hst => ?_)
    refine NL <| zaj [(0, str _), (2, Pp _ _), (3, Pp _ _), (4, .slice _ _ _), (6, Pp _ _), (7, .int .i64 _), (8, .int .u32 _)] E7 fun f => SR <| MU rfl <| CN <| zaS rfl rfl <| MB rfl <| zan (d := 96) rfl (fun g21 => ?_) (fun g21 => ?_)
    ·refine OM (t := 96) rfl (Vb (Dt g21)) rfl <| OM (t := 96) rfl (Vb (Dt g21)) rfl <| CN <| zap (u := .bool _) (Vb (Dt g21)) rfl <| NL <| zax (Vb (rfl : true = _)) <| SR <| CN (zag zcm zed .nil ?_)
     refine ML rfl <| MI rfl <| CN <| zaO zcB zbd ((Res.rs_of_sl (hst.hL _ Q2))) rfl rfl Om Om <| CN <| zaa zb4 rfl <| CN <| zae (v := .int .i64 _) ty3 rfl rfl (Res.rs2_cellF ((Res.rs_of_sl (hst.hL _ Q2))) (za3 (g := zbW) (d := zaR) zbk rfl Om)) <| CN <| zaz (v1 := .int .i64 _) (v2 := .int .i64 _) zeF rfl rfl rfl <| Ret.det (zbB _ _ _) hst fun w hst => CN (SO (v := gUU _ _) hst zcm rfl rfl .u4 fun w hst => ?_)
     refine CN (SO (v := gII _ _) hst za0 rfl rfl .u3 fun w hst => ?_)
     refine NL <| zai Tryz.func89 rfl (zal (vs := lUU _ _) rfl zcm rfl rfl (zac (n := 2) (hst.objL Q4) _ rfl)) (zal (vs := lII _ _) rfl za0 rfl rfl (zac (n := 2) (hst.objL Q3) _ rfl)) ?_
     have he : zcf s = zcK s.length (za7 s).1 := if_neg g1
     rw [he, hJ.bound (by omega) (by omega) (Nn g17) (Nn g19) (.inl (by omega))]
     exact ⟨rfl, hst.pure⟩
    refine TK (t := 96) rfl (Vb (Df g21)) <| zad (v := .int .u32 _) rfl <| TK (t := 96) rfl (Vb (Df g21)) <| zbm rfl rfl <| CN <| zaq (u := .bool _) (Vb (Df g21)) rfl <| NL <| zab rfl (fun g22 => ?_) (fun g22 => ?_)
    ·refine SR <| CN (zag zcm zed .nil ?_)
     refine ML rfl <| MI rfl <| CN <| zaO zcB zbd ((Res.rs_of_sl (hst.hL _ Q2))) rfl rfl Om Om <| CN <| zaa zb4 rfl <| CN <| zae (v := .int .i64 _) ty3 rfl rfl (Res.rs2_cellF ((Res.rs_of_sl (hst.hL _ Q2))) (za3 (g := zbW) (d := zaR) zbk rfl Om)) <| CN <| zaz (v1 := .int .i64 _) (v2 := .int .i64 _) zeF rfl rfl rfl <| Ret.det (zbB _ _ _) hst fun w hst => CN (SO (v := gUU _ _) hst zcm rfl rfl .u4 fun w hst => ?_)
     refine CN (SO (v := gII _ _) hst za0 rfl rfl .u3 fun w hst => ?_)
     refine NL <| zai Tryz.func89 rfl (zal (vs := lUU _ _) rfl zcm rfl rfl (zac (n := 2) (hst.objL Q4) _ rfl)) (zal (vs := lII _ _) rfl za0 rfl rfl (zac (n := 2) (hst.objL Q3) _ rfl)) ?_
     have he : zcf s = zcK s.length (za7 s).1 := if_neg g1
     rw [he, hJ.bound (by omega) (by omega) (Nn g17) (Nn g19) (.inr (by omega))]
     exact ⟨rfl, hst.pure⟩
    refine zaf <| zam <| RG <| MI rfl <| CN <| zas rfl rfl rfl zbe <| AI rfl <| NL <| zay ?_
    exact ih8 ((k + 1, gn, (zba ((za7 s).1.getD k zaR).text).1)) _ w (Od) hst ((hJ.step2 Om Om (Nn g17) (Nn g19) (by have h1 := g22; have h2 := g21; omega))) E5 ⟨(Vi Od), trivial⟩
   exfalso
   omega
  exfalso
  omega
 refine zaJ (id := 0) rfl <| SQ <| SR <| ML rfl <| CN <| zaQ (rest := []) zcB rfl <| CN <| zaS rfl rfl <| NL <| zab rfl (fun g23 => ?_) (fun g23 => ?_)
 ·refine SR <| CN (zag zcm zed .nil ?_)
  refine MS rfl <| CN <| zaL (rest := []) ty9 rfl <| CN <| zaz (v1 := .int .i64 _) (v2 := .int .i64 _) zeF rfl rfl rfl <| Ret.det (zbB _ _ _) hst fun w hst => CN (SO (v := gUU _ _) hst zcm rfl rfl .u4 fun w hst => ?_)
  refine CN (SO (v := gII _ _) hst za0 rfl rfl .u3 fun w hst => ?_)
  refine NL <| zai Tryz.func89 rfl (zal (vs := lUU _ _) rfl zcm rfl rfl (zac (n := 2) (hst.objL Q4) _ rfl)) (zal (vs := lII _ _) rfl za0 rfl rfl (zac (n := 2) (hst.objL Q3) _ rfl)) ?_
  have he : zcf s = zcK s.length (za7 s).1 := if_neg g1
  rw [he, hJ.short (by omega) (by omega)]
  exact ⟨rfl, hst.pure⟩
 refine zaf <| SR <| CN <| zar (vs := lUU _ _) zcm rfl rfl rfl (zac (n := 2) (hst.objL Q0) _ rfl) <| CN (zag za0 zcE .nil ?_)
 refine CN (SO (v := gUU _ _) hst zcm rfl rfl .u4 fun w hst => ?_)
 refine CN (SO (v := gII _ _) hst za0 rfl rfl .u3 fun w hst => ?_)
 refine NL <| zai Tryz.func89 rfl (zal (vs := lUU _ _) rfl zcm rfl rfl (zac (n := 2) (hst.objL Q4) _ rfl)) (zal (vs := lII _ _) rfl za0 rfl rfl (zac (n := 2) (hst.objL Q3) _ rfl)) ?_
 have he : zcf s = zcK s.length (za7 s).1 := if_neg g1
 rw [he, hJ.fin (by omega) (by omega)]
 exact ⟨rfl, hst.pure⟩
end Go.SK
namespace Go.SK
open Go Go.Proofs
open Go.RowKit
theorem zkz (c : Int) (q : zdD) (w : World) : Ret Tryz.prog 123 #[.int .u8 c, str q] w (fun v w' => v = numV (namesL.find? (enS c q)) ∧ St w NoM [] [] w') := by
 refine zav (args := [.int .u8 c, str q]) Tryz.func123 rfl rfl rfl ?_
 have hst := St.init w
 have hnl : namesL.length = 30 := by decide +kernel
 refine SR <| AU rfl <| AB rfl <| NSR <| CN (Op1.call0  zum rfl  ((zhv _).mono fun v w hp => ?_))
 obtain ⟨aoN, cpN, rfl, hp⟩ := hp
 replace hst := hst.call0 hp
 clear hp
 refine AL rfl <| NL <| SQ <| SR <| AI rfl <| NL <| zao <| zaV <| zaU [(0, .int .u8 _), (1, str _), (6, .slice _ _ _)] E3 (fun (i : Nat) => [(7, .int .i64 (i : Int))]) (fun (i : Nat) => []) (fun (i : Nat) => i ≤ namesL.length ∧ (namesL.drop i).find? (enS c q) = namesL.find? (enS c q)) (fun (i : Nat) => namesL.length - i) (0) hst ⟨Nat.zero_le _, rfl⟩ ⟨rfl, trivial⟩ ?_
 intro i f w hst hJ ih1
 refine SQ <| SR <| MI rfl <| ML rfl <| CN <| zaQ (rest := []) zbE rfl <| CN <| zaS rfl rfl <| NL <| zab rfl (fun g2 => ?_) (fun g2 => ?_)
 ·refine zaf <| SQ <| zao <| SR <| ML rfl <| MI rfl ?_
  obtain ⟨bs3, rfl⟩ := Res.sl_some (hst.hL _ Q0) Om
  refine CN <| za5 zbE zbj rfl rfl Om Om <| CN <| zaa zmy rfl <| CN <| zae (v := .int .u8 _) ty5 rfl rfl (Res.sl_cell (hst.hL _ Q0) (za3 (g := zmn) (d := zcz) zeD rfl Om)) <| MC rfl <| CN <| zak rfl rfl <| MB rfl <| zan (d := 22) rfl (fun g4 => ?_) (fun g4 => ?_)
  ·refine TK (t := 22) rfl (Vb (Dt g4)) <| zad (v := .slice _ _ _) rfl <| TK (t := 22) rfl (Vb (Dt g4)) <| zad (v := .int .i64 _) rfl <| TK (t := 22) rfl (Vb (Dt g4)) <| za5 zbE zbj rfl rfl Om Om <| TK (t := 22) rfl (Vb (Dt g4)) <| zaa zq0 rfl <| TK (t := 22) rfl (Vb (Dt g4)) <| zae (v := str _) ty9 rfl rfl (Res.sl_cell (hst.hL _ Q0) (za3 (g := zmn) (d := zcz) zeD rfl Om)) <| TK (t := 22) rfl (Vb (Dt g4)) <| zad (v := str _) rfl <| TK (t := 22) rfl (Vb (Dt g4)) <| zbV rfl rfl <| CN <| zap (u := .bool _) (Vb (Dt g4)) rfl <| NL <| zaj [(0, .int .u8 _), (1, str _), (6, .slice _ _ _), (7, .int .i64 _), (30, .bool _)] E5 fun f => zab rfl (fun g5 => ?_) (fun g5 => ?_)
   ·refine SR <| ML rfl <| MI rfl <| CN <| za5 zbE zbj rfl rfl Om Om <| CN <| zaa zq1 rfl <| CN <| zae (v := .int .u32 _) zbt rfl rfl (Res.sl_cell (hst.hL _ Q0) (za3 (g := zmn) (d := zcz) zeD rfl Om)) <| AU rfl <| AB rfl <| NL <| zai Tryz.func123 rfl (TP (v := .int .u32 _) rfl) (TP (v := .bool _) rfl) ?_
    rw [zfQ (d := zcz) hJ.2 (by omega) (Dt ⟨g4, g5⟩)]
    exact ⟨rfl, hst.pure⟩
   refine zaf <| zam <| RG <| MI rfl <| CN <| zas rfl rfl rfl zbe <| AI rfl <| NL <| zay ?_
   exact ih1 (i + 1) _ w Om hst (⟨by omega, zdz (d := zcz) hJ.2 Om (Df (fun h => g5 h.2))⟩) E3 ⟨(Vi Om), trivial⟩
  refine OM (t := 22) rfl (Vb (Df g4)) rfl <| OM (t := 22) rfl (Vb (Df g4)) rfl <| OM (t := 22) rfl (Vb (Df g4)) rfl <| OM (t := 22) rfl (Vb (Df g4)) rfl <| OM (t := 22) rfl (Vb (Df g4)) rfl <| OM (t := 22) rfl (Vb (Df g4)) rfl <| OM (t := 22) rfl (Vb (Df g4)) rfl <| CN <| zaq (u := .bool _) (Vb (Df g4)) rfl <| NL <| zat (Vb (rfl : false = _)) <| zaf <| zam <| RG <| MI rfl <| CN (zas rfl rfl rfl zbe ?_)
  refine AI rfl <| NL <| zay ?_
  exact ih1 (i + 1) _ w Om hst (⟨by omega, zdz (d := zcz) hJ.2 Om (Df (fun h => g4 h.1))⟩) E3 ⟨(Vi Om), trivial⟩
 refine zaJ (id := 0) rfl <| SR <| AU rfl <| AB rfl <| NL <| zai Tryz.func123 rfl (TP (v := .int .u32 _) rfl) (TP (v := .bool _) rfl) ?_
 rw [zfR hJ.2 (by omega)]
 exact ⟨rfl, hst.pure⟩
end Go.SK
namespace Go.SK
open Go Go.Proofs
theorem ztc : TyF Tryz.prog 194 (.slice 113) 1 24 [.slice none 0 0] := zbK Kr Kr
end Go.SK
namespace Go.SK
open Go Go.Proofs
open Go.RowKit
theorem zuH  (w : World) : Ret Tryz.prog 119 #[] w (fun v w' => ∃ ao cp, v = .slice ao refT.length cp ∧ St w NoM [Res.sl ao refT.length cp 113 8 (refT.flatMap zh4)] [] w') := by
 refine zav (args := []) Tryz.func119 rfl rfl rfl ?_
 have hst := St.init w
 refine SR <| AL rfl <| NSR <| AL rfl <| NL <| SQ <| SR <| AI rfl <| NL <| zao <| zaV ?_
 replace hst := hst.pushNil 113 8
 refine zaU [] trivial (fun (q : Nat × Option Addr × Nat) => [(1, .slice q.2.1 (ziu q.1).length q.2.2), (2, .int .i64 (q.1 : Int))]) (fun (q : Nat × Option Addr × Nat) => [Res.sl q.2.1 (ziu q.1).length q.2.2 113 8 ((ziu q.1).flatMap zh4)]) (fun (q : Nat × Option Addr × Nat) => q.1 ≤ 256) (fun (q : Nat × Option Addr × Nat) => 256 - q.1) ((0, none, 0)) (by (try dsimp only); rw [zya]; exact hst) (Nat.zero_le _) ⟨(by (try dsimp only); rw [zya]; rfl), rfl, trivial⟩ ?_
 intro ⟨n, ao, cp⟩ f w hst hJ ih1
 replace hst : St _ _ ([Res.sl ao (ziu n).length cp 113 8 ((ziu n).flatMap zh4)] ++ []) _ _ := hst
 replace hJ : n ≤ 256 := hJ
 refine za2 (sl := [(1, .slice ao (ziu n).length cp), (2, .int .i64 (n : Int))]) E2 <| SQ <| SR <| MI rfl <| CN <| zaS rfl rfl <| NL <| zab rfl (fun g2 => ?_) (fun g2 => ?_)
 ·have hal := zx9 n
  refine zaf <| SQ <| zao <| SR <| MI rfl ?_
  first | refine CN (zaY ty3 zi4 rfl Wu16 ?_) | refine CN (za8 ty3 zi4 rfl ?_)
  refine CN <| Op1.call1 (v1 := .int .u16 _) zog rfl rfl <| Ret.det (zro _ _) hst fun w hst => CN <| zad (v := .tuple #[zau _ _ _ _ _ _ _ _, .bool _]) rfl <| CN <| Ex (zau _ _ _ _ _ _ _ _) rfl rfl <| CN <| Ex (.bool _) rfl rfl <| CN <| Op1.alloc hst zaM fun w b3 hst => CN (SO (v := zau _ _ _ _ _ _ _ _) hst zaM rfl rfl .u0 fun w hst => ?_)
  refine AB rfl <| NSR <| MB rfl <| NL <| zaA rfl (fun g3 => ?_) (fun g3 => ?_)
  ·refine RG <| ML rfl <| CN <| zar (vs := zaC _ _ _ _ _ _ _ _) zaM rfl rfl rfl (zac (n := 8) (hst.objL Q0) _ rfl) <| CN (zaE (z0 := [.int .u16 0, str [], .bool false, .bool false, str [], str [], .int .i64 0, .int .u8 0]) hst ztc zaM rfl rfl Kr (.c (v := zau _ _ _ _ _ _ _ _) rfl (h := .nil)) fun w b18 hst => ?_)
   refine CN (zaI (news := (zaC _ _ _ _ _ _ _ _)) hst ztc zaM rfl rfl .u2 rfl rfl rfl (zac (n := 8) (hst.objL Q0) _ rfl) rfl rfl Om fun w ao4 cp5 hst => ?_)
   replace hst := hst.drop .u1
   refine AL rfl <| NL <| zam <| RG <| MI rfl <| CN <| zas rfl rfl rfl zbe <| AI rfl <| NL <| zay ?_
   replace hst := hst.pick (.cons .u0 .nil)
   exact ih1 ((n + 1, ao4, cp5)) _ w (by (try dsimp only); omega) (by (try dsimp only); rw [zmP (by omega) g3, ← Res.sl_snoc]; exact hst) (by (try dsimp only); omega) trivial ⟨(by (try dsimp only); rw [zmP (by omega) g3]; simp only [List.length_append, List.length_singleton]; rfl), (Vi (by (try dsimp only); omega)), trivial⟩
  refine zaf <| zam <| RG <| MI rfl <| CN <| zas rfl rfl rfl zbe <| AI rfl <| NL <| zay ?_
  replace hst := hst.pick (.cons .u1 .nil)
  exact ih1 ((n + 1, ao, cp)) _ w (by (try dsimp only); omega) (by (try dsimp only); rw [zmQ (by omega) g3]; exact hst) (by (try dsimp only); omega) trivial ⟨(by (try dsimp only); rw [zmQ (by omega) g3]; rfl), (Vi (by (try dsimp only); omega)), trivial⟩
 obtain rfl : n = 256 := by omega
 rw [zpR] at hst
 refine zaJ (id := 0) rfl <| SR <| ML rfl <| AL rfl <| NL <| zah Tryz.func119 rfl (TP (v := .slice _ _ _) rfl) ?_
 exact ⟨_, _, (by rw [zpR]), hst⟩
end Go.SK
namespace Go.SK
open Go Go.Proofs
theorem ent119 : zaN Tryz.prog 119 := ⟨Tryz.f119, _, Tryz.func119, Kr, rfl⟩
end Go.SK
namespace Go.SK
open Go Go.Proofs
open Go.RowKit
theorem zpU (q : zdD) (w : World) : Ret Tryz.prog 66 #[str q] w (fun v w' => v = zv6 (refT.find? (nmF q)) ∧ St w NoM [] [] w') := by
 refine zav (args := [str q]) Tryz.func66 rfl rfl rfl ?_
 have hst := St.init w
 have hrl := zqJ
 refine SR <| CN <| Op1.alloc hst zaM fun w b2 hst => AB rfl <| NSR <| CN (Op1.call0  ent119 rfl  ((zuH _).mono fun v w hp => ?_))
 obtain ⟨aoF, cpF, rfl, hp⟩ := hp
 replace hst := hst.call0 hp
 clear hp
 refine AL rfl <| NL <| SQ <| SR <| AI rfl <| NL <| zao <| zaV <| zaU [(0, str _), (2, Pp _ _), (4, .slice _ _ _)] E3 (fun (i : Nat) => [(5, .int .i64 (i : Int))]) (fun (i : Nat) => []) (fun (i : Nat) => i ≤ refT.length ∧ (refT.drop i).find? (nmF q) = refT.find? (nmF q)) (fun (i : Nat) => refT.length - i) (0) hst ⟨Nat.zero_le _, rfl⟩ ⟨rfl, trivial⟩ ?_
 intro i f w hst hJ ih1
 refine SQ <| SR <| MI rfl <| ML rfl <| CN <| zaQ (rest := []) ztc rfl <| CN <| zaS rfl rfl <| NL <| zab rfl (fun g2 => ?_) (fun g2 => ?_)
 ·refine zaf <| SQ <| zao <| SQ ?_
  obtain ⟨bs3, rfl⟩ := Res.sl_some (hst.hL _ Q0) Om
  refine RG <| ML rfl <| MI rfl <| CN <| za5 ztc zaM rfl rfl Om Om <| CN <| zaa zjv rfl <| CN <| zae (v := str _) ty9 rfl rfl (Res.sl_cell (hst.hL _ Q0) (za3 (g := zh4) (d := zeroF) zn6 rfl Om)) <| MS rfl <| CN <| zbV rfl rfl <| NL <| zab rfl (fun g4 => ?_) (fun g4 => ?_)
  ·refine SR <| ML rfl <| MI rfl <| CN <| za5 ztc zaM rfl rfl Om Om <| CN <| zar (vs := zaC _ _ _ _ _ _ _ _) zaM rfl rfl rfl (Res.sl_cells (k := 8) (hst.hL _ Q0) _ (zbG (g := zh4) (d := zeroF) zn6 _ _ Om)) <| CN (SO (v := zau _ _ _ _ _ _ _ _) hst zaM rfl rfl .u1 fun w hst => ?_)
   refine AB rfl <| NL <| zai Tryz.func66 rfl (zal (vs := zaC _ _ _ _ _ _ _ _) rfl zaM rfl rfl (zac (n := 8) (hst.objL Q1) _ rfl)) (TP (v := .bool _) rfl) ?_
   rw [zfQ (d := zeroF) hJ.2 (by omega) (Dt g4)]
   exact ⟨rfl, hst.pure⟩
  refine zaf <| zam <| RG <| MI rfl <| CN <| zas rfl rfl rfl zbe <| AI rfl <| NL <| zay ?_
  exact ih1 (i + 1) _ w Om hst (⟨by omega, zdz (d := zeroF) hJ.2 Om (Df g4)⟩) E3 ⟨(Vi Om), trivial⟩
 refine zaJ (id := 0) rfl <| SR <| CN (zag zaM zli .nil ?_)
 refine CN (SO (v := zau _ _ _ _ _ _ _ _) hst zaM rfl rfl .u1 fun w hst => ?_)
 refine AB rfl <| NL <| zai Tryz.func66 rfl (zal (vs := zaC _ _ _ _ _ _ _ _) rfl zaM rfl rfl (zac (n := 8) (hst.objL Q1) _ rfl)) (TP (v := .bool _) rfl) ?_
 rw [zfR hJ.2 (by omega)]
 exact ⟨rfl, hst.pure⟩
end Go.SK
namespace Go.SK
open Go Go.Proofs
open Go.RowKit
theorem zss (op : Int) (h0 : 0 ≤ op) (ks : List Int) (ao : Option Addr) (cp : Nat) (w : World) (hA : (Res.rs ao ks.length 1 (ks.flatMap u8C)).holds w) (hlen : ks.length ≤ 9000000000000000000) : Ret Tryz.prog 70 #[.int .u16 op, .slice ao ks.length cp] w (fun v w' => v = zh8 (zej op ks) ∧ St w NoM [] [] w') := by
 refine zav (args := [.int .u16 op, .slice ao ks.length cp]) Tryz.func70 rfl rfl rfl ?_
 have hst : St w NoM [] [Res.rs ao ks.length 1 (ks.flatMap u8C)] w := St.init_D hA
 clear hA
 obtain ⟨fm, hfm⟩ : ∃ x, zbq op = x := ⟨_, rfl⟩
 obtain ⟨ob, hob⟩ : ∃ x, (zbv op).isSome = x := ⟨_, rfl⟩
 have hf := zeg op
 rw [hfm] at hf
 have hz : ob = false → fm = zeroF := fun e => by subst e; rw [← hfm]; exact zj0 hob
 obtain ⟨hop, hmost, hfx, hrs, _, _, _, _⟩ := hf
 refine SR <| AI rfl <| AB rfl <| NSR <| MH rfl <| CN <| Op1.call1 (v1 := .int .u16 _) zog rfl rfl <| Ret.det (zeJ hfm hob _) hst fun w hst => CN <| zad (v := .tuple #[zau _ _ _ _ _ _ _ _, .bool _]) rfl <| CN <| Ex (zau _ _ _ _ _ _ _ _) rfl rfl <| CN <| Ex (.bool _) rfl rfl <| CN <| Op1.alloc hst zaM fun w b6 hst => CN (SO (v := zau _ _ _ _ _ _ _ _) hst zaM rfl rfl .u0 fun w hst => ?_)
 refine AB rfl <| NL <| SQ <| SR <| MB rfl <| CN <| zaZ rfl <| NL <| zaA rfl (fun g1 => ?_) (fun g1 => ?_)
 ·refine SR <| AI rfl <| AB rfl <| NL <| zai Tryz.func70 rfl (TP (v := .int .i64 _) rfl) (TP (v := .bool _) rfl) ?_
  exact ⟨(congrArg zh8 (zt2 hob (by simpa using g1))).symm, hst.pure⟩
 refine zaf <| SQ <| SR <| AI rfl <| NL <| zao <| zaV <| zaU [(0, .int .u16 _), (1, .slice _ _ _), (6, Pp _ _)] E3 (fun (i : Nat) => [(8, .int .i64 (i : Int))]) (fun (i : Nat) => []) (fun (i : Nat) => i ≤ ks.length ∧ zjw fm i (ks.drop i) = zjw fm 0 ks) (fun (i : Nat) => ks.length - i) (0) hst ⟨Nat.zero_le _, rfl⟩ ⟨rfl, trivial⟩ ?_
 intro i f w hst hJ ih2
 refine SQ <| SR <| MI rfl <| ML rfl <| CN <| zaQ (rest := []) zcr rfl <| CN <| zaS rfl rfl <| NL <| zab rfl (fun g3 => ?_) (fun g3 => ?_)
 ·refine zaf <| SQ <| zao <| SR <| MH rfl <| MI rfl <| CN <| zaz (v1 := .int .u16 _) (v2 := .int .i64 _) zwk rfl rfl rfl <| Ret.det (zel Om hfm _ Om _) hst fun w hst => AC rfl <| NL <| SQ ?_
  obtain ⟨bs4, os5, rfl⟩ := Res.rs_some (hst.hD _ Q0) Om
  refine RunD.start [] hst (bs := [0, 1, 3, 7, 15, 7, 7, 103, 231, 511, 1023]) (ds := [some 27, some 28, some 29, some 30, some 31, some 32, some 33, some 34, some 35, some 36, some 37]) ⟨Kr, Kr, Kr⟩ (fun tab6 => ?_)
  refine DO tab6 1 (fun f' L' w' hc=> zad (v := .int .u8 _) (hc.old rfl rfl rfl) hc.z) <| DO tab6 2 (fun f' L' w' hc=> zak (hc.d 0 rfl rfl rfl rfl) rfl hc.z) <| DO tab6 3 (fun _ _ _ hc => zad (v := .bool _) (hc.d 1 rfl rfl rfl rfl) hc.z) <| zcM (j := 2) rfl (fun g7 => ?_) (fun g7 => ?_)
  ·refine zaX tab6 4 rfl rfl (fun f' L' w' hc=> (hc.d 2 rfl rfl rfl rfl).trans (Vb (Dt g7))) <| zaX tab6 5 rfl rfl (fun f' L' w' hc=> (hc.d 2 rfl rfl rfl rfl).trans (Vb (Dt g7))) <| zaX tab6 6 rfl rfl (fun f' L' w' hc=> (hc.d 2 rfl rfl rfl rfl).trans (Vb (Dt g7))) <| zaX tab6 7 rfl rfl (fun f' L' w' hc=> (hc.d 2 rfl rfl rfl rfl).trans (Vb (Dt g7))) <| zaX tab6 8 rfl rfl (fun f' L' w' hc=> (hc.d 2 rfl rfl rfl rfl).trans (Vb (Dt g7))) <| zaX tab6 9 rfl rfl (fun _ _ _ hc => (hc.d 2 rfl rfl rfl rfl).trans (Vb (Dt g7))) <| RunD.fin zaw tab6 hst rfl (fun f8 w R11 hs9 hd10 hr12 hst => ?_)
   obtain ⟨h27_, r0⟩ := hd10 0 27 rfl rfl
   obtain ⟨h28_, r1⟩ := hd10 1 28 rfl rfl
   obtain ⟨h29_, r2⟩ := hd10 2 29 rfl rfl
   obtain ⟨h30_, r3⟩ := hd10 3 30 rfl rfl
   obtain ⟨h31_, r4⟩ := hd10 4 31 rfl rfl
   obtain ⟨h32_, r5⟩ := hd10 5 32 rfl rfl
   obtain ⟨h33_, r6⟩ := hd10 6 33 rfl rfl
   obtain ⟨h34_, r7⟩ := hd10 7 34 rfl rfl
   obtain ⟨h35_, r8⟩ := hd10 8 35 rfl rfl
   simp only [rg9, Fc, Fn, Mc, Mn, r0, r1, r2, r3, r4, r5, r6, r7, r8, Na, An, Ca] at hst
   refine zaD (sl := [(0, .int .u16 _), (1, .slice _ _ _), (6, Pp _ _), (8, .int .i64 _), (29, .bool _), (31, _), (35, _)]) ⟨(hs9 0 rfl).trans rfl, (hs9 1 rfl).trans rfl, (hs9 6 rfl).trans rfl, (hs9 8 rfl).trans rfl, h29_, h31_, h35_, trivial⟩ ?_
   clear hs9 hd10 hr12 tab6
   refine OM (t := 29) rfl (Vb (Dt g7)) rfl <| CN <| zap (u := .bool _) (Vb (Dt g7)) rfl <| NL <| zax (Vb (rfl : true = _)) <| SR <| MI rfl <| AI rfl <| AB rfl <| NL <| zai Tryz.func70 rfl (TP (v := .int .i64 _) rfl) (TP (v := .bool _) rfl) ?_
   exact ⟨(congrArg zh8 ((zde hob hfm (by simpa using g1)).trans (zib (ziO hJ.2 (by omega) ((zpM hfm).1 (.inl g7)))))).symm, hst.pure⟩
  refine RunD.take (det _) tab6 4 rfl (fun f' L' w' hc=> (hc.d 2 rfl rfl rfl rfl).trans (Vb (Df g7))) (fun f' L' w' hc=> zad (v := .int .u8 _) (hc.old rfl rfl rfl) hc.z) <| RunD.take (det _) tab6 5 rfl (fun f' L' w' hc=> (hc.d 2 rfl rfl rfl rfl).trans (Vb (Df g7))) (fun f' L' w' hc=> Op1.call1 (v1 := .int .u8 _) zxn rfl (hc.d 3 rfl rfl rfl rfl) ((zlN _ (zcp fm i).1 (zcp fm i).2 _).mono fun v w hp => ⟨[], ⟨hp.1, rfl⟩, hc.st.keepc hp.2⟩)) <| RunD.take (det _) tab6 6 rfl (fun f' L' w' hc=> (hc.d 2 rfl rfl rfl rfl).trans (Vb (Df g7))) (fun f' L' w' hc=> zad (v := .slice _ _ _) (hc.old rfl rfl rfl) hc.z) <| RunD.take (det _) tab6 7 rfl (fun f' L' w' hc=> (hc.d 2 rfl rfl rfl rfl).trans (Vb (Df g7))) (fun f' L' w' hc=> zad (v := .int .i64 _) (hc.old rfl rfl rfl) hc.z) <| RunD.take (det _) tab6 8 rfl (fun f' L' w' hc=> (hc.d 2 rfl rfl rfl rfl).trans (Vb (Df g7))) (fun f' L' w' hc=> za5 zcr ty5 (hc.d 5 rfl rfl rfl rfl) (hc.d 6 rfl rfl rfl rfl) Om Om hc.z) <| RunD.take (det _) tab6 9 rfl (fun f' L' w' hc=> (hc.d 2 rfl rfl rfl rfl).trans (Vb (Df g7))) (fun _ _ _ hc => zae (v := .int .u8 _) ty5 rfl (hc.d 7 rfl rfl rfl rfl) (Res.rs_cell (hc.st.hD _ Q0) (zcq (g := u8C) (d := 0) zta rfl Om)) hc.z) <| RunD.fin zaw tab6 hst rfl (fun f13 w R16 hs14 hd15 hr17 hst => ?_)
  obtain ⟨h27_, r0⟩ := hd15 0 27 rfl rfl
  obtain ⟨h28_, r1⟩ := hd15 1 28 rfl rfl
  obtain ⟨h29_, r2⟩ := hd15 2 29 rfl rfl
  obtain ⟨h30_, r3⟩ := hd15 3 30 rfl rfl
  obtain ⟨h31_, r4⟩ := hd15 4 31 rfl rfl
  obtain ⟨h32_, r5⟩ := hd15 5 32 rfl rfl
  obtain ⟨h33_, r6⟩ := hd15 6 33 rfl rfl
  obtain ⟨h34_, r7⟩ := hd15 7 34 rfl rfl
  obtain ⟨h35_, r8⟩ := hd15 8 35 rfl rfl
  simp only [rg9, Fc, Fn, Mc, Mn, r0, r1, r2, r3, r4, r5, r6, r7, r8, Na, An, Ca] at hst
  refine zaD (sl := [(0, .int .u16 _), (1, .slice _ _ _), (6, Pp _ _), (8, .int .i64 _), (29, .bool _), (31, .int .u8 _), (35, .int .u8 _)]) ⟨(hs14 0 rfl).trans rfl, (hs14 1 rfl).trans rfl, (hs14 6 rfl).trans rfl, (hs14 8 rfl).trans rfl, h29_, h31_, h35_, trivial⟩ ?_
  clear hs14 hd15 hr17 tab6
  refine TK (t := 29) rfl (Vb (Df g7)) <| zaW rfl rfl <| CN <| zaq (u := .bool _) (Vb (Df g7)) rfl <| NL <| zaj [(0, .int .u16 _), (1, .slice _ _ _), (6, Pp _ _), (8, .int .i64 _), (37, .bool _)] E5 fun f => zab rfl (fun g18 => ?_) (fun g18 => ?_)
  ·refine SR <| MI rfl <| AI rfl <| AB rfl <| NL <| zai Tryz.func70 rfl (TP (v := .int .i64 _) rfl) (TP (v := .bool _) rfl) ?_
   exact ⟨(congrArg zh8 ((zde hob hfm (by simpa using g1)).trans (zib (ziO hJ.2 (by omega) ((zpM hfm).1 (.inr g18)))))).symm, hst.pure⟩
  refine zaf <| zam <| RG <| MI rfl <| CN <| zas rfl rfl rfl zbe <| AI rfl <| NL <| zay ?_
  exact ih2 (i + 1) _ w Om hst (⟨by omega, zmL hJ.2 Om (fun h => ((zpM hfm).2 h).elim g7 g18)⟩) E3 ⟨(Vi Om), trivial⟩
 have hbn := zkw hJ.2 Om
 refine zaJ (id := 0) rfl <| SR <| CN <| zaa zdx rfl <| CN <| zae (v := str _) ty9 rfl rfl (hst.cellL Q0 rfl) <| CN <| zaL (rest := []) ty9 rfl <| AI rfl <| NL <| SQ <| zao <| zaV <| zaU [(1, .slice _ _ _), (6, Pp _ _)] E2 (fun (q : Nat × Nat) => [(10, .int .i64 (q.1 : Int))]) (fun (q : Nat × Nat) => []) (fun (q : Nat × Nat) => q.1 = fm.fixed.length + q.2 * fm.rest.length ∧ (q.1 < ks.length + fm.rest.length ∨ q.2 = 0)) (fun (q : Nat × Nat) => ks.length - q.1) ((fm.fixed.length, 0)) hst ⟨by simp, .inr rfl⟩ ⟨rfl, trivial⟩ ?_
 intro ⟨m, t⟩ f w hst hM ih19
 replace hst : St _ _ ([] ++ [_]) _ _ := hst
 replace hM : m = fm.fixed.length + t * fm.rest.length ∧ (m < ks.length + fm.rest.length ∨ t = 0) := hM
 refine za2 (sl := [(10, .int .i64 (m : Int))]) ⟨rfl, trivial⟩ <| SQ <| SR <| MI rfl <| ML rfl <| CN <| zaQ (rest := []) zcr rfl <| CN <| zaS rfl rfl <| NL <| zab rfl (fun g20 => ?_) (fun g20 => ?_)
 ·have hrp : 0 < fm.rest.length := by refine Classical.byContradiction fun hn => ?_; have hr : fm.rest = [] := List.length_eq_zero_iff.1 (by omega); have := zg2 hr hbn; have h3 := hM.1; rw [show fm.rest.length = 0 by omega] at h3; omega
  refine zaf <| zao <| RG <| MI rfl <| CN <| zaa zcu rfl <| CN <| zae (v := str _) ty9 rfl rfl (hst.cellL Q0 rfl) <| CN <| zaL (rest := []) ty9 rfl <| CN <| zas rfl rfl rfl zbe <| AI rfl <| NL <| zam <| zay ?_
  exact ih19 ((m + fm.rest.length, t + 1)) _ w (by (try dsimp only); omega) hst (⟨by rw [Nat.add_mul, ← Nat.add_assoc, ← hM.1]; omega, .inl (by (try dsimp only); omega)⟩) E2 ⟨(Vi (by (try dsimp only); omega)), trivial⟩
 refine zaJ (id := 2) rfl <| SQ <| SR <| MI rfl <| ML rfl <| CN <| zaQ (rest := []) zcr rfl <| CN <| zaW rfl rfl <| NL <| zab rfl (fun g21 => ?_) (fun g21 => ?_)
 ·refine SR <| ML rfl <| CN <| zaQ (rest := []) zcr rfl <| AI rfl <| AB rfl <| NL <| zai Tryz.func70 rfl (TP (v := .int .i64 _) rfl) (TP (v := .bool _) rfl) ?_
  have hoff := ztF (f := fm) (n := ks.length) hM.1 Om hM.2 (fun hr => zg2 hr hbn)
  exact ⟨(congrArg zh8 ((zde hob hfm (by simpa using g1)).trans (zia hbn (hoff.1 (by omega))))).symm, hst.pure⟩
 refine zaf <| SR <| AI rfl <| AB rfl <| NL <| zai Tryz.func70 rfl (TP (v := .int .i64 _) rfl) (TP (v := .bool _) rfl) ?_
 have hoff := ztF (f := fm) (n := ks.length) hM.1 Om hM.2 (fun hr => zg2 hr hbn)
 exact ⟨(congrArg zh8 ((zde hob hfm (by simpa using g1)).trans (zh9 hbn (fun h => (hoff.2 h) (by omega))))).symm, hst.pure⟩
end Go.SK
namespace Go.SK
open Go Go.Proofs
theorem ent121 : zaN Tryz.prog 121 := ⟨Tryz.f121, _, Tryz.func121, Kr, rfl⟩
theorem ent67 : zaN Tryz.prog 67 := ⟨Tryz.f67, _, Tryz.func67, Kr, rfl⟩
theorem ent123 : zaN Tryz.prog 123 := ⟨Tryz.f123, _, Tryz.func123, Kr, rfl⟩
end Go.SK
namespace Go.SK
open Go Go.Proofs
open Go.RowKit
theorem zoC (t : Tx) (m : Nat) (ht : zbn t = some m) (bound : Int) (hbd : 0 ≤ bound ∧ bound < 4294967296) (w : World) : Ret Tryz.prog 67 #[str t, .int .u32 bound] w (fun v w' => v = .tuple #[.int .u32 (plR t : Int), .bool (decide (1 ≤ (plR t : Int) ∧ (plR t : Int) < bound))] ∧ St w NoM [] [] w') := by
 refine zav (args := [str t, .int .u32 bound]) Tryz.func67 rfl rfl rfl ?_
 have hst := St.init w
 have hlt := (zoo ht).len
 have hpr := zj3 ht
 refine SR <| AU rfl <| AB rfl <| NSR <| MS rfl <| CN <| Op1.call1 (v1 := str _) zok rfl rfl <| Ret.det (zfB _ _ (by first | omega | (simp only [List.length_drop]; omega))) hst fun w hst => CN <| zad (v := .tuple #[.int .u64 _, .bool _]) rfl <| CN <| Ex (.int .u64 _) rfl rfl <| CN <| Ex (.bool _) rfl rfl <| CN <| Op1.assign (v := .int .u64 _) rfl <| AB rfl <| NL ?_
 refine SR <| CN (zad (v := .int .u64 _) rfl ?_)
 first | refine CN (zaY zbF zbt rfl zkM ?_) | refine CN (za8 zbF zbt rfl ?_)
 refine CN <| zad (v := .int .u64 _) rfl <| CN <| zbo rfl rfl <| MB rfl <| zan (d := 17) rfl (fun g1 => ?_) (fun g1 => ?_)
 ·refine TK (t := 17) rfl (Vb (Dt g1)) <| zad (v := .int .u64 _) rfl <| TK (t := 17) rfl (Vb (Dt g1)) (zad (v := .int .u32 _) rfl ?_)
  first | refine TK (t := 17) rfl (Vb (Dt g1)) (zaY zbt zbF rfl zdV ?_) | refine TK (t := 17) rfl (Vb (Dt g1)) (za8 zbt zbF rfl ?_)
  refine TK (t := 17) rfl (Vb (Dt g1)) <| zaS rfl rfl <| CN <| zap (u := .bool _) (Vb (Dt g1)) rfl <| AU rfl <| AB rfl <| NL <| zai Tryz.func67 rfl (TP (v := .int .u32 _) rfl) (TP (v := .bool _) rfl) <| ⟨congrArg (fun b => Value.tuple #[.int .u32 (plR t : Int), .bool b]) ?_, hst.pure⟩
  first | (rw [decide_eq_decide]; omega) | exact (Df (by omega)).symm | exact (Dt (by omega)).symm
 refine OM (t := 17) rfl (Vb (Df g1)) rfl <| OM (t := 17) rfl (Vb (Df g1)) rfl <| OM (t := 17) rfl (Vb (Df g1)) rfl <| OM (t := 17) rfl (Vb (Df g1)) rfl <| CN <| zaq (u := .bool _) (Vb (Df g1)) rfl <| AU rfl <| AB rfl <| NL <| zai Tryz.func67 rfl (TP (v := .int .u32 _) rfl) (TP (v := .bool _) rfl) <| ⟨congrArg (fun b => Value.tuple #[.int .u32 (plR t : Int), .bool b]) ?_, hst.pure⟩
 first | (rw [decide_eq_decide]; omega) | exact (Df (by omega)).symm | exact (Dt (by omega)).symm
theorem zpW (c : Int) (w : World) : Ret Tryz.prog 121 #[.int .u8 c] w (fun v w' => v = .int .u8 (zd2 c) ∧ St w NoM [] [] w') := by
 refine zav (args := [.int .u8 c]) Tryz.func121 rfl rfl rfl ?_
 have hst := St.init w
 refine SR <| AC rfl <| NL <| SQ <| SR <| MC rfl <| CN <| zak rfl rfl <| NL <| zab rfl (fun g1 => ?_) (fun g1 => ?_)
 ·refine SR <| AC rfl <| NL <| zah Tryz.func121 rfl (TP (v := .int .u8 _) rfl) <| ⟨congrArg (Value.int .u8) ?_, hst.pure⟩
  unfold zd2
  (repeat (split <;> try omega))
 refine zaf <| SQ <| SR <| MC rfl <| CN <| zak rfl rfl <| NL <| zab rfl (fun g2 => ?_) (fun g2 => ?_)
 ·refine SR <| AC rfl <| NL <| zah Tryz.func121 rfl (TP (v := .int .u8 _) rfl) <| ⟨congrArg (Value.int .u8) ?_, hst.pure⟩
  unfold zd2
  (repeat (split <;> try omega))
 refine zaf <| SQ <| SR <| MC rfl <| CN <| zak rfl rfl <| NL <| zab rfl (fun g3 => ?_) (fun g3 => ?_)
 ·refine SR <| AC rfl <| NL <| zah Tryz.func121 rfl (TP (v := .int .u8 _) rfl) <| ⟨congrArg (Value.int .u8) ?_, hst.pure⟩
  unfold zd2
  (repeat (split <;> try omega))
 refine zaf <| SR <| AC rfl <| NL <| zah Tryz.func121 rfl (TP (v := .int .u8 _) rfl) <| ⟨congrArg (Value.int .u8) ?_, hst.pure⟩
 unfold zd2
 (repeat (split <;> try omega))
theorem zgy (c : Int) (hc : 0 ≤ c ∧ c ≤ 255) (t : TokL) (bound : Int) (hbd : 0 ≤ bound ∧ bound < 4294967296) (hpl : t.kind = 2 → ∃ m, zbn t.text = some m) (htl : t.text.length ≤ 1099511627776) (w : World) : Ret Tryz.prog 68 #[.int .u8 c, .agg #[.int .u8 t.kind, str t.text, .int .i64 t.at_], .int .u32 bound] w (fun v w' => v = .tuple #[.agg #[.int .u8 (zb9 c t bound).1.kind, .int .u32 (zb9 c t bound).1.n, str (zb9 c t bound).1.s], .int .i64 (zb9 c t bound).2] ∧ St w NoM [] [] w') := by
 refine zav (args := [.int .u8 c, .agg #[.int .u8 t.kind, str t.text, .int .i64 t.at_], .int .u32 bound]) Tryz.func68 rfl rfl rfl ?_
 have hst := St.init w
 refine SR <| CN <| zbi (v := zbO _ _ _) hst rfl rfl fun w b4 hst => CN <| Op1.alloc hst za9 fun w b6 hst => AI rfl <| NL <| SQ <| SQ <| RunD.start [] hst (bs := [0, 1, 3, 7, 15, 7, 39, 127, 255]) (ds := [some 15, some 16, some 17, some 18, some 19, some 20, some 21, some 22, some 23]) ⟨Kr, Kr, Kr⟩ (fun tab1 => ?_)
 refine DO tab1 1 (fun f' L' w' hc=> zad (v := .int .u8 _) (hc.old rfl rfl rfl) hc.z) <| DO tab1 2 (fun f' L' w' hc=> zak (hc.d 0 rfl rfl rfl rfl) rfl hc.z) <| DO tab1 3 (fun _ _ _ hc => zad (v := .bool _) (hc.d 1 rfl rfl rfl rfl) hc.z) <| zcM (j := 2) rfl (fun g2 => ?_) (fun g2 => ?_)
 ·refine zaX tab1 4 rfl rfl (fun f' L' w' hc=> (hc.d 2 rfl rfl rfl rfl).trans (Vb (Dt g2))) <| zaX tab1 5 rfl rfl (fun f' L' w' hc=> (hc.d 2 rfl rfl rfl rfl).trans (Vb (Dt g2))) <| zaX tab1 6 rfl rfl (fun f' L' w' hc=> (hc.d 2 rfl rfl rfl rfl).trans (Vb (Dt g2))) <| zaX tab1 7 rfl rfl (fun _ _ _ hc => (hc.d 2 rfl rfl rfl rfl).trans (Vb (Dt g2))) <| RunD.fin zaw tab1 hst rfl (fun f3 w R6 hs4 hd5 hr7 hst => ?_)
  obtain ⟨h15_, r0⟩ := hd5 0 15 rfl rfl
  obtain ⟨h16_, r1⟩ := hd5 1 16 rfl rfl
  obtain ⟨h17_, r2⟩ := hd5 2 17 rfl rfl
  obtain ⟨h18_, r3⟩ := hd5 3 18 rfl rfl
  obtain ⟨h19_, r4⟩ := hd5 4 19 rfl rfl
  obtain ⟨h20_, r5⟩ := hd5 5 20 rfl rfl
  obtain ⟨h21_, r6⟩ := hd5 6 21 rfl rfl
  simp only [rg7, Fc, Fn, Mc, Mn, r0, r1, r2, r3, r4, r5, r6, Na, An, Ca] at hst
  refine zaD (sl := [(0, .int .u8 _), (2, .int .u32 _), (4, Pp _ _), (6, Pp _ _), (17, .bool _), (19, _), (21, _)]) ⟨(hs4 0 rfl).trans rfl, (hs4 2 rfl).trans rfl, (hs4 4 rfl).trans rfl, (hs4 6 rfl).trans rfl, h17_, h19_, h21_, trivial⟩ ?_
  clear hs4 hd5 hr7 tab1
  refine OM (t := 17) rfl (Vb (Dt g2)) rfl <| CN <| zap (u := .bool _) (Vb (Dt g2)) rfl <| NL <| zax (Vb (rfl : true = _)) <| SR <| CN (zag za9 zcW .nil ?_)
  refine CN (SO (v := zcy _ _ _) hst za9 rfl rfl .u0 fun w hst => ?_)
  refine AI rfl <| NL <| zai Tryz.func68 rfl (zal (vs := zcX _ _ _) rfl za9 rfl rfl (zac (n := 3) (hst.objL Q0) _ rfl)) (TP (v := .int .i64 _) rfl) ?_
  subst g2
  rw [zoy]
  exact ⟨rfl, hst.pure⟩
 refine RunD.take (det _) tab1 4 rfl (fun f' L' w' hc=> (hc.d 2 rfl rfl rfl rfl).trans (Vb (Df g2))) (fun f' L' w' hc=> zaa zfc (hc.old (v := Pp _ _) rfl rfl rfl) hc.z) <| RunD.take (det _) tab1 5 rfl (fun f' L' w' hc=> (hc.d 2 rfl rfl rfl rfl).trans (Vb (Df g2))) (fun f' L' w' hc=> zae (v := .int .u8 _) ty5 rfl (hc.d 3 rfl rfl rfl rfl) (hc.st.cellL (List.mem_append_right _ Q1) rfl) hc.z) <| RunD.take (det _) tab1 6 rfl (fun f' L' w' hc=> (hc.d 2 rfl rfl rfl rfl).trans (Vb (Df g2))) (fun f' L' w' hc=> zad (v := .int .u8 _) (hc.old rfl rfl rfl) hc.z) <| RunD.take (det _) tab1 7 rfl (fun f' L' w' hc=> (hc.d 2 rfl rfl rfl rfl).trans (Vb (Df g2))) (fun _ _ _ hc => Op1.call1 (v1 := .int .u8 _) ent121 rfl (hc.d 5 rfl rfl rfl rfl) ((zpW _ _).mono fun v w hp => ⟨[], ⟨hp.1, rfl⟩, hc.st.keepc hp.2⟩)) <| RunD.fin zaw tab1 hst rfl (fun f8 w R11 hs9 hd10 hr12 hst => ?_)
 obtain ⟨h15_, r0⟩ := hd10 0 15 rfl rfl
 obtain ⟨h16_, r1⟩ := hd10 1 16 rfl rfl
 obtain ⟨h17_, r2⟩ := hd10 2 17 rfl rfl
 obtain ⟨h18_, r3⟩ := hd10 3 18 rfl rfl
 obtain ⟨h19_, r4⟩ := hd10 4 19 rfl rfl
 obtain ⟨h20_, r5⟩ := hd10 5 20 rfl rfl
 obtain ⟨h21_, r6⟩ := hd10 6 21 rfl rfl
 simp only [rg7, Fc, Fn, Mc, Mn, r0, r1, r2, r3, r4, r5, r6, Na, An, Ca] at hst
 refine zaD (sl := [(0, .int .u8 _), (2, .int .u32 _), (4, Pp _ _), (6, Pp _ _), (17, .bool _), (19, .int .u8 _), (21, .int .u8 _)]) ⟨(hs9 0 rfl).trans rfl, (hs9 2 rfl).trans rfl, (hs9 4 rfl).trans rfl, (hs9 6 rfl).trans rfl, h17_, h19_, h21_, trivial⟩ ?_
 clear hs9 hd10 hr12 tab1
 refine TK (t := 17) rfl (Vb (Df g2)) <| zaW rfl rfl <| CN <| zaq (u := .bool _) (Vb (Df g2)) rfl <| NL <| zab rfl (fun g13 => ?_) (fun g13 => ?_)
 ·refine SR <| CN (zag za9 zcW .nil ?_)
  refine CN (SO (v := zcy _ _ _) hst za9 rfl rfl .u0 fun w hst => ?_)
  refine AI rfl <| NL <| zai Tryz.func68 rfl (zal (vs := zcX _ _ _) rfl za9 rfl rfl (zac (n := 3) (hst.objL Q0) _ rfl)) (TP (v := .int .i64 _) rfl) ?_
  rw [zeH g2 g13]
  exact ⟨rfl, hst.pure⟩
 refine zaf <| SQ <| SR <| MC rfl <| CN <| zak rfl rfl <| NL <| zab rfl (fun g14 => ?_) (fun g14 => ?_)
 ·have hk : t.kind = zd2 c := (Nn g13)
  subst g14
  replace hk : t.kind = 2 := hk.trans De
  obtain ⟨m, hm⟩ := hpl hk
  refine SR <| CN <| zaa zbl rfl <| CN <| zae (v := str _) ty9 rfl rfl (hst.cellL Q1 rfl) <| MU rfl <| CN <| zaz (v1 := str _) (v2 := .int .u32 _) ent67 rfl rfl rfl <| Ret.det (zoC _ m hm bound hbd _) hst fun w hst => CN <| zad (v := .tuple #[.int .u32 _, .bool _]) rfl <| CN <| Ex (.int .u32 _) rfl rfl <| CN <| Ex (.bool _) rfl rfl <| AU rfl <| AB rfl <| NL <| zaj [(6, Pp _ _), (8, .int .u32 _), (9, .bool _)] E3 fun f => SQ <| SQ ?_
  refine RG <| MB rfl <| CN <| zaZ rfl <| NL <| zaA rfl (fun g15 => ?_) (fun g15 => ?_)
  ·refine SR <| CN (zag za9 zcW .nil ?_)
   refine CN (SO (v := zcy _ _ _) hst za9 rfl rfl .u0 fun w hst => ?_)
   refine AI rfl <| NL <| zai Tryz.func68 rfl (zal (vs := zcX _ _ _) rfl za9 rfl rfl (zac (n := 3) (hst.objL Q0) _ rfl)) (TP (v := .int .i64 _) rfl) ?_
   rw [zjx hk (zw1 g15)]
   exact ⟨rfl, hst.pure⟩
  refine zaf <| SR <| MU rfl <| CN (zag za9 zcW (.c (v := .int .u8 _) rfl (h := (.c (v := .int .u32 _) rfl (h := .nil)))) ?_)
  refine CN (SO (v := zcy _ _ _) hst za9 rfl rfl .u0 fun w hst => ?_)
  refine AI rfl <| NL <| zai Tryz.func68 rfl (zal (vs := zcX _ _ _) rfl za9 rfl rfl (zac (n := 3) (hst.objL Q0) _ rfl)) (TP (v := .int .i64 _) rfl) ?_
  rw [zmN hk (znZ g15).2, (znZ g15).1]
  exact ⟨rfl, hst.pure⟩
 refine zaf <| SQ <| SR <| MC rfl <| CN <| zak rfl rfl <| NL <| zab rfl (fun g16 => ?_) (fun g16 => ?_)
 ·have hk : t.kind = zd2 c := (Nn g13)
  subst g16
  replace hk : t.kind = 3 := hk.trans De
  refine SR <| CN <| zaa zbl rfl <| CN <| zae (v := str _) ty9 rfl rfl (hst.cellL Q1 rfl) <| CN <| Op1.call1 (v1 := str _) zoj rfl rfl <| Ret.det (zeM t.text _ Om) hst fun w hst => CN <| zad (v := .tuple #[.int .u32 _, .int .i64 _]) rfl <| CN <| Ex (.int .u32 _) rfl rfl <| CN <| Ex (.int .i64 _) rfl rfl <| AU rfl <| AI rfl <| NL <| zaj [(6, Pp _ _), (10, .int .u32 _), (11, .int .i64 _)] E3 fun f => SQ <| SQ <| RG ?_
  refine MI rfl <| CN <| zaW rfl rfl <| NL <| zab rfl (fun g17 => ?_) (fun g17 => ?_)
  ·refine SR <| CN (zag za9 zcW .nil ?_)
   refine MI rfl <| CN (SO (v := zcy _ _ _) hst za9 rfl rfl .u0 fun w hst => ?_)
   refine AI rfl <| NL <| zai Tryz.func68 rfl (zal (vs := zcX _ _ _) rfl za9 rfl rfl (zac (n := 3) (hst.objL Q0) _ rfl)) (TP (v := .int .i64 _) rfl) ?_
   rw [zox hk g17]
   exact ⟨rfl, hst.pure⟩
  refine zaf <| SR <| MU rfl <| CN (zag za9 zcW (.c (v := .int .u8 _) rfl (h := (.c (v := .int .u32 _) rfl (h := .nil)))) ?_)
  refine CN (SO (v := zcy _ _ _) hst za9 rfl rfl .u0 fun w hst => ?_)
  refine AI rfl <| NL <| zai Tryz.func68 rfl (zal (vs := zcX _ _ _) rfl za9 rfl rfl (zac (n := 3) (hst.objL Q0) _ rfl)) (TP (v := .int .i64 _) rfl) ?_
  rw [zrn hk (Nn g17)]
  exact ⟨rfl, hst.pure⟩
 refine zaf <| SQ <| SR <| MC rfl <| CN <| zak rfl rfl <| NL <| zab rfl (fun g18 => ?_) (fun g18 => ?_)
 ·have hk : t.kind = zd2 c := (Nn g13)
  subst g18
  replace hk : t.kind = 4 := hk.trans De
  refine SQ <| SR <| AI rfl <| NL <| zao <| zaj [(4, Pp _ _), (6, Pp _ _), (12, .int .i64 _)] E3 fun f => zaV <| zaU [(4, Pp _ _), (6, Pp _ _)] E2 (fun (qq : Nat) => [(12, .int .i64 (qq : Int))]) (fun (qq : Nat) => []) (fun (qq : Nat) => qq ≤ t.text.length ∧ ∀ j, j < qq → t.text.getD j 0 ≠ 0) (fun (qq : Nat) => t.text.length - qq) (0) hst ⟨Nat.zero_le _, fun j hj => absurd hj (Nat.not_lt_zero _)⟩ ⟨rfl, trivial⟩ ?_
  intro i f w hst hJ ih19
  replace hst : St _ _ ([] ++ [_, _]) _ _ := hst
  replace hJ : i ≤ t.text.length ∧ ∀ j, j < i → t.text.getD j 0 ≠ 0 := hJ
  refine za2 (sl := [(12, .int .i64 (i : Int))]) ⟨rfl, trivial⟩ ?_
  have hj1 := hJ.1
  have hidx : (t.text.getD ((i : Int).toNat) 0).toNat = (t.text.getD i 0).toNat := rfl
  refine SQ <| SR <| MI rfl <| CN <| zaa zbl rfl <| CN <| zae (v := str _) ty9 rfl rfl (hst.cellL Q1 rfl) <| CN <| zaL (rest := []) ty9 rfl <| CN <| zaS rfl rfl <| NL <| zab rfl (fun g20 => ?_) (fun g20 => ?_)
  ·refine zaf <| SQ <| zao <| SR <| CN <| zaa zbl rfl <| CN <| zae (v := str _) ty9 rfl rfl (hst.cellL Q1 rfl) <| MI rfl <| CN <| zaH ty9 rfl rfl Om Om <| CN <| zak rfl rfl <| NL <| zab rfl (fun g21 => ?_) (fun g21 => ?_)
   ·refine SR <| CN (zag za9 zcW .nil ?_)
    refine CN (SO (v := zcy _ _ _) hst za9 rfl rfl .u0 fun w hst => ?_)
    refine AI rfl <| NL <| zai Tryz.func68 rfl (zal (vs := zcX _ _ _) rfl za9 rfl rfl (zac (n := 3) (hst.objL Q0) _ rfl)) (TP (v := .int .i64 _) rfl) ?_
    have hz : zbS t.text = i := zjB (by omega) (UInt8.toNat_inj.1 (by rw [← hidx]; show _ = 0; omega)) hJ.2
    rw [zow hk (by rw [hz]; omega)]
    exact ⟨rfl, hst.pure⟩
   refine zaf <| zam <| RG <| MI rfl <| CN <| zas rfl rfl rfl zbe <| AI rfl <| NL <| zay ?_
   exact ih19 (i + 1) _ w ((by omega)) hst (⟨by omega, zkd hJ.2 (fun e => g21 (by rw [hidx, e]; rfl))⟩) E2 ⟨(Vi (by omega)), trivial⟩
  refine zaJ (id := 0) rfl <| SR <| CN <| zaa zbl rfl <| CN <| zae (v := str _) ty9 rfl rfl (hst.cellL Q1 rfl) <| CN (zag za9 zcW (.c (v := .int .u8 _) rfl (h := (.c (v := str _) rfl (h := .nil)))) ?_)
  refine CN (SO (v := zcy _ _ _) hst za9 rfl rfl .u0 fun w hst => ?_)
  refine AI rfl <| NL <| zai Tryz.func68 rfl (zal (vs := zcX _ _ _) rfl za9 rfl rfl (zac (n := 3) (hst.objL Q0) _ rfl)) (TP (v := .int .i64 _) rfl) ?_
  have hz : zbS t.text = t.text.length := zfg (fun q hq => hJ.2 q Om)
  rw [zrm hk hz]
  exact ⟨rfl, hst.pure⟩
 refine zaf <| SR <| MC rfl <| CN <| zaa zbl rfl <| CN <| zae (v := str _) ty9 rfl rfl (hst.cellL Q1 rfl) <| CN <| zaz (v1 := .int .u8 _) (v2 := str _) ent123 rfl rfl rfl <| Ret.det (zkz c t.text _) hst fun w hst => CN <| zad (v := .tuple #[.int .u32 _, .bool _]) rfl <| CN <| Ex (.int .u32 _) rfl rfl <| CN <| Ex (.bool _) rfl rfl <| AU rfl <| AB rfl <| NL <| zaj [(6, Pp _ _), (13, .int .u32 _), (14, .bool _)] E3 fun f => SQ ?_
 refine SR <| MB rfl <| CN <| zaZ rfl <| NL <| zaA rfl (fun g22 => ?_) (fun g22 => ?_)
 ·refine SR <| CN (zag za9 zcW .nil ?_)
  refine CN (SO (v := zcy _ _ _) hst za9 rfl rfl .u0 fun w hst => ?_)
  refine AI rfl <| NL <| zai Tryz.func68 rfl (zal (vs := zcX _ _ _) rfl za9 rfl rfl (zac (n := 3) (hst.objL Q0) _ rfl)) (TP (v := .int .i64 _) rfl) ?_
  rw [zlM g2 g14 g16 g18 (((Nn g13)).trans (zfw g14 g16 g18)) (by simpa using g22)]
  exact ⟨rfl, hst.pure⟩
 refine zaf <| SR <| MU rfl <| CN (zag za9 zcW (.c (v := .int .u8 _) rfl (h := (.c (v := .int .u32 _) rfl (h := .nil)))) ?_)
 refine CN (SO (v := zcy _ _ _) hst za9 rfl rfl .u0 fun w hst => ?_)
 refine AI rfl <| NL <| zai Tryz.func68 rfl (zal (vs := zcX _ _ _) rfl za9 rfl rfl (zac (n := 3) (hst.objL Q0) _ rfl)) (TP (v := .int .i64 _) rfl) ?_
 rw [zoz g2 g14 g16 g18 (((Nn g13)).trans (zfw g14 g16 g18)) (by simpa using g22)]
 exact ⟨rfl, hst.pure⟩
end Go.SK
namespace Go.SK
open Go Go.Proofs
open Go.RowKit
theorem zoA {q : zdD} {fm : FormL} {ob : Bool} (h1 : (refT.find? (nmF q)).getD zeroF = fm) (h2 : (refT.find? (nmF q)).isSome = ob) (w : World) : Ret Tryz.prog 66 #[str q] w fun v w' => v = .tuple #[.agg (zh4 fm).toArray, .bool ob] ∧ St w NoM [] [] w' := by
 subst h1; subst h2; exact zpU q w
end Go.SK
namespace Go.SK
open Go Go.Proofs
theorem ent66 : zaN Tryz.prog 66 := ⟨Tryz.f66, _, Tryz.func66, Kr, rfl⟩
theorem ent68 : zaN Tryz.prog 68 := ⟨Tryz.f68, _, Tryz.func68, Kr, rfl⟩
theorem ent70 : zaN Tryz.prog 70 := ⟨Tryz.f70, _, Tryz.func70, Kr, rfl⟩
end Go.SK
namespace Go.SK
open Go Go.Proofs
open Go.RowKit
theorem zmS {fm : FormL} (hop : zbq fm.op = fm) (h0 : 0 ≤ fm.op) (x : Int) (j : Nat) (hx : x = (j : Int)) (hb : j ≤ 9000000000000000000) (w : World) : Ret Tryz.prog 69 #[.int .u16 fm.op, .int .i64 x] w fun v w' => v = .int .u8 (zaP fm (j : Int)) ∧ St w NoM [] [] w' := by
 subst hx
 exact zel h0 hop (j : Int) Om w
theorem zpX (s : Tx) (bound : Int) (w : World) (hG : LxG.holds w) (hl : s.length ≤ 1099511627776) (hl24 : s.length ≤ 16777216) (hbd : 0 ≤ bound ∧ bound < 4294967296) : Ret Tryz.prog 35 #[str s, .int .u32 bound] w (fun v w' => ∃ xo xc, (zaT s bound).1.Sm ∧ v = .tuple #[.agg #[.int .u16 (zaT s bound).1.op, .int .u32 (zaT s bound).1.ty, .int .u32 (zaT s bound).1.res, .slice xo (zaT s bound).1.args.length xc], .bool (zaT s bound).2.1, .agg #[.int .i64 (zaT s bound).2.2.1, .int .i64 (zaT s bound).2.2.2]] ∧ St w NoM [Res.sl xo (zaT s bound).1.args.length xc 110 3 ((zaT s bound).1.args.flatMap zff)] [] w') := by
 refine zav (args := [str s, .int .u32 bound]) Tryz.func35 rfl rfl rfl ?_
 have hst : St w NoM [] [LxG] w := St.init_Ds (by simp only [List.forall_mem_cons]; exact ⟨hG, fun _ h => absurd h List.not_mem_nil⟩)
 have hll := zhH s
 have hts := zgi s
 refine SR <| CN <| Op1.alloc hst zbp fun w b4 hst => AB rfl <| CN <| Op1.alloc hst za0 fun w b6 hst => NSR <| CN <| Op1.alloc hst zbp fun w b7 hst => NSR <| MS rfl <| CN (Op1.call1 (v1 := str _) zxX rfl rfl ((zgA s _ hl).mono fun v w hp => ?_))
 obtain ⟨ao_x1, cp_x1, rfl, hp⟩ := hp
 replace hst := hst.call0 hp
 clear hp
 refine CN <| zad (v := .tuple #[.slice _ _ _, gII _ _]) rfl <| CN <| Ex (.slice _ _ _) rfl rfl <| CN <| Ex (gII _ _) rfl rfl <| CN <| Op1.alloc hst za0 fun w b9 hst => AL rfl <| CN (SO (v := gII _ _) hst za0 rfl rfl .u0 fun w hst => ?_)
 refine NL <| SQ <| SR <| CN <| zaa zbr rfl <| CN <| zae (v := .int .i64 _) zcO rfl rfl (hst.cellL Q0 rfl) <| CN <| zaW rfl rfl <| MB rfl <| zan (d := 34) rfl (fun g1 => ?_) (fun g1 => ?_)
 ·refine OM (t := 34) rfl (Vb (Dt g1)) rfl <| OM (t := 34) rfl (Vb (Dt g1)) rfl <| OM (t := 34) rfl (Vb (Dt g1)) rfl <| CN <| zap (u := .bool _) (Vb (Dt g1)) rfl <| NL <| zax (Vb (rfl : true = _)) <| SQ ?_
  replace hst := hst.pick (.cons .u4 (.cons .u0 (.cons .u0 (.cons .u0 (.cons .u0 .nil)))))
  apply RunD.start [(2, Res.row b4 44 _, Res.row b4 44 _)] hst (bs := [0, 0, 1, 5, 15]) (ds := [some 39, some 40, none, some 5, none]) (htab := ⟨Kr, Kr, Kr⟩)
  intro tab2
  refine DO tab2 1 (fun f' L' w' hc=> zar (vs := zbg _ _ _ _ _ _) zbp rfl (hc.old (v := Pp _ _) rfl rfl rfl) rfl (zac (n := 4) (hc.st.objL (List.mem_append_right _ Q2)) _ rfl) hc.z) <| DO tab2 2 (fun f' L' w' hc=> zar (vs := lII _ _) za0 rfl (hc.old (v := Pp _ _) rfl rfl rfl) rfl (zac (n := 2) (hc.st.objL (List.mem_append_right _ Q0)) _ rfl) hc.z) <| zcd tab2 3 Q0 (fun f' L' L2 w' hc hsel => zbC (v := zbb _ _ _ _ _ _) hc.st zbp (hc.old (v := Pp _ _) rfl rfl rfl) (hc.d 0 rfl rfl rfl rfl) rfl rfl rfl hsel (by repeat (first | exact Put.nil | apply Put.put | apply Put.skip)) fun w hst => ⟨rfl, hst⟩) ?_
  refine DO tab2 4 (fun _ _ _ hc => Op1.assign (v := .bool _) rfl hc.z) <| RunD.fin zaw tab2 hst rfl (fun f3 w R6 hs4 hd5 hr7 hst => ?_)
  obtain ⟨h39_, r0⟩ := hd5 0 39 rfl rfl
  obtain ⟨h40_, r1⟩ := hd5 1 40 rfl rfl
  obtain ⟨_, _, r2⟩ := hr7 2 rfl
  obtain ⟨h5_, r3⟩ := hd5 3 5 rfl rfl
  simp only [rg4, Fc, Fn, Mc, Mn, r0, r1, r2, r3, Na, An, Ca] at hst
  refine zaD (sl := [(4, Pp _ _), (5, .bool _), (6, Pp _ _), (40, gII _ _)]) ⟨(hs4 4 rfl).trans rfl, h5_, (hs4 6 rfl).trans rfl, h40_, trivial⟩ ?_
  clear hs4 hd5 hr7 tab2
  refine CN (SO (v := gII _ _) hst za0 rfl rfl .u4 fun w hst => ?_)
  refine NL <| zbf Tryz.func35 rfl (zal (vs := zbg _ _ _ _ _ _) rfl zbp rfl rfl (zac (n := 4) (hst.objL Q0) _ rfl)) (TP (v := .bool _) rfl) (zal (vs := lII _ _) rfl za0 rfl rfl (zac (n := 2) (hst.objL Q4) _ rfl)) ?_
  replace hst := hst.pick .nil
  have he : zaT s bound = (zeroIL, false, (za7 s).2) := znR g1
  rw [he]
  exact ⟨none, 0, zb7, rfl, (hst.pushNil 110 3).noD⟩
 refine TK (t := 34) rfl (Vb (Df g1)) <| zad (v := .slice _ _ _) rfl <| TK (t := 34) rfl (Vb (Df g1)) <| zaQ (rest := []) zcB rfl <| TK (t := 34) rfl (Vb (Df g1)) <| zak rfl rfl <| CN <| zaq (u := .bool _) (Vb (Df g1)) rfl <| NL <| zaj [(0, str _), (1, .int .u32 _), (4, Pp _ _), (6, Pp _ _), (7, Pp _ _), (8, .slice _ _ _), (9, Pp _ _), (38, .bool _)] E8 fun f => zab rfl (fun g8 => ?_) (fun g8 => ?_)
 ·refine SQ ?_
  replace hst := hst.pick (.cons .u4 (.cons .u0 (.cons .u0 (.cons .u0 (.cons .u0 .nil)))))
  apply RunD.start [(2, Res.row b4 44 _, Res.row b4 44 _)] hst (bs := [0, 0, 1, 5, 15]) (ds := [some 39, some 40, none, some 5, none]) (htab := ⟨Kr, Kr, Kr⟩)
  intro tab9
  refine DO tab9 1 (fun f' L' w' hc=> zar (vs := zbg _ _ _ _ _ _) zbp rfl (hc.old (v := Pp _ _) rfl rfl rfl) rfl (zac (n := 4) (hc.st.objL (List.mem_append_right _ Q2)) _ rfl) hc.z) <| DO tab9 2 (fun f' L' w' hc=> zar (vs := lII _ _) za0 rfl (hc.old (v := Pp _ _) rfl rfl rfl) rfl (zac (n := 2) (hc.st.objL (List.mem_append_right _ Q0)) _ rfl) hc.z) <| zcd tab9 3 Q0 (fun f' L' L2 w' hc hsel => zbC (v := zbb _ _ _ _ _ _) hc.st zbp (hc.old (v := Pp _ _) rfl rfl rfl) (hc.d 0 rfl rfl rfl rfl) rfl rfl rfl hsel (by repeat (first | exact Put.nil | apply Put.put | apply Put.skip)) fun w hst => ⟨rfl, hst⟩) ?_
  refine DO tab9 4 (fun _ _ _ hc => Op1.assign (v := .bool _) rfl hc.z) <| RunD.fin zaw tab9 hst rfl (fun f10 w R13 hs11 hd12 hr14 hst => ?_)
  obtain ⟨h39_, r0⟩ := hd12 0 39 rfl rfl
  obtain ⟨h40_, r1⟩ := hd12 1 40 rfl rfl
  obtain ⟨_, _, r2⟩ := hr14 2 rfl
  obtain ⟨h5_, r3⟩ := hd12 3 5 rfl rfl
  simp only [rg4, Fc, Fn, Mc, Mn, r0, r1, r2, r3, Na, An, Ca] at hst
  refine zaD (sl := [(4, Pp _ _), (5, .bool _), (6, Pp _ _), (40, gII _ _)]) ⟨(hs11 4 rfl).trans rfl, h5_, (hs11 6 rfl).trans rfl, h40_, trivial⟩ ?_
  clear hs11 hd12 hr14 tab9
  refine CN (SO (v := gII _ _) hst za0 rfl rfl .u4 fun w hst => ?_)
  refine NL <| zbf Tryz.func35 rfl (zal (vs := zbg _ _ _ _ _ _) rfl zbp rfl rfl (zac (n := 4) (hst.objL Q0) _ rfl)) (TP (v := .bool _) rfl) (zal (vs := lII _ _) rfl za0 rfl rfl (zac (n := 2) (hst.objL Q4) _ rfl)) ?_
  replace hst := hst.pick .nil
  have he : zaT s bound = (zeroIL, false, (za7 s).2) := zlA g1 (by have := g8; simp at this; omega)
  rw [he]
  exact ⟨none, 0, zb7, rfl, (hst.pushNil 110 3).noD⟩
 have h0 : 0 < (za7 s).1.length := by have := g8; simp at this; omega
 refine zaf <| SR <| MS rfl <| CN <| zaL (rest := []) ty9 rfl <| CN <| zaz (v1 := .int .i64 _) (v2 := .int .i64 _) zeF rfl rfl rfl <| Ret.det (zbB _ _ _) hst fun w hst => CN <| Op1.alloc hst za0 fun w b10 hst => CN (SO (v := gII _ _) hst za0 rfl rfl .u0 fun w hst => ?_)
 refine NSR <| ML rfl <| CN <| zaO zcB zbd ((Res.rs_of_sl (hst.hL _ Q2))) rfl rfl Om Om <| CN <| zaa zfc rfl <| CN <| zae (v := .int .u8 _) ty5 rfl rfl (Res.rs2_cellF ((Res.rs_of_sl (hst.hL _ Q2))) (za3 (g := zbW) (d := zaR) zbk rfl Om)) <| CN <| zak rfl rfl <| AB rfl <| NSR <| AI rfl <| NL <| SQ ?_
 refine zcT (L1 := []) [(1, .int .u32 _), (4, Pp _ _), (6, Pp _ _), (7, Pp _ _), (8, .slice _ _ _), (10, Pp _ _), (11, .bool _)] hst E7 (fun (qq : Nat) => [(12, .int .i64 (qq : Int))]) (fun (qq : Nat) => []) (fun (qq : Nat) => LnA (za7 s).1 qq ∧ qq < (za7 s).1.length) (fun m f w hst hA => ?_) (fun cut15 => ?_)
 replace hst : St _ _ ([] ++ [_, _, _, _, _, _]) _ _ := hst
 replace hA : LnA (za7 s).1 m ∧ m < (za7 s).1.length := hA
 refine za2 (sl := [(12, .int .i64 (m : Int))]) ⟨rfl, trivial⟩ ?_
 ·have hAm := hA.2
  refine SQ <| SR <| ML rfl <| MI rfl <| CN <| zaO zcB zbd ((Res.rs_of_sl (hst.hL _ Q2))) rfl rfl Om Om <| CN <| zaa zfc rfl <| CN <| zae (v := .int .u8 _) ty5 rfl rfl (Res.rs2_cellF ((Res.rs_of_sl (hst.hL _ Q2))) (za3 (g := zbW) (d := zaR) zbk rfl Om)) <| CN <| zaW rfl rfl <| NL <| zab rfl (fun g17 => ?_) (fun g17 => ?_)
  ·refine SQ <| RunD.start [] hst (bs := [0, 0, 0, 6, 14, 30, 62, 127, 255, 511]) (ds := [some 77, some 78, some 79, some 80, some 81, some 82, some 83, none, some 5, none]) ⟨Kr, Kr, Kr⟩ (fun tab18 => ?_)
   refine DO tab18 1 (fun f' L' w' hc=> zar (vs := zbg _ _ _ _ _ _) zbp rfl (hc.old (v := Pp _ _) rfl rfl rfl) rfl (zac (n := 4) (hc.st.objL (List.mem_append_right _ Q3)) _ rfl) hc.z) <| DO tab18 2 (fun f' L' w' hc=> zad (v := .slice _ _ _) (hc.old rfl rfl rfl) hc.z) <| DO tab18 3 (fun f' L' w' hc=> zad (v := .int .i64 _) (hc.old rfl rfl rfl) hc.z) <| DO tab18 4 (fun f' L' w' hc=> zaO zcB zbd ((Res.rs_of_sl (hc.st.hL _ (List.mem_append_right _ Q2)))) (hc.d 1 rfl rfl rfl rfl) (hc.d 2 rfl rfl rfl rfl) Om Om hc.z) <| DO tab18 5 (fun f' L' w' hc=> zaa zb4 (hc.d 3 rfl rfl rfl rfl) hc.z) <| DO tab18 6 (fun f' L' w' hc=> zae (v := .int .i64 _) ty3 rfl (hc.d 4 rfl rfl rfl rfl) (Res.rs2_cellF ((Res.rs_of_sl (hc.st.hL _ (List.mem_append_right _ Q2)))) (za3 (g := zbW) (d := zaR) zbk rfl Om)) hc.z) <| DO tab18 7 (fun _ _ _ hc => zaz (v1 := .int .i64 _) (v2 := .int .i64 _) zeF rfl rfl (hc.d 5 rfl rfl rfl rfl) ((zbB _ _ _).mono fun v w hp => ⟨[], ⟨hp.1, rfl⟩, hc.st.keepc hp.2⟩)) <| RunD.fin zaw tab18 hst rfl (fun f19 w R22 hs20 hd21 hr23 hst => ?_)
   obtain ⟨h77_, r0⟩ := hd21 0 77 rfl rfl
   obtain ⟨h78_, r1⟩ := hd21 1 78 rfl rfl
   obtain ⟨h79_, r2⟩ := hd21 2 79 rfl rfl
   obtain ⟨h80_, r3⟩ := hd21 3 80 rfl rfl
   obtain ⟨h81_, r4⟩ := hd21 4 81 rfl rfl
   obtain ⟨h82_, r5⟩ := hd21 5 82 rfl rfl
   obtain ⟨h83_, r6⟩ := hd21 6 83 rfl rfl
   simp only [rg7, Fc, Fn, Mc, Mn, r0, r1, r2, r3, r4, r5, r6, Na, An, Ca] at hst
   refine zaD (sl := [(4, Pp _ _), (6, Pp _ _), (77, zbb _ _ _ _ _ _), (83, gII _ _)]) ⟨(hs20 4 rfl).trans rfl, (hs20 6 rfl).trans rfl, h77_, h83_, trivial⟩ ?_
   clear hs20 hd21 hr23 tab18
   refine CN (SO (v := zbb _ _ _ _ _ _) hst zbp rfl rfl .u5 fun w hst => ?_)
   refine AB rfl <| CN (SO (v := gII _ _) hst za0 rfl rfl .u4 fun w hst => ?_)
   refine NL <| zbf Tryz.func35 rfl (zal (vs := zbg _ _ _ _ _ _) rfl zbp rfl rfl (zac (n := 4) (hst.objL Q5) _ rfl)) (TP (v := .bool _) rfl) (zal (vs := lII _ _) rfl za0 rfl rfl (zac (n := 2) (hst.objL Q4) _ rfl)) ?_
   replace hst := hst.pick .nil
   have he := (zcC (bound := bound) g1).trans (hA.1.noword hA.2 g17)
   rw [he]
   exact ⟨none, 0, zb7, rfl, (hst.pushNil 110 3).noD⟩
  refine zaf <| SR <| ML rfl <| MI rfl <| CN <| zaO zcB zbd ((Res.rs_of_sl (hst.hL _ Q2))) rfl rfl Om Om <| CN <| zaa zbl rfl <| CN (zae (v := str _) ty9 rfl rfl (Res.rs2_cellF ((Res.rs_of_sl (hst.hL _ Q2))) (za3 (g := zbW) (d := zaR) zbk rfl Om)) ?_)
  obtain ⟨fm, hfn⟩ : ∃ x, (refT.find? (nmF ((za7 s).1.getD m zaR).text)).getD zeroF = x := ⟨_, rfl⟩
  obtain ⟨ob, hob⟩ : ∃ x, (refT.find? (nmF ((za7 s).1.getD m zaR).text)).isSome = x := ⟨_, rfl⟩
  refine CN <| Op1.call1 (v1 := str _) ent66 rfl rfl <| Ret.det (zoA hfn hob _) hst fun w hst => CN <| zad (v := .tuple #[zau _ _ _ _ _ _ _ _, .bool _]) rfl <| CN <| Ex (zau _ _ _ _ _ _ _ _) rfl rfl <| CN <| Ex (.bool _) rfl rfl <| CN <| Op1.alloc hst zaM fun w b13 hst => CN (SO (v := zau _ _ _ _ _ _ _ _) hst zaM rfl rfl .u0 fun w hst => ?_)
  refine AB rfl <| NL <| SQ <| SR <| MB rfl <| CN <| zaZ rfl <| NL <| zaj [(1, .int .u32 _), (4, Pp _ _), (6, Pp _ _), (7, Pp _ _), (8, .slice _ _ _), (10, Pp _ _), (11, .bool _), (12, .int .i64 _), (13, Pp _ _), (94, .bool _)] E10 fun f => zaA rfl (fun g24 => ?_) (fun g24 => ?_)
  ·refine SQ <| RunD.start [] hst (bs := [0, 0, 0, 6, 14, 30, 62, 127, 255, 511]) (ds := [some 95, some 96, some 97, some 98, some 99, some 100, some 101, none, some 5, none]) ⟨Kr, Kr, Kr⟩ (fun tab25 => ?_)
   refine DO tab25 1 (fun f' L' w' hc=> zar (vs := zbg _ _ _ _ _ _) zbp rfl (hc.old (v := Pp _ _) rfl rfl rfl) rfl (zac (n := 4) (hc.st.objL (List.mem_append_right _ Q4)) _ rfl) hc.z) <| DO tab25 2 (fun f' L' w' hc=> zad (v := .slice _ _ _) (hc.old rfl rfl rfl) hc.z) <| DO tab25 3 (fun f' L' w' hc=> zad (v := .int .i64 _) (hc.old rfl rfl rfl) hc.z) <| DO tab25 4 (fun f' L' w' hc=> zaO zcB zbd ((Res.rs_of_sl (hc.st.hL _ (List.mem_append_right _ Q3)))) (hc.d 1 rfl rfl rfl rfl) (hc.d 2 rfl rfl rfl rfl) Om Om hc.z) <| DO tab25 5 (fun f' L' w' hc=> zaa zb4 (hc.d 3 rfl rfl rfl rfl) hc.z) <| DO tab25 6 (fun f' L' w' hc=> zae (v := .int .i64 _) ty3 rfl (hc.d 4 rfl rfl rfl rfl) (Res.rs2_cellF ((Res.rs_of_sl (hc.st.hL _ (List.mem_append_right _ Q3)))) (za3 (g := zbW) (d := zaR) zbk rfl Om)) hc.z) <| DO tab25 7 (fun _ _ _ hc => zaz (v1 := .int .i64 _) (v2 := .int .i64 _) zeF rfl rfl (hc.d 5 rfl rfl rfl rfl) ((zbB _ _ _).mono fun v w hp => ⟨[], ⟨hp.1, rfl⟩, hc.st.keepc hp.2⟩)) <| RunD.fin zaw tab25 hst rfl (fun f26 w R29 hs27 hd28 hr30 hst => ?_)
   obtain ⟨h95_, r0⟩ := hd28 0 95 rfl rfl
   obtain ⟨h96_, r1⟩ := hd28 1 96 rfl rfl
   obtain ⟨h97_, r2⟩ := hd28 2 97 rfl rfl
   obtain ⟨h98_, r3⟩ := hd28 3 98 rfl rfl
   obtain ⟨h99_, r4⟩ := hd28 4 99 rfl rfl
   obtain ⟨h100_, r5⟩ := hd28 5 100 rfl rfl
   obtain ⟨h101_, r6⟩ := hd28 6 101 rfl rfl
   simp only [rg7, Fc, Fn, Mc, Mn, r0, r1, r2, r3, r4, r5, r6, Na, An, Ca] at hst
   refine zaD (sl := [(4, Pp _ _), (6, Pp _ _), (95, zbb _ _ _ _ _ _), (101, gII _ _)]) ⟨(hs27 4 rfl).trans rfl, (hs27 6 rfl).trans rfl, h95_, h101_, trivial⟩ ?_
   clear hs27 hd28 hr30 tab25
   refine CN (SO (v := zbb _ _ _ _ _ _) hst zbp rfl rfl .u6 fun w hst => ?_)
   refine AB rfl <| CN (SO (v := gII _ _) hst za0 rfl rfl .u5 fun w hst => ?_)
   refine NL <| zbf Tryz.func35 rfl (zal (vs := zbg _ _ _ _ _ _) rfl zbp rfl rfl (zac (n := 4) (hst.objL Q6) _ rfl)) (TP (v := .bool _) rfl) (zal (vs := lII _ _) rfl za0 rfl rfl (zac (n := 2) (hst.objL Q5) _ rfl)) ?_
   replace hst := hst.pick .nil
   have he := (zcC (bound := bound) g1).trans (hA.1.noname hA.2 (Nn g17) (hob.trans (by simpa using g24)))
   rw [he]
   exact ⟨none, 0, zb7, rfl, (hst.pushNil 110 3).noD⟩
  have hB := LnB.mk2 hA.1 hA.2 (Nn g17) (hob.trans (by simpa using g24)) hfn
  have hop := hB.op
  have hop0 := hB.op0
  refine zaf <| SQ <| SR <| CN <| zaa zcS rfl <| CN <| zae (v := .bool _) ty4 rfl rfl (hst.cellL Q0 rfl) <| MB rfl <| CN <| zjA ty4 rfl rfl <| NL <| zaA rfl (fun g31 => ?_) (fun g31 => ?_)
  ·refine SQ <| RunD.start [] hst (bs := [0, 0, 2, 6, 14, 30, 63, 127, 255]) (ds := [some 106, some 107, some 108, some 109, some 110, some 111, none, some 5, none]) ⟨Kr, Kr, Kr⟩ (fun tab32 => ?_)
   refine DO tab32 1 (fun f' L' w' hc=> zar (vs := zbg _ _ _ _ _ _) zbp rfl (hc.old (v := Pp _ _) rfl rfl rfl) rfl (zac (n := 4) (hc.st.objL (List.mem_append_right _ Q4)) _ rfl) hc.z) <| DO tab32 2 (fun f' L' w' hc=> zad (v := .slice _ _ _) (hc.old rfl rfl rfl) hc.z) <| DO tab32 3 (fun f' L' w' hc=> zaO zcB zbd ((Res.rs_of_sl (hc.st.hL _ (List.mem_append_right _ Q3)))) (hc.d 1 rfl rfl rfl rfl) rfl Om Om hc.z) <| DO tab32 4 (fun f' L' w' hc=> zaa zb4 (hc.d 2 rfl rfl rfl rfl) hc.z) <| DO tab32 5 (fun f' L' w' hc=> zae (v := .int .i64 _) ty3 rfl (hc.d 3 rfl rfl rfl rfl) (Res.rs2_cellF ((Res.rs_of_sl (hc.st.hL _ (List.mem_append_right _ Q3)))) (za3 (g := zbW) (d := zaR) zbk rfl Om)) hc.z) <| DO tab32 6 (fun _ _ _ hc => zaz (v1 := .int .i64 _) (v2 := .int .i64 _) zeF rfl rfl (hc.d 4 rfl rfl rfl rfl) ((zbB _ _ _).mono fun v w hp => ⟨[], ⟨hp.1, rfl⟩, hc.st.keepc hp.2⟩)) <| RunD.fin zaw tab32 hst rfl (fun f33 w R36 hs34 hd35 hr37 hst => ?_)
   obtain ⟨h106_, r0⟩ := hd35 0 106 rfl rfl
   obtain ⟨h107_, r1⟩ := hd35 1 107 rfl rfl
   obtain ⟨h108_, r2⟩ := hd35 2 108 rfl rfl
   obtain ⟨h109_, r3⟩ := hd35 3 109 rfl rfl
   obtain ⟨h110_, r4⟩ := hd35 4 110 rfl rfl
   obtain ⟨h111_, r5⟩ := hd35 5 111 rfl rfl
   simp only [rg6, Fc, Fn, Mc, Mn, r0, r1, r2, r3, r4, r5, Na, An, Ca] at hst
   refine zaD (sl := [(4, Pp _ _), (6, Pp _ _), (106, zbb _ _ _ _ _ _), (111, gII _ _)]) ⟨(hs34 4 rfl).trans rfl, (hs34 6 rfl).trans rfl, h106_, h111_, trivial⟩ ?_
   clear hs34 hd35 hr37 tab32
   refine CN (SO (v := zbb _ _ _ _ _ _) hst zbp rfl rfl .u6 fun w hst => ?_)
   refine AB rfl <| CN (SO (v := gII _ _) hst za0 rfl rfl .u5 fun w hst => ?_)
   refine NL <| zbf Tryz.func35 rfl (zal (vs := zbg _ _ _ _ _ _) rfl zbp rfl rfl (zac (n := 4) (hst.objL Q6) _ rfl)) (TP (v := .bool _) rfl) (zal (vs := lII _ _) rfl za0 rfl rfl (zac (n := 2) (hst.objL Q5) _ rfl)) ?_
   replace hst := hst.pick .nil
   have he := (zcC (bound := bound) g1).trans (hB.nores (by simpa using g31))
   rw [he]
   exact ⟨none, 0, zb7, rfl, (hst.pushNil 110 3).noD⟩
  have hrs : fm.res = decide (((za7 s).1.getD 0 zaR).kind = 2) := by simpa using g31
  refine zaf <| SR <| CN <| zaa ze6 rfl <| CN <| zae (v := .int .u16 _) zi4 rfl rfl (hst.cellL Q0 rfl) <| CN (zag zbp ztk (.c (v := .int .u16 _) rfl (h := .nil)) ?_)
  refine CN <| Op1.alloc hst zbp fun w b15 hst => CN (SO (v := zbb _ _ _ _ _ _) hst zbp rfl rfl .u0 fun w hst => ?_)
  refine NL <| SQ <| zcT (L1 := [_]) [(1, .int .u32 _), (4, Pp _ _), (6, Pp _ _), (7, Pp _ _), (8, .slice _ _ _), (10, Pp _ _), (12, .int .i64 _), (13, Pp _ _), (15, Pp _ _)] hst E9 (fun (qq : Int) => []) (fun (qq : Int) => [Res.row b15 44 [.int .u16 fm.op, .int .u32 0, .int .u32 qq, .slice none 0 0]]) (fun (qq : Int) => (((za7 s).1.getD 0 zaR).kind = 2 → qq = idL ((za7 s).1.getD 0 zaR).text bound ∧ qq ≠ 0) ∧ (¬ ((za7 s).1.getD 0 zaR).kind = 2 → qq = 0)) (fun res f w hst hR0 => ?_) (fun cut38 => ?_)
  replace hst : St _ _ ([Res.row b15 44 [.int .u16 fm.op, .int .u32 0, .int .u32 res, .slice none 0 0]] ++ [_, _, _, _, _, _, _]) _ _ := hst
  replace hR0 : (((za7 s).1.getD 0 zaR).kind = 2 → res = idL ((za7 s).1.getD 0 zaR).text bound ∧ res ≠ 0) ∧ (¬ ((za7 s).1.getD 0 zaR).kind = 2 → res = 0) := hR0
  skip
  ·have hC : LnC bound (za7 s).1 m fm res := ⟨hB, hrs, hR0.1, hR0.2⟩
   refine SR <| MI rfl <| CN <| zas rfl rfl rfl zbe <| AI rfl <| NL <| SQ <| zcT (L1 := [_]) [(1, .int .u32 _), (4, Pp _ _), (6, Pp _ _), (7, Pp _ _), (8, .slice _ _ _), (10, Pp _ _), (13, Pp _ _), (15, Pp _ _)] hst E8 (fun (qq : Int × Nat) => [(12, .int .i64 (qq.2 : Int))]) (fun (qq : Int × Nat) => [Res.row b15 44 [.int .u16 fm.op, .int .u32 qq.1, .int .u32 res, .slice none 0 0]]) (fun (qq : Int × Nat) => LnI bound (za7 s).1 m fm res qq.1 qq.2) (fun ⟨ty, q⟩ f w hst hI => ?_) (fun cut40 => ?_)
   replace hst : St _ _ ([Res.row b15 44 [.int .u16 fm.op, .int .u32 ty, .int .u32 res, .slice none 0 0]] ++ [_, _, _, _, _, _, _]) _ _ := hst
   replace hI : LnI bound (za7 s).1 m fm res ty q := hI
   refine za2 (sl := [(12, .int .i64 (q : Int))]) ⟨rfl, trivial⟩ ?_
   ·have hIle := hI.le
    refine SR <| AL rfl <| NL <| SQ <| SR <| MI rfl <| AI rfl <| NL <| zao <| zaV ?_
    replace hst := hst.pushNil 110 3
    replace hst := hst.pushNil 5 1
    refine zaU [(1, .int .u32 _), (4, Pp _ _), (6, Pp _ _), (7, Pp _ _), (8, .slice _ _ _), (10, Pp _ _), (12, .int .i64 _), (13, Pp _ _), (15, Pp _ _)] E9 (fun (qq : Nat × List ArgP × Option Addr × Nat × Option Addr × Nat) => [(20, .slice qq.2.2.2.2.1 (qq.2.1.map ArgP.kind).length qq.2.2.2.2.2), (21, .int .i64 ((q + qq.1 : Nat) : Int))]) (fun (qq : Nat × List ArgP × Option Addr × Nat × Option Addr × Nat) => [Res.sl qq.2.2.2.2.1 (qq.2.1.map ArgP.kind).length qq.2.2.2.2.2 5 1 ((qq.2.1.map ArgP.kind).flatMap u8C), Res.sl qq.2.2.1 qq.2.1.length qq.2.2.2.1 110 3 (qq.2.1.flatMap zff), Res.row b15 44 [.int .u16 fm.op, .int .u32 ty, .int .u32 res, .slice qq.2.2.1 qq.2.1.length qq.2.2.2.1]]) (fun (qq : Nat × List ArgP × Option Addr × Nat × Option Addr × Nat) => ArI fm bound (za7 s).1 q qq.1 qq.2.1) (fun (qq : Nat × List ArgP × Option Addr × Nat × Option Addr × Nat) => (za7 s).1.length - qq.1) ((0, [], none, 0, none, 0)) hst (ArI.start hI.le) E2 ?_
    intro ⟨j, ags, xo, xc, ko, kc⟩ f w hst hJ ih42
    replace hst : St _ _ ([Res.sl ko (ags.map ArgP.kind).length kc 5 1 ((ags.map ArgP.kind).flatMap u8C), Res.sl xo ags.length xc 110 3 (ags.flatMap zff), Res.row b15 44 [.int .u16 fm.op, .int .u32 ty, .int .u32 res, .slice xo ags.length xc]] ++ [_, _, _, _, _, _, _]) _ _ := hst
    replace hJ : ArI fm bound (za7 s).1 q j ags := hJ
    refine za2 (sl := [(20, .slice ko (ags.map ArgP.kind).length kc), (21, .int .i64 ((q + j : Nat) : Int))]) E2 ?_
    have hjl := hJ.len
    have hjle := hJ.le
    have hkl : (ags.map ArgP.kind).length = ags.length := List.length_map _
    refine SQ <| SR <| MI rfl <| ML rfl <| CN <| zaQ (rest := []) zcB rfl <| CN <| zaS rfl rfl <| NL <| zab rfl (fun g43 => ?_) (fun g43 => ?_)
    ·refine zaf <| SQ <| zao <| SQ <| zhu [(15, 16)] [] hst (bs := [0, 1, 0, 0, 12, 31, 0, 0, 192, 448, 0, 2047, 4095, 8191, 8191, 0, 49151, 131071]) (ds := [some 177, some 178, some 179, some 180, some 181, some 182, some 183, some 184, some 185, some 186, some 187, some 188, some 176, some 189, some 190, some 22, none, some 23]) ⟨Kr, Kr, Kr⟩ (fun tab44 => ?_)
     refine DO tab44 1 (fun f' L' w' hc=> zaa ze6 (hc.old (v := Pp _ _) rfl rfl rfl) hc.z) <| DO tab44 2 (fun f' L' w' hc=> zae (v := .int .u16 _) zi4 rfl (hc.d 0 rfl rfl rfl rfl) (hc.st.cellL (List.mem_append_right _ Q3) rfl) hc.z) <| DO tab44 3 (fun f' L' w' hc=> zad (v := .int .i64 _) (hc.old rfl rfl rfl) hc.z) <| DO tab44 4 (fun f' L' w' hc=> zad (v := .int .i64 _) (hc.old rfl rfl rfl) hc.z) <| DO tab44 5 (fun f' L' w' hc=> zbx (hc.d 2 rfl rfl rfl rfl) (hc.d 3 rfl rfl rfl rfl) rfl zbe hc.z) <| DO tab44 6 (fun f' L' w' hc=> zaz (v1 := .int .u16 _) (v2 := .int .i64 _) zwk rfl (hc.d 1 rfl rfl rfl rfl) (hc.d 4 rfl rfl rfl rfl) ((zmS hop hop0.1 _ j Om Om _).mono fun v w hp => ⟨[], ⟨hp.1, rfl⟩, hc.st.keepc hp.2⟩)) <| DO tab44 7 (fun f' L' w' hc=> zad (v := .slice _ _ _) (hc.old rfl rfl rfl) hc.z) <| DO tab44 8 (fun f' L' w' hc=> zad (v := .int .i64 _) (hc.old rfl rfl rfl) hc.z) <| DO tab44 9 (fun f' L' w' hc=> zaO zcB zbd ((Res.rs_of_sl (hc.st.hL _ (List.mem_append_right _ Q6)))) (hc.d 6 rfl rfl rfl rfl) (hc.d 7 rfl rfl rfl rfl) Om Om hc.z) <| DO tab44 10 (fun f' L' w' hc=> zar (vs := zeS _ _ _) zbd rfl (hc.d 8 rfl rfl rfl rfl) rfl (Res.rs2_cells (m := 3) ((Res.rs_of_sl (hc.st.hL _ (List.mem_append_right _ Q6)))) _ (zbG (g := zbW) (d := zaR) zbk _ _ Om)) hc.z) <| DO tab44 11 (fun f' L' w' hc=> zad (v := .int .u32 _) (hc.old rfl rfl rfl) hc.z) <| DO tab44 12 (fun f' L' w' hc=> zbD (v1 := .int .u8 _) (v2 := zbO _ _ _) (v3 := .int .u32 _) ent68 rfl (hc.d 5 rfl rfl rfl rfl) (hc.d 9 rfl rfl rfl rfl) (hc.d 10 rfl rfl rfl rfl) ((zgy (zaP fm (j : Int)) (zcp fm _) ((za7 s).1.getD (q + j) zaR) bound hbd (zfG s (q + j) Om) (by have := zge (l := (za7 s).1) (i := q + j) Om; omega) _).mono fun v w hp => ⟨[], ⟨hp.1, rfl⟩, hc.st.keepc hp.2⟩)) <| DO tab44 13 (fun f' L' w' hc=> zad (v := .tuple #[zcy _ _ _, .int .i64 _]) (hc.d 11 rfl rfl rfl rfl) hc.z) <| DO tab44 14 (fun f' L' w' hc=> Op1.extract (v := zcy _ _ _) (hc.d 12 rfl rfl rfl rfl) rfl hc.z) <| DO tab44 15 (fun _ _ _ hc => Op1.extract (v := .int .i64 _) (hc.d 12 rfl rfl rfl rfl) rfl hc.z) ?_
     refine RunD.op (fun v rs => ∃ b, v = .pointer (some ⟨b, 0, none⟩) ∧ rs = [Res.row b 110 [.int .u8 0, .int .u32 0, str []]]) tab44 16 (fun f' L' w' hc=> Op1.alloc hc.st za9 fun w b hst => ⟨[_], ⟨b, rfl, rfl⟩, hst⟩) <| zsr (T := 110) (zs := [.int .u8 0, .int .u32 0, str []]) _ tab44 17 15 22 Q0 rfl rfl rfl (fun f' L' w' c L2 hc hp hst => zbC (v := zcy _ _ _) hst za9 (evs hp rfl) (hc.d 13 rfl rfl rfl rfl) rfl rfl rfl .here (by repeat (first | exact Put.nil | apply Put.put | apply Put.skip)) fun w hst => ⟨rfl, hst⟩) ?_
     refine zik zaw tab44 hst rfl (fun f45 w R48 hs46 hd47 hr49 hst => ?_)
     obtain ⟨h177_, r0⟩ := hd47 0 177 rfl rfl
     obtain ⟨h178_, r1⟩ := hd47 1 178 rfl rfl
     obtain ⟨h179_, r2⟩ := hd47 2 179 rfl rfl
     obtain ⟨h180_, r3⟩ := hd47 3 180 rfl rfl
     obtain ⟨h181_, r4⟩ := hd47 4 181 rfl rfl
     obtain ⟨h182_, r5⟩ := hd47 5 182 rfl rfl
     obtain ⟨h183_, r6⟩ := hd47 6 183 rfl rfl
     obtain ⟨h184_, r7⟩ := hd47 7 184 rfl rfl
     obtain ⟨h185_, r8⟩ := hd47 8 185 rfl rfl
     obtain ⟨h186_, r9⟩ := hd47 9 186 rfl rfl
     obtain ⟨h187_, r10⟩ := hd47 10 187 rfl rfl
     obtain ⟨h188_, r11⟩ := hd47 11 188 rfl rfl
     obtain ⟨h176_, r12⟩ := hd47 12 176 rfl rfl
     obtain ⟨h189_, r13⟩ := hd47 13 189 rfl rfl
     obtain ⟨h190_, r14⟩ := hd47 14 190 rfl rfl
     obtain ⟨_, _, b22, h22_, r16⟩ := hr49 16 rfl
     rw [DrawTab.mask tab44 _ (j := 16) (l := 15) (t := 22) rfl rfl] at h22_
     simp only [rg17, Fc, Fn, Mc, Mn, show zer [(15, 16)] R48 0 = R48 0 from rfl, show zer [(15, 16)] R48 1 = R48 1 from rfl, show zer [(15, 16)] R48 2 = R48 2 from rfl, show zer [(15, 16)] R48 3 = R48 3 from rfl, show zer [(15, 16)] R48 4 = R48 4 from rfl, show zer [(15, 16)] R48 5 = R48 5 from rfl, show zer [(15, 16)] R48 6 = R48 6 from rfl, show zer [(15, 16)] R48 7 = R48 7 from rfl, show zer [(15, 16)] R48 8 = R48 8 from rfl, show zer [(15, 16)] R48 9 = R48 9 from rfl, show zer [(15, 16)] R48 10 = R48 10 from rfl, show zer [(15, 16)] R48 11 = R48 11 from rfl, show zer [(15, 16)] R48 12 = R48 12 from rfl, show zer [(15, 16)] R48 13 = R48 13 from rfl, show zer [(15, 16)] R48 14 = R48 14 from rfl, show zer [(15, 16)] R48 15 = [] from rfl, show zer [(15, 16)] R48 16 = R48 16 from rfl, r0, r1, r2, r3, r4, r5, r6, r7, r8, r9, r10, r11, r12, r13, r14, r16, Na, An, Ca] at hst
     refine zaD (sl := [(1, .int .u32 _), (4, Pp _ _), (6, Pp _ _), (7, Pp _ _), (8, .slice _ _ _), (10, Pp _ _), (12, .int .i64 _), (13, Pp _ _), (15, Pp _ _), (20, .slice _ _ _), (21, .int .i64 _), (22, Pp _ _), (190, .int .i64 _)]) ⟨(hs46 1 rfl).trans rfl, (hs46 4 rfl).trans rfl, (hs46 6 rfl).trans rfl, (hs46 7 rfl).trans rfl, (hs46 8 rfl).trans rfl, (hs46 10 rfl).trans rfl, (hs46 12 rfl).trans rfl, (hs46 13 rfl).trans rfl, (hs46 15 rfl).trans rfl, (hs46 20 rfl).trans rfl, (hs46 21 rfl).trans rfl, h22_, h190_, trivial⟩ ?_
     clear hs46 hd47 hr49 tab44
     refine AI rfl <| NL <| zaj [(1, .int .u32 _), (4, Pp _ _), (6, Pp _ _), (7, Pp _ _), (8, .slice _ _ _), (10, Pp _ _), (12, .int .i64 _), (13, Pp _ _), (15, Pp _ _), (20, .slice _ _ _), (21, .int .i64 _), (22, Pp _ _), (23, .int .i64 _)] E13 fun f => SQ <| SR <| MI rfl <| CN <| zaW rfl rfl <| NL <| zab rfl (fun g50 => ?_) (fun g50 => ?_)
     ·refine SQ <| RunD.start [] hst (bs := [0, 0, 0, 0, 12, 28, 60, 126, 255, 511, 1023]) (ds := [some 193, some 194, some 195, some 196, some 197, some 198, some 199, some 200, none, some 5, none]) ⟨Kr, Kr, Kr⟩ (fun tab51 => ?_)
      refine DO tab51 1 (fun f' L' w' hc=> zar (vs := zbg _ _ _ _ _ _) zbp rfl (hc.old (v := Pp _ _) rfl rfl rfl) rfl (zac (n := 4) (hc.st.objL (List.mem_append_right _ Q8)) _ rfl) hc.z) <| DO tab51 2 (fun f' L' w' hc=> zad (v := .int .i64 _) (hc.old rfl rfl rfl) hc.z) <| DO tab51 3 (fun f' L' w' hc=> zad (v := .slice _ _ _) (hc.old rfl rfl rfl) hc.z) <| DO tab51 4 (fun f' L' w' hc=> zad (v := .int .i64 _) (hc.old rfl rfl rfl) hc.z) <| DO tab51 5 (fun f' L' w' hc=> zaO zcB zbd ((Res.rs_of_sl (hc.st.hL _ (List.mem_append_right _ Q7)))) (hc.d 2 rfl rfl rfl rfl) (hc.d 3 rfl rfl rfl rfl) Om Om hc.z) <| DO tab51 6 (fun f' L' w' hc=> zaa zb4 (hc.d 4 rfl rfl rfl rfl) hc.z) <| DO tab51 7 (fun f' L' w' hc=> zae (v := .int .i64 _) ty3 rfl (hc.d 5 rfl rfl rfl rfl) (Res.rs2_cellF ((Res.rs_of_sl (hc.st.hL _ (List.mem_append_right _ Q7)))) (za3 (g := zbW) (d := zaR) zbk rfl Om)) hc.z) <| DO tab51 8 (fun _ _ _ hc => zaz (v1 := .int .i64 _) (v2 := .int .i64 _) zeF rfl (hc.d 1 rfl rfl rfl rfl) (hc.d 6 rfl rfl rfl rfl) ((zbB _ _ _).mono fun v w hp => ⟨[], ⟨hp.1, rfl⟩, hc.st.keepc hp.2⟩)) <| RunD.fin zaw tab51 hst rfl (fun f52 w R55 hs53 hd54 hr56 hst => ?_)
      obtain ⟨h193_, r0⟩ := hd54 0 193 rfl rfl
      obtain ⟨h194_, r1⟩ := hd54 1 194 rfl rfl
      obtain ⟨h195_, r2⟩ := hd54 2 195 rfl rfl
      obtain ⟨h196_, r3⟩ := hd54 3 196 rfl rfl
      obtain ⟨h197_, r4⟩ := hd54 4 197 rfl rfl
      obtain ⟨h198_, r5⟩ := hd54 5 198 rfl rfl
      obtain ⟨h199_, r6⟩ := hd54 6 199 rfl rfl
      obtain ⟨h200_, r7⟩ := hd54 7 200 rfl rfl
      simp only [rg8, Fc, Fn, Mc, Mn, r0, r1, r2, r3, r4, r5, r6, r7, Na, An, Ca] at hst
      refine zaD (sl := [(4, Pp _ _), (6, Pp _ _), (193, zbb _ _ _ _ _ _), (200, gII _ _)]) ⟨(hs53 4 rfl).trans rfl, (hs53 6 rfl).trans rfl, h193_, h200_, trivial⟩ ?_
      clear hs53 hd54 hr56 tab51
      refine CN (SO (v := zbb _ _ _ _ _ _) hst zbp rfl rfl .u10 fun w hst => ?_)
      refine AB rfl <| CN (SO (v := gII _ _) hst za0 rfl rfl .u9 fun w hst => ?_)
      refine NL <| zbf Tryz.func35 rfl (zal (vs := zbg _ _ _ _ _ _) rfl zbp rfl rfl (zac (n := 4) (hst.objL Q10) _ rfl)) (TP (v := .bool _) rfl) (zal (vs := lII _ _) rfl za0 rfl rfl (zac (n := 2) (hst.objL Q9) _ rfl)) ?_
      replace hst := hst.pick .nil
      have he := (zcC (bound := bound) g1).trans (hI.bad hJ Om g50)
      rw [he]
      exact ⟨none, 0, zb7, rfl, (hst.pushNil 110 3).noD⟩
     refine zaf <| SR <| CN <| zaa zbR rfl <| CN <| zae (v := .slice _ _ _) zdb rfl rfl (hst.cellL Q3 rfl) <| CN <| zar (vs := zcX _ _ _) za9 rfl rfl rfl (zac (n := 3) (hst.objL Q0) _ rfl) <| CN (zaE (z0 := [.int .u8 0, .int .u32 0, str []]) hst zdb za9 rfl rfl Kr (.c (v := zcy _ _ _) rfl (h := .nil)) fun w b204 hst => ?_)
     refine CN (zaI (news := (zcX _ _ _)) hst zdb za9 rfl rfl .u3 rfl rfl rfl (zac (n := 3) (hst.objL Q0) _ rfl) rfl rfl Om fun w ao57 cp58 hst => ?_)
     replace hst := hst.drop .u1
     refine CN <| zaa zbR rfl <| CN (SO (v := .slice _ _ _) hst zdb rfl rfl .u3 fun w hst => ?_)
     refine NR <| ML rfl <| CN <| zaa zbA rfl <| CN <| zae (v := .int .u8 _) ty5 rfl rfl (hst.cellL Q1 rfl) <| CN (zaE (z0 := [.int .u8 0]) hst zcr ty5 rfl rfl Kr (.c (v := .int .u8 _) rfl (h := .nil)) fun w b210 hst => ?_)
     refine CN (zaI (news := [.int .u8 _]) hst zcr ty5 rfl rfl .u3 rfl rfl rfl (zac (n := 1) (hst.objL Q0) _ rfl) rfl rfl Om fun w ao59 cp60 hst => ?_)
     replace hst := hst.drop .u1
     refine AL rfl <| NL <| zam <| RG <| MI rfl <| CN <| zas rfl rfl rfl zbe <| AI rfl <| NL <| zay ?_
     have e1 : (ags ++ [(zb9 (zaP fm (j : Int)) ((za7 s).1.getD (q + j) zaR) bound).1]).length = ags.length + 1 := List.length_append
     have e2 : (ags ++ [(zb9 (zaP fm (j : Int)) ((za7 s).1.getD (q + j) zaR) bound).1]).flatMap zff = ags.flatMap zff ++ zff (zb9 (zaP fm (j : Int)) ((za7 s).1.getD (q + j) zaR) bound).1 := by rw [List.flatMap_append]; simp
     have e3 : ((ags ++ [(zb9 (zaP fm (j : Int)) ((za7 s).1.getD (q + j) zaR) bound).1]).map ArgP.kind).flatMap u8C = (ags.map ArgP.kind).flatMap u8C ++ [.int .u8 (zb9 (zaP fm (j : Int)) ((za7 s).1.getD (q + j) zaR) bound).1.kind] := by rw [List.map_append, List.flatMap_append]; rfl
     have e4 : ((ags ++ [(zb9 (zaP fm (j : Int)) ((za7 s).1.getD (q + j) zaR) bound).1]).map ArgP.kind).length = (ags.map ArgP.kind).length + 1 := by rw [List.length_map, List.length_map, e1]
     replace hst := hst.pick (.cons .u0 (.cons .u0 (.cons .u1 (.cons .u1 (.cons .u1 (.cons .u1 (.cons .u1 (.cons .u1 (.cons .u1 (.cons .u1 .nil))))))))))
     exact ih42 ((j + 1, ags ++ [(zb9 (zaP fm (j : Int)) ((za7 s).1.getD (q + j) zaR) bound).1], ao57, cp58, ao59, cp60)) _ w ((by (try dsimp only); omega)) (by (try dsimp only); rw [e1, e2, e3, e4]; exact hst) (hJ.step (by omega) (Nn g50)) E9 ⟨(by (try dsimp only); rw [e4]; rfl), (Vi (by (try dsimp only); omega)), trivial⟩
    refine zaJ (id := 0) rfl <| SR <| CN <| zaa ze6 rfl <| CN <| zae (v := .int .u16 _) zi4 rfl rfl (hst.cellL Q3 rfl) <| ML rfl <| CN <| zaz (v1 := .int .u16 _) (v2 := .slice _ _ _) ent70 rfl rfl rfl <| Ret.det (zss fm.op hop0.1 (ags.map ArgP.kind) _ _ _ (Res.rs_of_sl (hst.hL _ Q0)) (by rw [List.length_map]; omega)) hst fun w hst => CN <| zad (v := .tuple #[.int .i64 _, .bool _]) rfl <| CN <| Ex (.int .i64 _) rfl rfl <| CN <| Ex (.bool _) rfl rfl <| AI rfl <| AB rfl <| NL <| SQ <| SQ ?_
    refine RG <| MB rfl <| CN <| zaZ rfl <| NL <| zaA rfl (fun g61 => ?_) (fun g61 => ?_)
    ·refine SQ ?_
     replace hst := hst.pick (.cons .u9 (.cons .u0 (.cons .u0 (.cons .u0 (.cons .u0 (.cons .u0 (.cons .u0 (.cons .u0 (.cons .u0 (.cons .u0 .nil))))))))))
     apply RunD.start [(2, Res.row b4 44 _, Res.row b4 44 _)] hst (bs := [0, 0, 1, 5, 15]) (ds := [some 221, some 222, none, some 5, none]) (htab := ⟨Kr, Kr, Kr⟩)
     intro tab62
     refine DO tab62 1 (fun f' L' w' hc=> zar (vs := zbg _ _ _ _ _ _) zbp rfl (hc.old (v := Pp _ _) rfl rfl rfl) rfl (zac (n := 4) (hc.st.objL (List.mem_append_right _ Q7)) _ rfl) hc.z) <| DO tab62 2 (fun f' L' w' hc=> zar (vs := lII _ _) za0 rfl (hc.old (v := Pp _ _) rfl rfl rfl) rfl (zac (n := 2) (hc.st.objL (List.mem_append_right _ Q4)) _ rfl) hc.z) <| zcd tab62 3 Q0 (fun f' L' L2 w' hc hsel => zbC (v := zbb _ _ _ _ _ _) hc.st zbp (hc.old (v := Pp _ _) rfl rfl rfl) (hc.d 0 rfl rfl rfl rfl) rfl rfl rfl hsel (by repeat (first | exact Put.nil | apply Put.put | apply Put.skip)) fun w hst => ⟨rfl, hst⟩) ?_
     refine DO tab62 4 (fun _ _ _ hc => Op1.assign (v := .bool _) rfl hc.z) <| RunD.fin zaw tab62 hst rfl (fun f63 w R66 hs64 hd65 hr67 hst => ?_)
     obtain ⟨h221_, r0⟩ := hd65 0 221 rfl rfl
     obtain ⟨h222_, r1⟩ := hd65 1 222 rfl rfl
     obtain ⟨_, _, r2⟩ := hr67 2 rfl
     obtain ⟨h5_, r3⟩ := hd65 3 5 rfl rfl
     simp only [rg4, Fc, Fn, Mc, Mn, r0, r1, r2, r3, Na, An, Ca] at hst
     refine zaD (sl := [(4, Pp _ _), (5, .bool _), (6, Pp _ _), (222, gII _ _)]) ⟨(hs64 4 rfl).trans rfl, h5_, (hs64 6 rfl).trans rfl, h222_, trivial⟩ ?_
     clear hs64 hd65 hr67 tab62
     refine CN (SO (v := gII _ _) hst za0 rfl rfl .u9 fun w hst => ?_)
     refine NL <| zbf Tryz.func35 rfl (zal (vs := zbg _ _ _ _ _ _) rfl zbp rfl rfl (zac (n := 4) (hst.objL Q0) _ rfl)) (TP (v := .bool _) rfl) (zal (vs := lII _ _) rfl za0 rfl rfl (zac (n := 2) (hst.objL Q9) _ rfl)) ?_
     replace hst := hst.pick .nil
     have he := (zcC (bound := bound) g1).trans (hI.nofit hJ (by omega) (by simpa using g61))
     rw [he]
     exact ⟨none, 0, zb7, rfl, (hst.pushNil 110 3).noD⟩
    have hfit : (zej fm.op (ags.map ArgP.kind)).2 = true := by simpa using g61
    have hsm := hJ.small hts hll hl24
    have hrm : zbT fm (InstP.args ⟨fm.op, ty, res, xo, xc, ags⟩) = zbT fm ags := rfl
    refine zaf <| SQ <| SR <| CN <| zar (vs := zbg _ _ _ _ _ _) zbp rfl rfl rfl (zac (n := 4) (hst.objL Q2) _ rfl) <| CN <| zar (vs := zaC _ _ _ _ _ _ _ _) zaM rfl rfl rfl (zac (n := 8) (hst.objL Q3) _ rfl) <| CN <| zaz (v1 := zbb _ _ _ _ _ _) (v2 := zau _ _ _ _ _ _ _ _) zwj rfl rfl rfl <| Ret.det (zf1 ⟨fm.op, ty, res, xo, xc, ags⟩ fm _ (Res.rs_of_sl (hst.hL _ Q1)) hsm.1 hsm.2) hst fun w hst => CN <| zbm rfl rfl <| NL <| zaj [(4, Pp _ _), (6, Pp _ _), (7, Pp _ _), (15, Pp _ _), (226, .bool _)] E5 fun f => zab rfl (fun g68 => ?_) (fun g68 => ?_)
    ·refine SQ <| RunD.start [] hst (bs := [0, 0, 3, 7, 15]) (ds := [some 227, some 228, none, some 5, none]) ⟨Kr, Kr, Kr⟩ (fun tab69 => ?_)
     refine DO tab69 1 (fun f' L' w' hc=> zar (vs := zbg _ _ _ _ _ _) zbp rfl (hc.old (v := Pp _ _) rfl rfl rfl) rfl (zac (n := 4) (hc.st.objL (List.mem_append_right _ Q7)) _ rfl) hc.z) <| DO tab69 2 (fun _ _ _ hc => zaz (v1 := .int .i64 _) (v2 := .int .i64 _) zeF rfl rfl rfl ((zbB _ _ _).mono fun v w hp => ⟨[], ⟨hp.1, rfl⟩, hc.st.keepc hp.2⟩)) <| RunD.fin zaw tab69 hst rfl (fun f70 w R73 hs71 hd72 hr74 hst => ?_)
     obtain ⟨h227_, r0⟩ := hd72 0 227 rfl rfl
     obtain ⟨h228_, r1⟩ := hd72 1 228 rfl rfl
     simp only [rg2, Fc, Fn, Mc, Mn, r0, r1, Na, An, Ca] at hst
     refine zaD (sl := [(4, Pp _ _), (6, Pp _ _), (227, zbb _ _ _ _ _ _), (228, gII _ _)]) ⟨(hs71 4 rfl).trans rfl, (hs71 6 rfl).trans rfl, h227_, h228_, trivial⟩ ?_
     clear hs71 hd72 hr74 tab69
     refine CN (SO (v := zbb _ _ _ _ _ _) hst zbp rfl rfl .u9 fun w hst => ?_)
     refine AB rfl <| CN (SO (v := gII _ _) hst za0 rfl rfl .u8 fun w hst => ?_)
     refine NL <| zbf Tryz.func35 rfl (zal (vs := zbg _ _ _ _ _ _) rfl zbp rfl rfl (zac (n := 4) (hst.objL Q9) _ rfl)) (TP (v := .bool _) rfl) (zal (vs := lII _ _) rfl za0 rfl rfl (zac (n := 2) (hst.objL Q8) _ rfl)) ?_
     replace hst := hst.pick .nil
     have he := (zcC (bound := bound) g1).trans (hI.big hJ (by omega) hfit (by rw [← hrm]; omega))
     rw [he]
     exact ⟨none, 0, zb7, rfl, (hst.pushNil 110 3).noD⟩
    refine zaf <| SR <| CN <| zar (vs := zbg _ _ _ _ _ _) zbp rfl rfl rfl (zac (n := 4) (hst.objL Q2) _ rfl) <| CN (zag za0 zcE .nil ?_)
    refine CN (SO (v := zbb _ _ _ _ _ _) hst zbp rfl rfl .u9 fun w hst => ?_)
    refine AB rfl <| CN (SO (v := gII _ _) hst za0 rfl rfl .u8 fun w hst => ?_)
    refine NL <| zbf Tryz.func35 rfl (zal (vs := zbg _ _ _ _ _ _) rfl zbp rfl rfl (zac (n := 4) (hst.objL Q9) _ rfl)) (TP (v := .bool _) rfl) (zal (vs := lII _ _) rfl za0 rfl rfl (zac (n := 2) (hst.objL Q8) _ rfl)) ?_
    replace hst := hst.pick (.cons .u1 .nil)
    have he := (zcC (bound := bound) g1).trans (hI.fine hJ (by omega) hfit (by rw [← hrm]; omega))
    rw [he]
    exact ⟨xo, xc, ⟨hsm.1, hsm.2, hop0⟩, rfl, hst.noD⟩
   ·refine SR <| CN <| zaa zdy rfl <| CN <| zae (v := .bool _) ty4 rfl rfl (hst.cellL Q1 rfl) <| NL <| zaA rfl (fun g75 => ?_) (fun g75 => ?_)
    ·refine SQ <| SR <| MI rfl <| ML rfl <| CN <| zaQ (rest := []) zcB rfl <| CN <| zak rfl rfl <| NL <| zab rfl (fun g76 => ?_) (fun g76 => ?_)
     ·refine SQ ?_
      replace hst := hst.pick (.cons .u7 (.cons .u0 (.cons .u0 (.cons .u0 (.cons .u0 (.cons .u0 (.cons .u0 (.cons .u0 .nil))))))))
      apply RunD.start [(2, Res.row b4 44 _, Res.row b4 44 _)] hst (bs := [0, 0, 1, 5, 15]) (ds := [some 143, some 144, none, some 5, none]) (htab := ⟨Kr, Kr, Kr⟩)
      intro tab77
      refine DO tab77 1 (fun f' L' w' hc=> zar (vs := zbg _ _ _ _ _ _) zbp rfl (hc.old (v := Pp _ _) rfl rfl rfl) rfl (zac (n := 4) (hc.st.objL (List.mem_append_right _ Q5)) _ rfl) hc.z) <| DO tab77 2 (fun f' L' w' hc=> zar (vs := lII _ _) za0 rfl (hc.old (v := Pp _ _) rfl rfl rfl) rfl (zac (n := 2) (hc.st.objL (List.mem_append_right _ Q2)) _ rfl) hc.z) <| zcd tab77 3 Q0 (fun f' L' L2 w' hc hsel => zbC (v := zbb _ _ _ _ _ _) hc.st zbp (hc.old (v := Pp _ _) rfl rfl rfl) (hc.d 0 rfl rfl rfl rfl) rfl rfl rfl hsel (by repeat (first | exact Put.nil | apply Put.put | apply Put.skip)) fun w hst => ⟨rfl, hst⟩) ?_
      refine DO tab77 4 (fun _ _ _ hc => Op1.assign (v := .bool _) rfl hc.z) <| RunD.fin zaw tab77 hst rfl (fun f78 w R81 hs79 hd80 hr82 hst => ?_)
      obtain ⟨h143_, r0⟩ := hd80 0 143 rfl rfl
      obtain ⟨h144_, r1⟩ := hd80 1 144 rfl rfl
      obtain ⟨_, _, r2⟩ := hr82 2 rfl
      obtain ⟨h5_, r3⟩ := hd80 3 5 rfl rfl
      simp only [rg4, Fc, Fn, Mc, Mn, r0, r1, r2, r3, Na, An, Ca] at hst
      refine zaD (sl := [(4, Pp _ _), (5, .bool _), (6, Pp _ _), (144, gII _ _)]) ⟨(hs79 4 rfl).trans rfl, h5_, (hs79 6 rfl).trans rfl, h144_, trivial⟩ ?_
      clear hs79 hd80 hr82 tab77
      refine CN (SO (v := gII _ _) hst za0 rfl rfl .u7 fun w hst => ?_)
      refine NL <| zbf Tryz.func35 rfl (zal (vs := zbg _ _ _ _ _ _) rfl zbp rfl rfl (zac (n := 4) (hst.objL Q0) _ rfl)) (TP (v := .bool _) rfl) (zal (vs := lII _ _) rfl za0 rfl rfl (zac (n := 2) (hst.objL Q7) _ rfl)) ?_
      replace hst := hst.pick .nil
      have he := (zcC (bound := bound) g1).trans (hC.early g75 Om)
      rw [he]
      exact ⟨none, 0, zb7, rfl, (hst.pushNil 110 3).noD⟩
     refine zaf <| SR <| ML rfl <| MI rfl <| CN <| zaO zcB zbd ((Res.rs_of_sl (hst.hL _ Q4))) rfl rfl Om Om <| CN <| zar (vs := zeS _ _ _) zbd rfl rfl rfl (Res.rs2_cells (m := 3) ((Res.rs_of_sl (hst.hL _ Q4))) _ (zbG (g := zbW) (d := zaR) zbk _ _ Om)) <| MU rfl <| CN <| zbD (v1 := .int .u8 _) (v2 := zbO _ _ _) (v3 := .int .u32 _) ent68 rfl rfl rfl rfl <| Ret.det (zgy 105 De ((za7 s).1.getD (m + 1) zaR) bound hbd (zfG s (m + 1) Om) (by have := zge (l := (za7 s).1) (i := m + 1) Om; omega) _) hst fun w hst => CN <| zad (v := .tuple #[zcy _ _ _, .int .i64 _]) rfl <| CN <| Ex (zcy _ _ _) rfl rfl <| CN <| Ex (.int .i64 _) rfl rfl <| CN <| Op1.alloc hst za9 fun w b18 hst => CN (SO (v := zcy _ _ _) hst za9 rfl rfl .u0 fun w hst => ?_)
     refine AI rfl <| NL <| zaj [(1, .int .u32 _), (4, Pp _ _), (6, Pp _ _), (7, Pp _ _), (8, .slice _ _ _), (10, Pp _ _), (12, .int .i64 _), (13, Pp _ _), (15, Pp _ _), (18, Pp _ _), (19, .int .i64 _)] E11 fun f => SQ <| SR <| MI rfl <| CN <| zaW rfl rfl <| NL <| zab rfl (fun g83 => ?_) (fun g83 => ?_)
     ·refine SQ <| RunD.start [] hst (bs := [0, 0, 0, 0, 12, 28, 60, 126, 255, 511, 1023]) (ds := [some 156, some 157, some 158, some 159, some 160, some 161, some 162, some 163, none, some 5, none]) ⟨Kr, Kr, Kr⟩ (fun tab84 => ?_)
      refine DO tab84 1 (fun f' L' w' hc=> zar (vs := zbg _ _ _ _ _ _) zbp rfl (hc.old (v := Pp _ _) rfl rfl rfl) rfl (zac (n := 4) (hc.st.objL (List.mem_append_right _ Q6)) _ rfl) hc.z) <| DO tab84 2 (fun f' L' w' hc=> zad (v := .int .i64 _) (hc.old rfl rfl rfl) hc.z) <| DO tab84 3 (fun f' L' w' hc=> zad (v := .slice _ _ _) (hc.old rfl rfl rfl) hc.z) <| DO tab84 4 (fun f' L' w' hc=> zad (v := .int .i64 _) (hc.old rfl rfl rfl) hc.z) <| DO tab84 5 (fun f' L' w' hc=> zaO zcB zbd ((Res.rs_of_sl (hc.st.hL _ (List.mem_append_right _ Q5)))) (hc.d 2 rfl rfl rfl rfl) (hc.d 3 rfl rfl rfl rfl) Om Om hc.z) <| DO tab84 6 (fun f' L' w' hc=> zaa zb4 (hc.d 4 rfl rfl rfl rfl) hc.z) <| DO tab84 7 (fun f' L' w' hc=> zae (v := .int .i64 _) ty3 rfl (hc.d 5 rfl rfl rfl rfl) (Res.rs2_cellF ((Res.rs_of_sl (hc.st.hL _ (List.mem_append_right _ Q5)))) (za3 (g := zbW) (d := zaR) zbk rfl Om)) hc.z) <| DO tab84 8 (fun _ _ _ hc => zaz (v1 := .int .i64 _) (v2 := .int .i64 _) zeF rfl (hc.d 1 rfl rfl rfl rfl) (hc.d 6 rfl rfl rfl rfl) ((zbB _ _ _).mono fun v w hp => ⟨[], ⟨hp.1, rfl⟩, hc.st.keepc hp.2⟩)) <| RunD.fin zaw tab84 hst rfl (fun f85 w R88 hs86 hd87 hr89 hst => ?_)
      obtain ⟨h156_, r0⟩ := hd87 0 156 rfl rfl
      obtain ⟨h157_, r1⟩ := hd87 1 157 rfl rfl
      obtain ⟨h158_, r2⟩ := hd87 2 158 rfl rfl
      obtain ⟨h159_, r3⟩ := hd87 3 159 rfl rfl
      obtain ⟨h160_, r4⟩ := hd87 4 160 rfl rfl
      obtain ⟨h161_, r5⟩ := hd87 5 161 rfl rfl
      obtain ⟨h162_, r6⟩ := hd87 6 162 rfl rfl
      obtain ⟨h163_, r7⟩ := hd87 7 163 rfl rfl
      simp only [rg8, Fc, Fn, Mc, Mn, r0, r1, r2, r3, r4, r5, r6, r7, Na, An, Ca] at hst
      refine zaD (sl := [(4, Pp _ _), (6, Pp _ _), (156, zbb _ _ _ _ _ _), (163, gII _ _)]) ⟨(hs86 4 rfl).trans rfl, (hs86 6 rfl).trans rfl, h156_, h163_, trivial⟩ ?_
      clear hs86 hd87 hr89 tab84
      refine CN (SO (v := zbb _ _ _ _ _ _) hst zbp rfl rfl .u8 fun w hst => ?_)
      refine AB rfl <| CN (SO (v := gII _ _) hst za0 rfl rfl .u7 fun w hst => ?_)
      refine NL <| zbf Tryz.func35 rfl (zal (vs := zbg _ _ _ _ _ _) rfl zbp rfl rfl (zac (n := 4) (hst.objL Q8) _ rfl)) (TP (v := .bool _) rfl) (zal (vs := lII _ _) rfl za0 rfl rfl (zac (n := 2) (hst.objL Q7) _ rfl)) ?_
      replace hst := hst.pick .nil
      have he := (zcC (bound := bound) g1).trans (hC.badty g75 Om g83)
      rw [he]
      exact ⟨none, 0, zb7, rfl, (hst.pushNil 110 3).noD⟩
     refine zaf <| SR <| CN <| zaa zbM rfl <| CN <| zae (v := .int .u32 _) zbt rfl rfl (hst.cellL Q0 rfl) <| CN <| zaa zdK rfl <| CN (SO (v := .int .u32 _) hst zbt rfl rfl .u1 fun w hst => ?_)
     refine NR <| MI rfl <| CN <| zas rfl rfl rfl zbe <| AI rfl <| NL ?_
     replace hst := hst.pick (.cons .u1 (.cons .u1 (.cons .u1 (.cons .u1 (.cons .u1 (.cons .u1 (.cons .u1 (.cons .u1 .nil))))))))
     exact cut40 (((zb9 105 ((za7 s).1.getD (m + 1) zaR) bound).1.n, m + 2)) _ w (hst) (LnI.ofArg hC g75 Om (Nn g83)) E8 ⟨(Vi Od), trivial⟩
    refine zaf ?_
    exact cut40 ((0, m + 1)) _ w (hst) (LnI.no hC (by simpa using g75)) E8 ⟨(Vi (by (try dsimp only); omega)), trivial⟩
  ·refine SR <| MB rfl <| NL <| zab rfl (fun g90 => ?_) (fun g90 => ?_)
   ·refine SR <| ML rfl <| CN <| zaO zcB zbd ((Res.rs_of_sl (hst.hL _ Q4))) rfl rfl Om Om <| CN <| zaa zbl rfl <| CN <| zae (v := str _) ty9 rfl rfl (Res.rs2_cellF ((Res.rs_of_sl (hst.hL _ Q4))) (za3 (g := zbW) (d := zaR) zbk rfl Om)) <| MU rfl ?_
    obtain ⟨m0, hm0⟩ := zfG s 0 h0 g90
    refine CN <| zaz (v1 := str _) (v2 := .int .u32 _) ent67 rfl rfl rfl <| Ret.det (zoC _ m0 hm0 bound hbd _) hst fun w hst => CN <| zad (v := .tuple #[.int .u32 _, .bool _]) rfl <| CN <| Ex (.int .u32 _) rfl rfl <| CN <| Ex (.bool _) rfl rfl <| AU rfl <| AB rfl <| NL <| zaj [(1, .int .u32 _), (4, Pp _ _), (6, Pp _ _), (7, Pp _ _), (8, .slice _ _ _), (10, Pp _ _), (12, .int .i64 _), (13, Pp _ _), (15, Pp _ _), (16, .int .u32 _), (17, .bool _)] E11 fun f => SQ <| SR <| MB rfl <| CN <| zaZ rfl <| NL <| zaA rfl (fun g91 => ?_) (fun g91 => ?_)
    ·refine SQ <| RunD.start [] hst (bs := [0, 0, 2, 6, 14, 30, 63, 127, 255]) (ds := [some 127, some 128, some 129, some 130, some 131, some 132, none, some 5, none]) ⟨Kr, Kr, Kr⟩ (fun tab92 => ?_)
     refine DO tab92 1 (fun f' L' w' hc=> zar (vs := zbg _ _ _ _ _ _) zbp rfl (hc.old (v := Pp _ _) rfl rfl rfl) rfl (zac (n := 4) (hc.st.objL (List.mem_append_right _ Q5)) _ rfl) hc.z) <| DO tab92 2 (fun f' L' w' hc=> zad (v := .slice _ _ _) (hc.old rfl rfl rfl) hc.z) <| DO tab92 3 (fun f' L' w' hc=> zaO zcB zbd ((Res.rs_of_sl (hc.st.hL _ (List.mem_append_right _ Q4)))) (hc.d 1 rfl rfl rfl rfl) rfl Om Om hc.z) <| DO tab92 4 (fun f' L' w' hc=> zaa zb4 (hc.d 2 rfl rfl rfl rfl) hc.z) <| DO tab92 5 (fun f' L' w' hc=> zae (v := .int .i64 _) ty3 rfl (hc.d 3 rfl rfl rfl rfl) (Res.rs2_cellF ((Res.rs_of_sl (hc.st.hL _ (List.mem_append_right _ Q4)))) (za3 (g := zbW) (d := zaR) zbk rfl Om)) hc.z) <| DO tab92 6 (fun _ _ _ hc => zaz (v1 := .int .i64 _) (v2 := .int .i64 _) zeF rfl rfl (hc.d 4 rfl rfl rfl rfl) ((zbB _ _ _).mono fun v w hp => ⟨[], ⟨hp.1, rfl⟩, hc.st.keepc hp.2⟩)) <| RunD.fin zaw tab92 hst rfl (fun f93 w R96 hs94 hd95 hr97 hst => ?_)
     obtain ⟨h127_, r0⟩ := hd95 0 127 rfl rfl
     obtain ⟨h128_, r1⟩ := hd95 1 128 rfl rfl
     obtain ⟨h129_, r2⟩ := hd95 2 129 rfl rfl
     obtain ⟨h130_, r3⟩ := hd95 3 130 rfl rfl
     obtain ⟨h131_, r4⟩ := hd95 4 131 rfl rfl
     obtain ⟨h132_, r5⟩ := hd95 5 132 rfl rfl
     simp only [rg6, Fc, Fn, Mc, Mn, r0, r1, r2, r3, r4, r5, Na, An, Ca] at hst
     refine zaD (sl := [(4, Pp _ _), (6, Pp _ _), (127, zbb _ _ _ _ _ _), (132, gII _ _)]) ⟨(hs94 4 rfl).trans rfl, (hs94 6 rfl).trans rfl, h127_, h132_, trivial⟩ ?_
     clear hs94 hd95 hr97 tab92
     refine CN (SO (v := zbb _ _ _ _ _ _) hst zbp rfl rfl .u7 fun w hst => ?_)
     refine AB rfl <| CN (SO (v := gII _ _) hst za0 rfl rfl .u6 fun w hst => ?_)
     refine NL <| zbf Tryz.func35 rfl (zal (vs := zbg _ _ _ _ _ _) rfl zbp rfl rfl (zac (n := 4) (hst.objL Q7) _ rfl)) (TP (v := .bool _) rfl) (zal (vs := lII _ _) rfl za0 rfl rfl (zac (n := 2) (hst.objL Q6) _ rfl)) ?_
     replace hst := hst.pick .nil
     have he := (zcC (bound := bound) g1).trans (hB.noid hrs g90 (zw1 g91))
     rw [he]
     exact ⟨none, 0, zb7, rfl, (hst.pushNil 110 3).noD⟩
    refine zaf <| RG <| MU rfl <| CN <| zaa zeb rfl <| CN (SO (v := .int .u32 _) hst zbt rfl rfl .u0 fun w hst => ?_)
    refine NL ?_
    exact cut38 (((plR ((za7 s).1.getD 0 zaR).text : Nat) : Int)) _ w (hst) (⟨fun _ => ⟨(znZ g91).1.symm, by rw [← (znZ g91).1]; exact (znZ g91).2⟩, fun q => absurd g90 q⟩) E9 trivial
   refine zaf ?_
   exact cut38 (0) _ w (hst) (⟨fun q => absurd q g90, fun _ => rfl⟩) E9 trivial
 ·refine SR <| MB rfl <| NL <| zab rfl (fun g98 => ?_) (fun g98 => ?_)
  ·refine SQ <| SR <| ML rfl <| CN <| zaQ (rest := []) zcB rfl <| CN <| zak rfl rfl <| NL <| zab rfl (fun g99 => ?_) (fun g99 => ?_)
   ·refine SQ ?_
    replace hst := hst.pick (.cons .u5 (.cons .u0 (.cons .u0 (.cons .u0 (.cons .u0 (.cons .u0 .nil))))))
    apply RunD.start [(2, Res.row b4 44 _, Res.row b4 44 _)] hst (bs := [0, 0, 1, 5, 15]) (ds := [some 53, some 54, none, some 5, none]) (htab := ⟨Kr, Kr, Kr⟩)
    intro tab100
    refine DO tab100 1 (fun f' L' w' hc=> zar (vs := zbg _ _ _ _ _ _) zbp rfl (hc.old (v := Pp _ _) rfl rfl rfl) rfl (zac (n := 4) (hc.st.objL (List.mem_append_right _ Q3)) _ rfl) hc.z) <| DO tab100 2 (fun f' L' w' hc=> zar (vs := lII _ _) za0 rfl (hc.old (v := Pp _ _) rfl rfl rfl) rfl (zac (n := 2) (hc.st.objL (List.mem_append_right _ Q0)) _ rfl) hc.z) <| zcd tab100 3 Q0 (fun f' L' L2 w' hc hsel => zbC (v := zbb _ _ _ _ _ _) hc.st zbp (hc.old (v := Pp _ _) rfl rfl rfl) (hc.d 0 rfl rfl rfl rfl) rfl rfl rfl hsel (by repeat (first | exact Put.nil | apply Put.put | apply Put.skip)) fun w hst => ⟨rfl, hst⟩) ?_
    refine DO tab100 4 (fun _ _ _ hc => Op1.assign (v := .bool _) rfl hc.z) <| RunD.fin zaw tab100 hst rfl (fun f101 w R104 hs102 hd103 hr105 hst => ?_)
    obtain ⟨h53_, r0⟩ := hd103 0 53 rfl rfl
    obtain ⟨h54_, r1⟩ := hd103 1 54 rfl rfl
    obtain ⟨_, _, r2⟩ := hr105 2 rfl
    obtain ⟨h5_, r3⟩ := hd103 3 5 rfl rfl
    simp only [rg4, Fc, Fn, Mc, Mn, r0, r1, r2, r3, Na, An, Ca] at hst
    refine zaD (sl := [(4, Pp _ _), (5, .bool _), (6, Pp _ _), (54, gII _ _)]) ⟨(hs102 4 rfl).trans rfl, h5_, (hs102 6 rfl).trans rfl, h54_, trivial⟩ ?_
    clear hs102 hd103 hr105 tab100
    refine CN (SO (v := gII _ _) hst za0 rfl rfl .u5 fun w hst => ?_)
    refine NL <| zbf Tryz.func35 rfl (zal (vs := zbg _ _ _ _ _ _) rfl zbp rfl rfl (zac (n := 4) (hst.objL Q0) _ rfl)) (TP (v := .bool _) rfl) (zal (vs := lII _ _) rfl za0 rfl rfl (zac (n := 2) (hst.objL Q5) _ rfl)) ?_
    replace hst := hst.pick .nil
    have he := (zcC (bound := bound) g1).trans (zqS g98 h0 Om)
    rw [he]
    exact ⟨none, 0, zb7, rfl, (hst.pushNil 110 3).noD⟩
   refine zaf <| SQ <| SR <| ML rfl <| CN <| zaO zcB zbd ((Res.rs_of_sl (hst.hL _ Q2))) rfl rfl Om Om <| CN <| zaa zfc rfl <| CN <| zae (v := .int .u8 _) ty5 rfl rfl (Res.rs2_cellF ((Res.rs_of_sl (hst.hL _ Q2))) (za3 (g := zbW) (d := zaR) zbk rfl Om)) <| CN <| zaW rfl rfl <| NL <| zaj [(1, .int .u32 _), (4, Pp _ _), (6, Pp _ _), (7, Pp _ _), (8, .slice _ _ _), (10, Pp _ _), (11, .bool _), (59, .bool _)] E8 fun f => zab rfl (fun g106 => ?_) (fun g106 => ?_)
   ·refine SQ <| RunD.start [] hst (bs := [0, 0, 2, 6, 14, 30, 63, 127, 255]) (ds := [some 60, some 61, some 62, some 63, some 64, some 65, none, some 5, none]) ⟨Kr, Kr, Kr⟩ (fun tab107 => ?_)
    refine DO tab107 1 (fun f' L' w' hc=> zar (vs := zbg _ _ _ _ _ _) zbp rfl (hc.old (v := Pp _ _) rfl rfl rfl) rfl (zac (n := 4) (hc.st.objL (List.mem_append_right _ Q3)) _ rfl) hc.z) <| DO tab107 2 (fun f' L' w' hc=> zad (v := .slice _ _ _) (hc.old rfl rfl rfl) hc.z) <| DO tab107 3 (fun f' L' w' hc=> zaO zcB zbd ((Res.rs_of_sl (hc.st.hL _ (List.mem_append_right _ Q2)))) (hc.d 1 rfl rfl rfl rfl) rfl Om Om hc.z) <| DO tab107 4 (fun f' L' w' hc=> zaa zb4 (hc.d 2 rfl rfl rfl rfl) hc.z) <| DO tab107 5 (fun f' L' w' hc=> zae (v := .int .i64 _) ty3 rfl (hc.d 3 rfl rfl rfl rfl) (Res.rs2_cellF ((Res.rs_of_sl (hc.st.hL _ (List.mem_append_right _ Q2)))) (za3 (g := zbW) (d := zaR) zbk rfl Om)) hc.z) <| DO tab107 6 (fun _ _ _ hc => zaz (v1 := .int .i64 _) (v2 := .int .i64 _) zeF rfl rfl (hc.d 4 rfl rfl rfl rfl) ((zbB _ _ _).mono fun v w hp => ⟨[], ⟨hp.1, rfl⟩, hc.st.keepc hp.2⟩)) <| RunD.fin zaw tab107 hst rfl (fun f108 w R111 hs109 hd110 hr112 hst => ?_)
    obtain ⟨h60_, r0⟩ := hd110 0 60 rfl rfl
    obtain ⟨h61_, r1⟩ := hd110 1 61 rfl rfl
    obtain ⟨h62_, r2⟩ := hd110 2 62 rfl rfl
    obtain ⟨h63_, r3⟩ := hd110 3 63 rfl rfl
    obtain ⟨h64_, r4⟩ := hd110 4 64 rfl rfl
    obtain ⟨h65_, r5⟩ := hd110 5 65 rfl rfl
    simp only [rg6, Fc, Fn, Mc, Mn, r0, r1, r2, r3, r4, r5, Na, An, Ca] at hst
    refine zaD (sl := [(4, Pp _ _), (6, Pp _ _), (60, zbb _ _ _ _ _ _), (65, gII _ _)]) ⟨(hs109 4 rfl).trans rfl, (hs109 6 rfl).trans rfl, h60_, h65_, trivial⟩ ?_
    clear hs109 hd110 hr112 tab107
    refine CN (SO (v := zbb _ _ _ _ _ _) hst zbp rfl rfl .u5 fun w hst => ?_)
    refine AB rfl <| CN (SO (v := gII _ _) hst za0 rfl rfl .u4 fun w hst => ?_)
    refine NL <| zbf Tryz.func35 rfl (zal (vs := zbg _ _ _ _ _ _) rfl zbp rfl rfl (zac (n := 4) (hst.objL Q5) _ rfl)) (TP (v := .bool _) rfl) (zal (vs := lII _ _) rfl za0 rfl rfl (zac (n := 2) (hst.objL Q4) _ rfl)) ?_
    replace hst := hst.pick .nil
    have he := (zcC (bound := bound) g1).trans (znO g98 Om g106)
    rw [he]
    exact ⟨none, 0, zb7, rfl, (hst.pushNil 110 3).noD⟩
   refine zaf <| SQ <| SR <| ML rfl <| CN <| zaQ (rest := []) zcB rfl <| CN <| zak rfl rfl <| NL <| zab rfl (fun g113 => ?_) (fun g113 => ?_)
   ·refine SQ ?_
    replace hst := hst.pick (.cons .u5 (.cons .u0 (.cons .u0 (.cons .u0 (.cons .u0 (.cons .u0 .nil))))))
    apply RunD.start [(2, Res.row b4 44 _, Res.row b4 44 _)] hst (bs := [0, 0, 1, 5, 15]) (ds := [some 69, some 70, none, some 5, none]) (htab := ⟨Kr, Kr, Kr⟩)
    intro tab114
    refine DO tab114 1 (fun f' L' w' hc=> zar (vs := zbg _ _ _ _ _ _) zbp rfl (hc.old (v := Pp _ _) rfl rfl rfl) rfl (zac (n := 4) (hc.st.objL (List.mem_append_right _ Q3)) _ rfl) hc.z) <| DO tab114 2 (fun f' L' w' hc=> zar (vs := lII _ _) za0 rfl (hc.old (v := Pp _ _) rfl rfl rfl) rfl (zac (n := 2) (hc.st.objL (List.mem_append_right _ Q0)) _ rfl) hc.z) <| zcd tab114 3 Q0 (fun f' L' L2 w' hc hsel => zbC (v := zbb _ _ _ _ _ _) hc.st zbp (hc.old (v := Pp _ _) rfl rfl rfl) (hc.d 0 rfl rfl rfl rfl) rfl rfl rfl hsel (by repeat (first | exact Put.nil | apply Put.put | apply Put.skip)) fun w hst => ⟨rfl, hst⟩) ?_
    refine DO tab114 4 (fun _ _ _ hc => Op1.assign (v := .bool _) rfl hc.z) <| RunD.fin zaw tab114 hst rfl (fun f115 w R118 hs116 hd117 hr119 hst => ?_)
    obtain ⟨h69_, r0⟩ := hd117 0 69 rfl rfl
    obtain ⟨h70_, r1⟩ := hd117 1 70 rfl rfl
    obtain ⟨_, _, r2⟩ := hr119 2 rfl
    obtain ⟨h5_, r3⟩ := hd117 3 5 rfl rfl
    simp only [rg4, Fc, Fn, Mc, Mn, r0, r1, r2, r3, Na, An, Ca] at hst
    refine zaD (sl := [(4, Pp _ _), (5, .bool _), (6, Pp _ _), (70, gII _ _)]) ⟨(hs116 4 rfl).trans rfl, h5_, (hs116 6 rfl).trans rfl, h70_, trivial⟩ ?_
    clear hs116 hd117 hr119 tab114
    refine CN (SO (v := gII _ _) hst za0 rfl rfl .u5 fun w hst => ?_)
    refine NL <| zbf Tryz.func35 rfl (zal (vs := zbg _ _ _ _ _ _) rfl zbp rfl rfl (zac (n := 4) (hst.objL Q0) _ rfl)) (TP (v := .bool _) rfl) (zal (vs := lII _ _) rfl za0 rfl rfl (zac (n := 2) (hst.objL Q5) _ rfl)) ?_
    replace hst := hst.pick .nil
    have he := (zcC (bound := bound) g1).trans ((LnA.said g98 Om (Nn g106)).early Om)
    rw [he]
    exact ⟨none, 0, zb7, rfl, (hst.pushNil 110 3).noD⟩
   refine zaf <| RG <| AI rfl <| NL ?_
   exact cut15 (2) _ w (hst) (⟨LnA.said g98 Om (Nn g106), by omega⟩) E7 ⟨rfl, trivial⟩
  refine zaf ?_
  exact cut15 (0) _ w (hst) (⟨LnA.start h0 g98, h0⟩) E7 ⟨rfl, trivial⟩
end Go.SK
namespace Go.SK
open Go Go.Proofs
theorem ent35 : zaN Tryz.prog 35 := ⟨Tryz.f35, _, Tryz.func35, Kr, rfl⟩
end Go.SK
namespace Go.SK
open Go Go.Proofs
open Go.RowKit
theorem zp9 (t : Tx) (w : World) (hl : t.length ≤ 1099511627776) : Ret Tryz.prog 88 #[str t] w (fun v w' => ∃ ao cp, v = .slice ao (lnF t).length cp ∧ St w NoM [Res.sl ao (lnF t).length cp 9 1 ((lnF t).flatMap zsV)] [] w') := by
 refine zav (args := [str t]) Tryz.func88 rfl rfl rfl ?_
 have hst := St.init w
 refine SR <| AL rfl <| NSR <| AL rfl <| NSR <| AI rfl <| NL <| SQ <| SQ <| RG ?_
 refine AI rfl <| NL <| zao <| zaV ?_
 replace hst := hst.pushNil 9 1
 refine zaU [(0, str _)] ⟨rfl, trivial⟩ (fun (qq : Nat × Nat × List Tx × Option Addr × Nat) => [(3, .slice qq.2.2.2.1 qq.2.2.1.length qq.2.2.2.2), (4, .int .i64 (qq.2.1 : Int)), (5, .int .i64 (qq.1 : Int))]) (fun (qq : Nat × Nat × List Tx × Option Addr × Nat) => [Res.sl qq.2.2.2.1 qq.2.2.1.length qq.2.2.2.2 9 1 (qq.2.2.1.flatMap zsV)]) (fun (qq : Nat × Nat × List Tx × Option Addr × Nat) => lnI t qq.1 qq.2.1 qq.2.2.1) (fun (qq : Nat × Nat × List Tx × Option Addr × Nat) => t.length - qq.1) ((0, 0, [], none, 0)) hst (ztR t) E3 ?_
 intro ⟨i, k, o, aq, cq⟩ f w hst hJ ih1
 replace hst : St _ _ ([Res.sl aq o.length cq 9 1 (o.flatMap zsV)] ++ []) _ _ := hst
 replace hJ : lnI t i k o := hJ
 refine za2 (sl := [(3, .slice aq o.length cq), (4, .int .i64 (k : Int)), (5, .int .i64 (i : Int))]) E3 ?_
 have hidx : (t.getD ((i : Int).toNat) 0).toNat = (t.getD i 0).toNat := rfl
 have hj1 := hJ.1
 have hj2 := hJ.2.1
 have hj4 := hJ.2.2.2.1
 refine SQ <| SR <| MI rfl <| MS rfl <| CN <| zaL (rest := []) ty9 rfl <| CN <| zaS rfl rfl <| NL <| zab rfl (fun g2 => ?_) (fun g2 => ?_)
 ·refine zaf <| SQ <| zao <| SR <| MS rfl <| MI rfl <| CN <| zaH ty9 rfl rfl Om Om <| CN <| zak rfl rfl <| NL <| zab rfl (fun g3 => ?_) (fun g3 => ?_)
  ·refine SR <| ML rfl <| MS rfl <| MI rfl <| MI rfl <| CN <| zea ty9 rfl rfl rfl Om Om Om <| CN (zaE (z0 := [str []]) hst zjF ty9 rfl rfl Kr (.c (v := str _) rfl (h := .nil)) fun w b21 hst => ?_)
   refine CN (zaI (news := zsV ((t.drop k).take (i - k))) hst zjF ty9 rfl rfl .u1 rfl rfl rfl (zac (n := 1) (hst.objL Q0) _ rfl) rfl rfl Om fun w ao4 cp5 hst => ?_)
   replace hst := hst.drop .u1
   refine AL rfl <| NR <| MI rfl <| CN <| zas rfl rfl rfl zbe <| AI rfl <| NL <| zam <| zaj [(0, str _), (3, .slice _ _ _), (4, .int .i64 _), (5, .int .i64 _)] E4 fun f => RG <| MI rfl <| CN <| zas rfl rfl rfl zbe <| AI rfl <| NL <| zay ?_
   have hI := zvW hJ Om Om
   exact ih1 ((i + 1, i + 1, o ++ [(t.drop k).take (i - k)], ao4, cp5)) _ w ((by (try dsimp only); omega)) (by rw [List.length_append, List.flatMap_append]; exact hst) (hI) ⟨rfl, trivial⟩ ⟨(by simp only [List.length_append]; rfl), (Vi (by (try dsimp only); omega)), (Vi (by (try dsimp only); omega)), trivial⟩
  refine zaf <| zam <| RG <| MI rfl <| CN <| zas rfl rfl rfl zbe <| AI rfl <| NL <| zay ?_
  have hI := zvV hJ Om Om
  exact ih1 ((i + 1, k, o, aq, cq)) _ w (Od) hst (hI) ⟨rfl, trivial⟩ ⟨rfl, rfl, (Vi Od), trivial⟩
 refine zaJ (id := 0) rfl <| SQ <| SR <| MI rfl <| MS rfl <| CN <| zaL (rest := []) ty9 rfl <| CN <| zaS rfl rfl <| NL <| zab rfl (fun g6 => ?_) (fun g6 => ?_)
 ·refine RG <| ML rfl <| MS rfl <| MI rfl <| CN <| zcv ty9 rfl rfl Om Om <| CN (zaE (z0 := [str []]) hst zjF ty9 rfl rfl Kr (.c (v := str _) rfl (h := .nil)) fun w b33 hst => ?_)
  refine CN (zaI (news := zsV (t.drop k)) hst zjF ty9 rfl rfl .u1 rfl rfl rfl (zac (n := 1) (hst.objL Q0) _ rfl) rfl rfl Om fun w ao7 cp8 hst => ?_)
  replace hst := hst.drop .u1
  refine AL rfl <| NSR <| ML rfl <| AL rfl <| NL <| zah Tryz.func88 rfl (TP (v := .slice _ _ _) rfl) ?_
  replace hst := hst.pick (.cons .u0 .nil)
  rw [zvX hJ (by omega) (by omega)]
  exact ⟨ao7, cp8, (by simp only [List.length_append]; rfl), (by rw [List.length_append, List.flatMap_append]; exact hst.noD)⟩
 refine zaf <| SR <| ML rfl <| AL rfl <| NL <| zah Tryz.func88 rfl (TP (v := .slice _ _ _) rfl) ?_
 replace hst := hst.pick (.cons .u0 .nil)
 rw [zxP hJ (by omega)]
 exact ⟨aq, cq, rfl, hst.noD⟩
end Go.SK
namespace Go.SK
open Go Go.Proofs
theorem ent88 : zaN Tryz.prog 88 := ⟨Tryz.f88, _, Tryz.func88, Kr, rfl⟩
theorem ent89 : zaN Tryz.prog 89 := ⟨Tryz.f89, _, Tryz.func89, Kr, rfl⟩
end Go.SK
namespace Go.SK
open Go Go.Proofs
open Go.RowKit
theorem zoD (s : Tx) (w : World) (hG : LxG.holds w) (hl : s.length ≤ 140737488355328) : Ret Tryz.prog 41 #[str s] w (fun v w' => ∃ ao cp dm, dm.map InstP.L = (zbc s).1.2.2 ∧ v = .tuple #[.agg #[.int .u32 (zbc s).1.1, .int .u32 (zbc s).1.2.1, .slice ao dm.length cp], .agg #[.int .i64 (zbc s).2.1, .int .i64 (zbc s).2.2]] ∧ (dm.length ≤ 1048576 ∧ ∀ x ∈ dm, x.L.Sm) ∧ St w NoM [Res.omod 44 110 ao cp dm] [] w') := by
 refine zav (args := [str s]) Tryz.func41 rfl rfl rfl ?_
 have hst : St w NoM [] [LxG] w := St.init_Ds (by simp only [List.forall_mem_cons]; exact ⟨hG, fun _ h => absurd h List.not_mem_nil⟩)
 have hlnl := zh1 s
 refine SR <| CN <| Op1.alloc hst zb3 fun w b2 hst => CN <| Op1.alloc hst za0 fun w b3 hst => NSR <| CN <| Op1.alloc hst zb3 fun w b4 hst => NL <| SQ <| SR <| MS rfl <| CN <| zaL (rest := []) ty9 rfl <| CN (zbm rfl rfl ?_)
 refine NL <| zab rfl (fun g1 => ?_) (fun g1 => ?_)
 ·refine SQ <| RunD.start [] hst (bs := [0, 0, 3, 7]) (ds := [some 22, some 23, none, none]) ⟨Kr, Kr, Kr⟩ (fun tab2 => ?_)
  refine DO tab2 1 (fun f' L' w' hc=> zar (vs := zdH _ _ _ _ _) zb3 rfl (hc.old (v := Pp _ _) rfl rfl rfl) rfl (zac (n := 3) (hc.st.objL (List.mem_append_right _ Q0)) _ rfl) hc.z) <| DO tab2 2 (fun _ _ _ hc => zaz (v1 := .int .i64 _) (v2 := .int .i64 _) zeF rfl rfl rfl ((zbB _ _ _).mono fun v w hp => ⟨[], ⟨hp.1, rfl⟩, hc.st.keepc hp.2⟩)) <| RunD.fin zaw tab2 hst rfl (fun f3 w R6 hs4 hd5 hr7 hst => ?_)
  obtain ⟨h22_, r0⟩ := hd5 0 22 rfl rfl
  obtain ⟨h23_, r1⟩ := hd5 1 23 rfl rfl
  simp only [rg2, Fc, Fn, Mc, Mn, r0, r1, Na, An, Ca] at hst
  refine zaD (sl := [(2, Pp _ _), (3, Pp _ _), (22, zb2 _ _ _ _ _), (23, gII _ _)]) ⟨(hs4 2 rfl).trans rfl, (hs4 3 rfl).trans rfl, h22_, h23_, trivial⟩ ?_
  clear hs4 hd5 hr7 tab2
  refine CN (SO (v := zb2 _ _ _ _ _) hst zb3 rfl rfl .u2 fun w hst => ?_)
  refine CN (SO (v := gII _ _) hst za0 rfl rfl .u1 fun w hst => ?_)
  refine NL <| zai Tryz.func41 rfl (zal (vs := zdH _ _ _ _ _) rfl zb3 rfl rfl (zac (n := 3) (hst.objL Q2) _ rfl)) (zal (vs := lII _ _) rfl za0 rfl rfl (zac (n := 2) (hst.objL Q1) _ rfl)) ?_
  replace hst := hst.pick .nil
  replace hst := St.starCons ((hst.starNil).pushNil 44 4)
  rw [ze1 (by omega)]
  exact ⟨none, 0, [], rfl, rfl, ⟨Nat.zero_le _, fun x h => by cases h⟩, hst.noD⟩
 refine zaf <| SR <| CN <| Op1.alloc hst zb3 fun w b5 hst => NSR <| AB rfl <| NSR <| AI rfl <| NL <| SQ <| RG ?_
 refine MS rfl <| CN (Op1.call1 (v1 := str _) ent88 rfl rfl ((zp9 s _ Om).mono fun v w hp => ?_))
 obtain ⟨aL, cL, rfl, hp⟩ := hp
 replace hst : St _ _ (_ :: _) _ _ := hst.call0 hp
 clear hp
 refine AL rfl <| NL <| SQ <| SR <| AI rfl <| NL <| zao <| zaV ?_
 replace hst := hst.pushNil 44 4
 replace hst := hst.starNil
 replace hst := hst.pick (.cons .u0 (.cons .u0 (.cons .u1 (.cons .u0 (.cons .u0 (.cons .u0 (.cons .u0 .nil)))))))
 refine zaU [(2, Pp _ _), (3, Pp _ _), (4, Pp _ _), (5, Pp _ _), (8, .slice _ _ _)] E5 (fun (qq : Nat × Bool × Nat × Int × Int × Option Addr × Nat × List InstP) => [(6, .bool qq.2.1), (7, .int .i64 (qq.2.2.1 : Int)), (9, .int .i64 (qq.1 : Int))]) (fun (qq : Nat × Bool × Nat × Int × Int × Option Addr × Nat × List InstP) => [Res.star (qq.2.2.2.2.2.2.2.map (Res.oargs 110)), Res.sl qq.2.2.2.2.2.1 qq.2.2.2.2.2.2.2.length qq.2.2.2.2.2.2.1 44 4 (qq.2.2.2.2.2.2.2.flatMap zdu), Res.row b5 25 [.int .u32 qq.2.2.2.1, .int .u32 qq.2.2.2.2.1, .slice qq.2.2.2.2.2.1 qq.2.2.2.2.2.2.2.length qq.2.2.2.2.2.2.1]]) (fun (qq : Nat × Bool × Nat × Int × Int × Option Addr × Nat × List InstP) => PaR s qq.1 qq.2.1 qq.2.2.2.1 qq.2.2.2.2.1 qq.2.2.1 qq.2.2.2.2.2.2.2 ∧ qq.1 ≤ (lnF s).length) (fun (qq : Nat × Bool × Nat × Int × Int × Option Addr × Nat × List InstP) => (lnF s).length - qq.1) ((0, false, 5, 0, 0, none, 0, [])) hst ⟨PaR.mk0 PaM.start, Nat.zero_le _⟩ E3 ?_
 intro ⟨i, hd, wd, gn, bd, aq, cq, dm⟩ f w hst hJ0 ih8
 replace hst : St _ _ ([Res.star (dm.map (Res.oargs 110)), Res.sl aq dm.length cq 44 4 (dm.flatMap zdu), Res.row b5 25 [.int .u32 gn, .int .u32 bd, .slice aq dm.length cq]] ++ [_, _, _, _]) _ _ := hst
 replace hJ0 : PaR s i hd gn bd wd dm ∧ i ≤ (lnF s).length := hJ0
 refine za2 (sl := [(6, .bool hd), (7, .int .i64 (wd : Int)), (9, .int .i64 (i : Int))]) E3 ?_
 have hJ := hJ0.1
 have hile := hJ0.2
 have hxl := ztW s i
 have hwle := hJ.le
 have hdln := hJ.len
 refine SQ <| SR <| MI rfl <| ML rfl <| CN <| zaQ (rest := []) zjF rfl <| CN <| zaS rfl rfl <| NL <| zab rfl (fun g9 => ?_) (fun g9 => ?_)
 ·have hi : i < (lnF s).length := by omega
  refine zaf <| SQ <| zao <| SR <| MB rfl <| CN <| zaZ rfl <| NL <| zaA rfl (fun g10 => ?_) (fun g10 => ?_)
  ·obtain rfl : hd = false := by simpa using g10
   have hI := hJ.off
   obtain rfl := hJ.w0 rfl
   refine SR <| ML rfl <| MI rfl ?_
   obtain ⟨bs11, rfl⟩ := Res.sl_some (hst.hL _ Q3) Om
   refine CN <| za5 zjF ty9 rfl rfl Om Om <| CN <| zae (v := str _) ty9 rfl rfl (Res.sl_cell (hst.hL _ Q3) (zcq (g := zsV) (d := []) zme rfl Om)) <| CN (Op1.call1 (v1 := str _) zxX rfl rfl ((zgA ((lnF s).getD i []) _ Om).mono fun v w hp => ?_))
   obtain ⟨ao_x1, cp_x1, rfl, hp⟩ := hp
   replace hst := hst.call0 hp
   clear hp
   refine CN <| zad (v := .tuple #[.slice _ _ _, gII _ _]) rfl <| CN <| Ex (.slice _ _ _) rfl rfl <| CN <| Ex (gII _ _) rfl rfl <| CN <| Op1.alloc hst za0 fun w b11 hst => AL rfl <| CN (SO (v := gII _ _) hst za0 rfl rfl .u0 fun w hst => ?_)
   refine NL <| SQ <| SR <| CN <| zaa zbr rfl <| CN <| zae (v := .int .i64 _) zcO rfl rfl (hst.cellL Q0 rfl) <| CN <| zaW rfl rfl <| NL <| zaj [(2, Pp _ _), (3, Pp _ _), (4, Pp _ _), (5, Pp _ _), (6, .bool _), (7, .int .i64 _), (8, .slice _ _ _), (9, .int .i64 _), (10, .slice _ _ _), (11, Pp _ _), (44, .bool _)] E11 fun f => zab rfl (fun g12 => ?_) (fun g12 => ?_)
   ·refine SQ <| RunD.start [] hst (bs := [0, 0, 2, 0, 8, 30, 63, 127]) (ds := [some 45, some 46, some 47, some 48, some 49, some 50, none, none]) ⟨Kr, Kr, Kr⟩ (fun tab13 => ?_)
    refine DO tab13 1 (fun f' L' w' hc=> zar (vs := zdH _ _ _ _ _) zb3 rfl (hc.old (v := Pp _ _) rfl rfl rfl) rfl (zac (n := 3) (hc.st.objL (List.mem_append_right _ Q6)) _ rfl) hc.z) <| DO tab13 2 (fun f' L' w' hc=> zaa zbr (hc.old (v := Pp _ _) rfl rfl rfl) hc.z) <| DO tab13 3 (fun f' L' w' hc=> zae (v := .int .i64 _) zcO rfl (hc.d 1 rfl rfl rfl rfl) (hc.st.cellL (List.mem_append_right _ Q0) rfl) hc.z) <| DO tab13 4 (fun f' L' w' hc=> zad (v := .int .i64 _) (hc.old rfl rfl rfl) hc.z) <| DO tab13 5 (fun f' L' w' hc=> zas (hc.d 3 rfl rfl rfl rfl) rfl rfl zbe hc.z) <| DO tab13 6 (fun _ _ _ hc => zaz (v1 := .int .i64 _) (v2 := .int .i64 _) zeF rfl (hc.d 2 rfl rfl rfl rfl) (hc.d 4 rfl rfl rfl rfl) ((zbB _ _ _).mono fun v w hp => ⟨[], ⟨hp.1, rfl⟩, hc.st.keepc hp.2⟩)) <| RunD.fin zaw tab13 hst rfl (fun f14 w R17 hs15 hd16 hr18 hst => ?_)
    obtain ⟨h45_, r0⟩ := hd16 0 45 rfl rfl
    obtain ⟨h46_, r1⟩ := hd16 1 46 rfl rfl
    obtain ⟨h47_, r2⟩ := hd16 2 47 rfl rfl
    obtain ⟨h48_, r3⟩ := hd16 3 48 rfl rfl
    obtain ⟨h49_, r4⟩ := hd16 4 49 rfl rfl
    obtain ⟨h50_, r5⟩ := hd16 5 50 rfl rfl
    simp only [rg6, Fc, Fn, Mc, Mn, r0, r1, r2, r3, r4, r5, Na, An, Ca] at hst
    refine zaD (sl := [(2, Pp _ _), (3, Pp _ _), (45, zb2 _ _ _ _ _), (50, gII _ _)]) ⟨(hs15 2 rfl).trans rfl, (hs15 3 rfl).trans rfl, h45_, h50_, trivial⟩ ?_
    clear hs15 hd16 hr18 tab13
    refine CN (SO (v := zb2 _ _ _ _ _) hst zb3 rfl rfl .u8 fun w hst => ?_)
    refine CN (SO (v := gII _ _) hst za0 rfl rfl .u7 fun w hst => ?_)
    refine NL <| zai Tryz.func41 rfl (zal (vs := zdH _ _ _ _ _) rfl zb3 rfl rfl (zac (n := 3) (hst.objL Q8) _ rfl)) (zal (vs := lII _ _) rfl za0 rfl rfl (zac (n := 2) (hst.objL Q7) _ rfl)) ?_
    replace hst := hst.pick .nil
    replace hst := St.starCons ((hst.starNil).pushNil 44 4)
    rw [zdr (by omega), hI.notoks hi g12]
    exact ⟨none, 0, [], rfl, rfl, ⟨Nat.zero_le _, fun x h => by cases h⟩, hst.noD⟩
   refine zaf <| SR <| ML rfl <| CN <| zaQ (rest := []) zcB rfl <| CN <| zbm rfl rfl <| NL <| zab rfl (fun g19 => ?_) (fun g19 => ?_)
   ·refine SR <| ML rfl <| MI rfl <| CN <| za5 zjF ty9 rfl rfl Om Om <| CN <| zae (v := str _) ty9 rfl rfl (Res.sl_cell (hst.hL _ Q5) (zcq (g := zsV) (d := []) zme rfl Om)) <| CN <| Op1.call1 (v1 := str _) ent89 rfl rfl <| Ret.det (zpY ((lnF s).getD i []) _ (hst.hD _ Q0) Om) hst fun w hst => CN <| zad (v := .tuple #[gUU _ _, gII _ _]) rfl <| CN <| Ex (gUU _ _) rfl rfl <| CN <| Ex (gII _ _) rfl rfl <| CN <| Op1.alloc hst zcm fun w b12 hst => CN <| Op1.alloc hst za0 fun w b13 hst => CN (SO (v := gUU _ _) hst zcm rfl rfl .u1 fun w hst => ?_)
    refine CN (SO (v := gII _ _) hst za0 rfl rfl .u0 fun w hst => ?_)
    refine NL <| SQ <| SR <| CN <| zaa zbr rfl <| CN <| zae (v := .int .i64 _) zcO rfl rfl (hst.cellL Q0 rfl) <| CN <| zaW rfl rfl <| NL <| zab rfl (fun g20 => ?_) (fun g20 => ?_)
    ·refine SQ <| RunD.start [] hst (bs := [0, 0, 2, 0, 8, 30, 63, 127]) (ds := [some 65, some 66, some 67, some 68, some 69, some 70, none, none]) ⟨Kr, Kr, Kr⟩ (fun tab21 => ?_)
     refine DO tab21 1 (fun f' L' w' hc=> zar (vs := zdH _ _ _ _ _) zb3 rfl (hc.old (v := Pp _ _) rfl rfl rfl) rfl (zac (n := 3) (hc.st.objL (List.mem_append_right _ Q8)) _ rfl) hc.z) <| DO tab21 2 (fun f' L' w' hc=> zaa zbr (hc.old (v := Pp _ _) rfl rfl rfl) hc.z) <| DO tab21 3 (fun f' L' w' hc=> zae (v := .int .i64 _) zcO rfl (hc.d 1 rfl rfl rfl rfl) (hc.st.cellL (List.mem_append_right _ Q0) rfl) hc.z) <| DO tab21 4 (fun f' L' w' hc=> zad (v := .int .i64 _) (hc.old rfl rfl rfl) hc.z) <| DO tab21 5 (fun f' L' w' hc=> zas (hc.d 3 rfl rfl rfl rfl) rfl rfl zbe hc.z) <| DO tab21 6 (fun _ _ _ hc => zaz (v1 := .int .i64 _) (v2 := .int .i64 _) zeF rfl (hc.d 2 rfl rfl rfl rfl) (hc.d 4 rfl rfl rfl rfl) ((zbB _ _ _).mono fun v w hp => ⟨[], ⟨hp.1, rfl⟩, hc.st.keepc hp.2⟩)) <| RunD.fin zaw tab21 hst rfl (fun f22 w R25 hs23 hd24 hr26 hst => ?_)
     obtain ⟨h65_, r0⟩ := hd24 0 65 rfl rfl
     obtain ⟨h66_, r1⟩ := hd24 1 66 rfl rfl
     obtain ⟨h67_, r2⟩ := hd24 2 67 rfl rfl
     obtain ⟨h68_, r3⟩ := hd24 3 68 rfl rfl
     obtain ⟨h69_, r4⟩ := hd24 4 69 rfl rfl
     obtain ⟨h70_, r5⟩ := hd24 5 70 rfl rfl
     simp only [rg6, Fc, Fn, Mc, Mn, r0, r1, r2, r3, r4, r5, Na, An, Ca] at hst
     refine zaD (sl := [(2, Pp _ _), (3, Pp _ _), (65, zb2 _ _ _ _ _), (70, gII _ _)]) ⟨(hs23 2 rfl).trans rfl, (hs23 3 rfl).trans rfl, h65_, h70_, trivial⟩ ?_
     clear hs23 hd24 hr26 tab21
     refine CN (SO (v := zb2 _ _ _ _ _) hst zb3 rfl rfl .u10 fun w hst => ?_)
     refine CN (SO (v := gII _ _) hst za0 rfl rfl .u9 fun w hst => ?_)
     refine NL <| zai Tryz.func41 rfl (zal (vs := zdH _ _ _ _ _) rfl zb3 rfl rfl (zac (n := 3) (hst.objL Q10) _ rfl)) (zal (vs := lII _ _) rfl za0 rfl rfl (zac (n := 2) (hst.objL Q9) _ rfl)) ?_
     replace hst := hst.pick .nil
     replace hst := St.starCons ((hst.starNil).pushNil 44 4)
     rw [zdr (by omega), hI.nohead hi rfl (fun h => by have := h.2; omega) g20]
     exact ⟨none, 0, [], rfl, rfl, ⟨Nat.zero_le _, fun x h => by cases h⟩, hst.noD⟩
    refine zaf <| SR <| CN <| zaa zmx rfl <| CN <| zae (v := .int .u32 _) zbt rfl rfl (hst.cellL Q1 rfl) <| CN <| zaa zfO rfl <| CN (SO (v := .int .u32 _) hst zbt rfl rfl .u6 fun w hst => ?_)
    refine NL <| zaj [(2, Pp _ _), (3, Pp _ _), (4, Pp _ _), (5, Pp _ _), (7, .int .i64 _), (8, .slice _ _ _), (9, .int .i64 _), (12, Pp _ _)] E8 fun f => SR <| CN <| zaa zmw rfl <| CN <| zae (v := .int .u32 _) zbt rfl rfl (hst.cellL Q1 rfl) <| CN <| zaa zcA rfl <| CN (SO (v := .int .u32 _) hst zbt rfl rfl .u6 fun w hst => ?_)
    refine NR <| AB rfl <| NL <| zam <| RG <| MI rfl <| CN <| zas rfl rfl rfl zbe <| AI rfl <| NL <| zay ?_
    replace hst := hst.pick (.cons .u4 (.cons .u4 (.cons .u4 (.cons .u4 (.cons .u4 (.cons .u4 (.cons .u4 .nil)))))))
    exact ih8 ((i + 1, true, 5, (zcf ((lnF s).getD i [])).1.1, (zcf ((lnF s).getD i [])).1.2, aq, cq, dm)) _ w (Od) hst (⟨PaR.mk1 (hI.head hi rfl (fun h => by have := h.2; omega) g20) (show (5 : Nat) ≠ 0 by decide), by (try dsimp only); omega⟩) E5 ⟨rfl, rfl, (Vi Od), trivial⟩
   refine zaf <| zam <| RG <| MI rfl <| CN <| zas rfl rfl rfl zbe <| AI rfl <| NL <| zay ?_
   replace hst := hst.pick (.cons .u2 (.cons .u2 (.cons .u2 (.cons .u2 (.cons .u2 (.cons .u2 (.cons .u2 .nil)))))))
   exact ih8 ((i + 1, false, 5, gn, bd, aq, cq, dm)) _ w (Od) hst (⟨PaR.mk0 (hI.idle hi rfl (Nn g12) Om), by (try dsimp only); omega⟩) E5 ⟨rfl, rfl, (Vi Od), trivial⟩
  obtain rfl : hd = true := by simpa using g10
  have hI := hJ.on
  have hw1 := hJ.w1 rfl
  have hbdr := hI.bdr hw1
  refine SQ ?_
  obtain ⟨bs27, rfl⟩ := Res.sl_some (hst.hL _ Q3) Om
  refine zhu [(11, 13)] [] hst (bs := [0, 0, 3, 7, 0, 16, 63, 127, 255, 255, 255, 0, 0, 6655, 15359, 32767]) (ds := [some 78, some 79, some 80, some 81, some 82, some 83, some 84, some 77, some 85, some 86, some 87, some 14, some 16, none, some 15, none]) ⟨Kr, Kr, Kr⟩ (fun tab28 => ?_)
  refine DO tab28 1 (fun f' L' w' hc=> zad (v := .slice _ _ _) (hc.old rfl rfl rfl) hc.z) <| DO tab28 2 (fun f' L' w' hc=> zad (v := .int .i64 _) (hc.old rfl rfl rfl) hc.z) <| DO tab28 3 (fun f' L' w' hc=> za5 zjF ty9 (hc.d 0 rfl rfl rfl rfl) (hc.d 1 rfl rfl rfl rfl) (by omega) (by omega) hc.z) <| DO tab28 4 (fun f' L' w' hc=> zae (v := str _) ty9 rfl (hc.d 2 rfl rfl rfl rfl) (Res.sl_cell (hc.st.hL _ (List.mem_append_right _ Q3)) (zcq (g := zsV) (d := []) zme rfl (by omega))) hc.z) <| DO tab28 5 (fun f' L' w' hc=> zaa zcA (hc.old (v := Pp _ _) rfl rfl rfl) hc.z) <| DO tab28 6 (fun f' L' w' hc=> zae (v := .int .u32 _) zbt rfl (hc.d 4 rfl rfl rfl rfl) (hc.st.cellL (List.mem_append_right _ Q2) rfl) hc.z) <| RunD.op (fun v rs => ∃ ro rc, v = .tuple #[.agg #[.int .u16 (zaT ((lnF s).getD i []) bd).1.op, .int .u32 (zaT ((lnF s).getD i []) bd).1.ty, .int .u32 (zaT ((lnF s).getD i []) bd).1.res, .slice ro (zaT ((lnF s).getD i []) bd).1.args.length rc], .bool (zaT ((lnF s).getD i []) bd).2.1, .agg #[.int .i64 (zaT ((lnF s).getD i []) bd).2.2.1, .int .i64 (zaT ((lnF s).getD i []) bd).2.2.2]] ∧ rs = [Res.sl ro (zaT ((lnF s).getD i []) bd).1.args.length rc 110 3 ((zaT ((lnF s).getD i []) bd).1.args.flatMap zff)] ∧ (zaT ((lnF s).getD i []) bd).1.Sm) tab28 7 (fun f' L' w' hc=> zaz (v1 := str _) (v2 := .int .u32 _) ent35 rfl (hc.d 3 rfl rfl rfl rfl) (hc.d 5 rfl rfl rfl rfl) ((zpX ((lnF s).getD i []) bd _ (hc.st.hD _ Q0) (by omega) (by omega) ⟨by omega, by omega⟩).mono fun v w hp => (by obtain ⟨ro, rc, hsm, rfl, hp⟩ := hp; exact ⟨_, ⟨ro, rc, rfl, rfl, hsm⟩, hc.st.call0 hp⟩))) <| zfX (fun g v rs => v = g 84 ∧ rs = []) tab28 8 (fun f' L' w' hc=> zad (evs rfl rfl) ⟨[], fun g hg => ⟨(hg 6 84 rfl rfl).symm, rfl⟩, hc.st⟩) <| zfX (fun g v rs => (∀ ro rc, g 84 = .tuple #[.agg #[.int .u16 (zaT ((lnF s).getD i []) bd).1.op, .int .u32 (zaT ((lnF s).getD i []) bd).1.ty, .int .u32 (zaT ((lnF s).getD i []) bd).1.res, .slice ro (zaT ((lnF s).getD i []) bd).1.args.length rc], .bool (zaT ((lnF s).getD i []) bd).2.1, .agg #[.int .i64 (zaT ((lnF s).getD i []) bd).2.2.1, .int .i64 (zaT ((lnF s).getD i []) bd).2.2.2]] → v = .agg #[.int .u16 (zaT ((lnF s).getD i []) bd).1.op, .int .u32 (zaT ((lnF s).getD i []) bd).1.ty, .int .u32 (zaT ((lnF s).getD i []) bd).1.res, .slice ro (zaT ((lnF s).getD i []) bd).1.args.length rc]) ∧ rs = []) tab28 9 (fun f' L' w' hc=> by obtain ⟨_, _, q1, _⟩ := hc.dep 6 84 rfl rfl; obtain ⟨ro, rc, htc, _⟩ := q1; obtain ⟨gm, _, q2, hgm, _⟩ := hc.dep 7 77 rfl rfl; have htm : f' 77 = .tuple #[.agg #[.int .u16 (zaT ((lnF s).getD i []) bd).1.op, .int .u32 (zaT ((lnF s).getD i []) bd).1.ty, .int .u32 (zaT ((lnF s).getD i []) bd).1.res, .slice ro (zaT ((lnF s).getD i []) bd).1.args.length rc], .bool (zaT ((lnF s).getD i []) bd).2.1, .agg #[.int .i64 (zaT ((lnF s).getD i []) bd).2.2.1, .int .i64 (zaT ((lnF s).getD i []) bd).2.2.2]] := (by rw [q2.1, hgm 6 84 rfl rfl, htc]); exact Op1.extract (v := .agg #[.int .u16 (zaT ((lnF s).getD i []) bd).1.op, .int .u32 (zaT ((lnF s).getD i []) bd).1.ty, .int .u32 (zaT ((lnF s).getD i []) bd).1.res, .slice ro (zaT ((lnF s).getD i []) bd).1.args.length rc]) (evs htm rfl) rfl ⟨[], fun g hg => ⟨fun ro2 rc2 e => (by rw [hg 6 84 rfl rfl, htc] at e; cases e; rfl), rfl⟩, hc.st⟩) <| RunD.op (det (.bool (zaT ((lnF s).getD i []) bd).2.1)) tab28 10 (fun f' L' w' hc=> by obtain ⟨_, _, q1, _⟩ := hc.dep 6 84 rfl rfl; obtain ⟨ro, rc, htc, _⟩ := q1; obtain ⟨gm, _, q2, hgm, _⟩ := hc.dep 7 77 rfl rfl; have htm : f' 77 = .tuple #[.agg #[.int .u16 (zaT ((lnF s).getD i []) bd).1.op, .int .u32 (zaT ((lnF s).getD i []) bd).1.ty, .int .u32 (zaT ((lnF s).getD i []) bd).1.res, .slice ro (zaT ((lnF s).getD i []) bd).1.args.length rc], .bool (zaT ((lnF s).getD i []) bd).2.1, .agg #[.int .i64 (zaT ((lnF s).getD i []) bd).2.2.1, .int .i64 (zaT ((lnF s).getD i []) bd).2.2.2]] := (by rw [q2.1, hgm 6 84 rfl rfl, htc]); exact Op1.extract (v := .bool (zaT ((lnF s).getD i []) bd).2.1) (evs htm rfl) rfl hc.z) <| RunD.op (det (.agg #[.int .i64 (zaT ((lnF s).getD i []) bd).2.2.1, .int .i64 (zaT ((lnF s).getD i []) bd).2.2.2])) tab28 11 (fun f' L' w' hc=> by obtain ⟨_, _, q1, _⟩ := hc.dep 6 84 rfl rfl; obtain ⟨ro, rc, htc, _⟩ := q1; obtain ⟨gm, _, q2, hgm, _⟩ := hc.dep 7 77 rfl rfl; have htm : f' 77 = .tuple #[.agg #[.int .u16 (zaT ((lnF s).getD i []) bd).1.op, .int .u32 (zaT ((lnF s).getD i []) bd).1.ty, .int .u32 (zaT ((lnF s).getD i []) bd).1.res, .slice ro (zaT ((lnF s).getD i []) bd).1.args.length rc], .bool (zaT ((lnF s).getD i []) bd).2.1, .agg #[.int .i64 (zaT ((lnF s).getD i []) bd).2.2.1, .int .i64 (zaT ((lnF s).getD i []) bd).2.2.2]] := (by rw [q2.1, hgm 6 84 rfl rfl, htc]); exact Op1.extract (v := .agg #[.int .i64 (zaT ((lnF s).getD i []) bd).2.2.1, .int .i64 (zaT ((lnF s).getD i []) bd).2.2.2]) (evs htm rfl) rfl hc.z) <| RunD.op (fun v rs => ∃ b, v = .pointer (some ⟨b, 0, none⟩) ∧ rs = [Res.row b 44 [.int .u16 0, .int .u32 0, .int .u32 0, .slice none 0 0]]) tab28 12 (fun f' L' w' hc=> Op1.alloc hc.st zbp fun w b hst => ⟨[_], ⟨b, rfl, rfl⟩, hst⟩) <| RunD.op (fun v rs => ∃ b, v = .pointer (some ⟨b, 0, none⟩) ∧ rs = [Res.row b 28 [.int .i64 0, .int .i64 0]]) tab28 13 (fun f' L' w' hc=> Op1.alloc hc.st za0 fun w b hst => ⟨[_], ⟨b, rfl, rfl⟩, hst⟩) <| zkx (fun g v rs => v = undef ∧ ∃ b, g 14 = .pointer (some ⟨b, 0, none⟩) ∧ ∀ ro rc, g 84 = .tuple #[.agg #[.int .u16 (zaT ((lnF s).getD i []) bd).1.op, .int .u32 (zaT ((lnF s).getD i []) bd).1.ty, .int .u32 (zaT ((lnF s).getD i []) bd).1.res, .slice ro (zaT ((lnF s).getD i []) bd).1.args.length rc], .bool (zaT ((lnF s).getD i []) bd).2.1, .agg #[.int .i64 (zaT ((lnF s).getD i []) bd).2.2.1, .int .i64 (zaT ((lnF s).getD i []) bd).2.2.2]] → rs = [Res.row b 44 [.int .u16 (zaT ((lnF s).getD i []) bd).1.op, .int .u32 (zaT ((lnF s).getD i []) bd).1.ty, .int .u32 (zaT ((lnF s).getD i []) bd).1.res, .slice ro (zaT ((lnF s).getD i []) bd).1.args.length rc]]) tab28 14 11 14 Q0 rfl (fun f' L' L'' w' hc hq => by obtain ⟨_, rs, hz, _, hp⟩ := hq; obtain ⟨b, hb, hrs⟩ := hz; subst hrs; obtain ⟨_, _, q1, _⟩ := hc.dep 6 84 rfl rfl; obtain ⟨ro, rc, htc, _⟩ := q1; obtain ⟨gx, _, q3, hgx, _⟩ := hc.dep 8 85 rfl rfl; have htx := q3.1 ro rc ((hgx 6 84 rfl rfl).trans htc); have hst := hc.st.perm (hp.append_right _); exact zbC (v := zbb _ _ _ _ _ _) hst zbp (evs hb rfl) (evs htx rfl) rfl rfl rfl .here (by repeat (first | exact Put.nil | apply Put.put | apply Put.skip)) fun w hst => ⟨[_], fun g hg => ⟨rfl, b, (hg 11 14 rfl rfl).trans hb, fun ro2 rc2 e => (by rw [hg 6 84 rfl rfl, htc] at e; cases e; rfl)⟩, hst⟩) ?_
  refine DO tab28 15 (fun _ _ _ hc => Op1.assign (v := .bool _) (hc.d 9 rfl rfl rfl rfl) hc.z) <| zik zaw tab28 hst rfl (fun f29 w R32 hs30 hd31 hr33 hst => ?_)
  obtain ⟨h78_, r0⟩ := hd31 0 78 rfl rfl
  obtain ⟨h79_, r1⟩ := hd31 1 79 rfl rfl
  obtain ⟨h80_, r2⟩ := hd31 2 80 rfl rfl
  obtain ⟨h81_, r3⟩ := hd31 3 81 rfl rfl
  obtain ⟨h82_, r4⟩ := hd31 4 82 rfl rfl
  obtain ⟨h83_, r5⟩ := hd31 5 83 rfl rfl
  obtain ⟨ro, rc, h84_, r6, hsm⟩ := hd31 6 84 rfl rfl
  obtain ⟨h77_, r7⟩ := hd31 7 77 rfl rfl
  rw [DrawTab.mask tab28 _ (j := 7) (l := 6) (t := 84) rfl rfl, h84_] at h77_
  obtain ⟨h85_, r8⟩ := hd31 8 85 rfl rfl
  replace h85_ := h85_ ro rc ((DrawTab.mask tab28 _ (j := 8) (l := 6) (t := 84) rfl rfl).trans h84_)
  obtain ⟨h86_, r9⟩ := hd31 9 86 rfl rfl
  obtain ⟨h87_, r10⟩ := hd31 10 87 rfl rfl
  obtain ⟨b16, h16_, r12⟩ := hd31 12 16 rfl rfl
  obtain ⟨_, _, b14, h14_, r13⟩ := hr33 13 rfl
  rw [DrawTab.mask tab28 _ (j := 13) (l := 11) (t := 14) rfl rfl] at h14_
  replace r13 := r13 ro rc ((DrawTab.mask tab28 _ (j := 13) (l := 6) (t := 84) rfl rfl).trans h84_)
  obtain ⟨h15_, r14⟩ := hd31 14 15 rfl rfl
  simp only [rg15, Fc, Fn, Mc, Mn, show zer [(11, 13)] R32 0 = R32 0 from rfl, show zer [(11, 13)] R32 1 = R32 1 from rfl, show zer [(11, 13)] R32 2 = R32 2 from rfl, show zer [(11, 13)] R32 3 = R32 3 from rfl, show zer [(11, 13)] R32 4 = R32 4 from rfl, show zer [(11, 13)] R32 5 = R32 5 from rfl, show zer [(11, 13)] R32 6 = R32 6 from rfl, show zer [(11, 13)] R32 7 = R32 7 from rfl, show zer [(11, 13)] R32 8 = R32 8 from rfl, show zer [(11, 13)] R32 9 = R32 9 from rfl, show zer [(11, 13)] R32 10 = R32 10 from rfl, show zer [(11, 13)] R32 11 = [] from rfl, show zer [(11, 13)] R32 12 = R32 12 from rfl, show zer [(11, 13)] R32 13 = R32 13 from rfl, show zer [(11, 13)] R32 14 = R32 14 from rfl, r0, r1, r2, r3, r4, r5, r6, r7, r8, r9, r10, r12, r13, r14, Na, An, Ca] at hst
  refine zaD (sl := [(2, Pp _ _), (3, Pp _ _), (4, Pp _ _), (5, Pp _ _), (6, .bool _), (7, .int .i64 _), (8, .slice _ _ _), (9, .int .i64 _), (14, Pp _ _), (15, .bool _), (16, Pp _ _), (87, gII _ _)]) ⟨(hs30 2 rfl).trans rfl, (hs30 3 rfl).trans rfl, (hs30 4 rfl).trans rfl, (hs30 5 rfl).trans rfl, (hs30 6 rfl).trans rfl, (hs30 7 rfl).trans rfl, (hs30 8 rfl).trans rfl, (hs30 9 rfl).trans rfl, h14_, h15_, h16_, h87_, trivial⟩ ?_
  clear hs30 hd31 hr33 tab28
  refine CN (SO (v := gII _ _) hst za0 rfl rfl .u1 fun w hst => ?_)
  refine NL <| zaj [(2, Pp _ _), (3, Pp _ _), (4, Pp _ _), (5, Pp _ _), (6, .bool _), (7, .int .i64 _), (8, .slice _ _ _), (9, .int .i64 _), (14, Pp _ _), (15, .bool _), (16, Pp _ _)] E11 fun f => SQ <| SR <| CN <| zaa zbr rfl <| CN <| zae (v := .int .i64 _) zcO rfl rfl (hst.cellL Q1 rfl) <| CN <| zaW rfl rfl <| NL <| zab rfl (fun g34 => ?_) (fun g34 => ?_)
  ·refine SQ <| RunD.start [] hst (bs := [0, 0, 2, 0, 8, 30, 63, 127]) (ds := [some 91, some 92, some 93, some 94, some 95, some 96, none, none]) ⟨Kr, Kr, Kr⟩ (fun tab35 => ?_)
   refine DO tab35 1 (fun f' L' w' hc=> zar (vs := zdH _ _ _ _ _) zb3 rfl (hc.old (v := Pp _ _) rfl rfl rfl) rfl (zac (n := 3) (hc.st.objL (List.mem_append_right _ Q7)) _ rfl) hc.z) <| DO tab35 2 (fun f' L' w' hc=> zaa zbr (hc.old (v := Pp _ _) rfl rfl rfl) hc.z) <| DO tab35 3 (fun f' L' w' hc=> zae (v := .int .i64 _) zcO rfl (hc.d 1 rfl rfl rfl rfl) (hc.st.cellL (List.mem_append_right _ Q1) rfl) hc.z) <| DO tab35 4 (fun f' L' w' hc=> zad (v := .int .i64 _) (hc.old rfl rfl rfl) hc.z) <| DO tab35 5 (fun f' L' w' hc=> zas (hc.d 3 rfl rfl rfl rfl) rfl rfl zbe hc.z) <| DO tab35 6 (fun _ _ _ hc => zaz (v1 := .int .i64 _) (v2 := .int .i64 _) zeF rfl (hc.d 2 rfl rfl rfl rfl) (hc.d 4 rfl rfl rfl rfl) ((zbB _ _ _).mono fun v w hp => ⟨[], ⟨hp.1, rfl⟩, hc.st.keepc hp.2⟩)) <| RunD.fin zaw tab35 hst rfl (fun f36 w R39 hs37 hd38 hr40 hst => ?_)
   obtain ⟨h91_, r0⟩ := hd38 0 91 rfl rfl
   obtain ⟨h92_, r1⟩ := hd38 1 92 rfl rfl
   obtain ⟨h93_, r2⟩ := hd38 2 93 rfl rfl
   obtain ⟨h94_, r3⟩ := hd38 3 94 rfl rfl
   obtain ⟨h95_, r4⟩ := hd38 4 95 rfl rfl
   obtain ⟨h96_, r5⟩ := hd38 5 96 rfl rfl
   simp only [rg6, Fc, Fn, Mc, Mn, r0, r1, r2, r3, r4, r5, Na, An, Ca] at hst
   refine zaD (sl := [(2, Pp _ _), (3, Pp _ _), (91, zb2 _ _ _ _ _), (96, gII _ _)]) ⟨(hs37 2 rfl).trans rfl, (hs37 3 rfl).trans rfl, h91_, h96_, trivial⟩ ?_
   clear hs37 hd38 hr40 tab35
   refine CN (SO (v := zb2 _ _ _ _ _) hst zb3 rfl rfl .u9 fun w hst => ?_)
   refine CN (SO (v := gII _ _) hst za0 rfl rfl .u8 fun w hst => ?_)
   refine NL <| zai Tryz.func41 rfl (zal (vs := zdH _ _ _ _ _) rfl zb3 rfl rfl (zac (n := 3) (hst.objL Q9) _ rfl)) (zal (vs := lII _ _) rfl za0 rfl rfl (zac (n := 2) (hst.objL Q8) _ rfl)) ?_
   replace hst := hst.pick .nil
   replace hst := St.starCons ((hst.starNil).pushNil 44 4)
   rw [zdr (by omega), hI.noline hi hw1 g34]
   exact ⟨none, 0, [], rfl, rfl, ⟨Nat.zero_le _, fun x h => by cases h⟩, hst.noD⟩
  refine zaf <| SR <| MB rfl <| NL <| zaA rfl (fun g41 => ?_) (fun g41 => ?_)
  ·have hfl := hI.fault hw1 g41
   refine SR <| CN <| zaa zdj rfl <| CN (zae (v := .int .u16 _) zi4 rfl rfl (hst.cellL Q2 rfl) ?_)
   obtain ⟨fm, hfm⟩ : ∃ x, zbq (zaT ((lnF s).getD i []) bd).1.op = x := ⟨_, rfl⟩
   obtain ⟨ob, hob⟩ : ∃ x, (zbv (zaT ((lnF s).getD i []) bd).1.op).isSome = x := ⟨_, rfl⟩
   have hfr : zbT fm (zaT ((lnF s).getD i []) bd).1.args ≤ 65535 := by rw [← hfm]; exact (zmj hfl.2).2
   have hrmY : zbT fm (InstP.args (⟨(zaT ((lnF s).getD i []) bd).1.op, (zaT ((lnF s).getD i []) bd).1.ty, (zaT ((lnF s).getD i []) bd).1.res, ro, rc, (zaT ((lnF s).getD i []) bd).1.args⟩ : InstP)) = zbT fm (zaT ((lnF s).getD i []) bd).1.args := rfl
   have hrmF : zbT (zbq (zaT ((lnF s).getD i []) bd).1.op) (zaT ((lnF s).getD i []) bd).1.args = zbT fm (zaT ((lnF s).getD i []) bd).1.args := by rw [hfm]
   refine CN <| Op1.call1 (v1 := .int .u16 _) zog rfl rfl <| Ret.det (zeJ hfm hob _) hst fun w hst => CN <| zad (v := .tuple #[zau _ _ _ _ _ _ _ _, .bool _]) rfl <| CN <| Ex (zau _ _ _ _ _ _ _ _) rfl rfl <| CN <| Ex (.bool _) rfl rfl <| CN <| Op1.alloc hst zaM fun w b17 hst => CN (SO (v := zau _ _ _ _ _ _ _ _) hst zaM rfl rfl .u0 fun w hst => ?_)
   refine AB rfl <| NSR <| MI rfl <| CN <| zar (vs := zbg _ _ _ _ _ _) zbp rfl rfl rfl (zac (n := 4) (hst.objL Q3) _ rfl) <| CN <| zar (vs := zaC _ _ _ _ _ _ _ _) zaM rfl rfl rfl (zac (n := 8) (hst.objL Q0) _ rfl) <| CN <| zaz (v1 := zbb _ _ _ _ _ _) (v2 := zau _ _ _ _ _ _ _ _) zwj rfl rfl rfl <| Ret.det (zf1 (⟨(zaT ((lnF s).getD i []) bd).1.op, (zaT ((lnF s).getD i []) bd).1.ty, (zaT ((lnF s).getD i []) bd).1.res, ro, rc, (zaT ((lnF s).getD i []) bd).1.args⟩ : InstP) fm _ (Res.rs_of_sl (hst.hL _ Q1)) hsm.1 hsm.2.1) hst fun w hst => CN <| zas rfl rfl rfl zbe <| AI rfl <| NL <| SQ <| SR <| MI rfl ?_
   refine CN <| zbm rfl rfl <| NL <| zaj [(2, Pp _ _), (3, Pp _ _), (4, Pp _ _), (5, Pp _ _), (6, .bool _), (7, .int .i64 _), (8, .slice _ _ _), (9, .int .i64 _), (14, Pp _ _), (110, .bool _)] E10 fun f => zab rfl (fun g42 => ?_) (fun g42 => ?_)
   ·refine SQ <| RunD.start [] hst (bs := [0, 0, 2, 6, 15, 31]) (ds := [some 111, some 112, some 113, some 114, none, none]) ⟨Kr, Kr, Kr⟩ (fun tab43 => ?_)
    refine DO tab43 1 (fun f' L' w' hc=> zar (vs := zdH _ _ _ _ _) zb3 rfl (hc.old (v := Pp _ _) rfl rfl rfl) rfl (zac (n := 3) (hc.st.objL (List.mem_append_right _ Q8)) _ rfl) hc.z) <| DO tab43 2 (fun f' L' w' hc=> zad (v := .int .i64 _) (hc.old rfl rfl rfl) hc.z) <| DO tab43 3 (fun f' L' w' hc=> zas (hc.d 1 rfl rfl rfl rfl) rfl rfl zbe hc.z) <| DO tab43 4 (fun _ _ _ hc => zaz (v1 := .int .i64 _) (v2 := .int .i64 _) zeF rfl rfl (hc.d 2 rfl rfl rfl rfl) ((zbB _ _ _).mono fun v w hp => ⟨[], ⟨hp.1, rfl⟩, hc.st.keepc hp.2⟩)) <| RunD.fin zaw tab43 hst rfl (fun f44 w R47 hs45 hd46 hr48 hst => ?_)
    obtain ⟨h111_, r0⟩ := hd46 0 111 rfl rfl
    obtain ⟨h112_, r1⟩ := hd46 1 112 rfl rfl
    obtain ⟨h113_, r2⟩ := hd46 2 113 rfl rfl
    obtain ⟨h114_, r3⟩ := hd46 3 114 rfl rfl
    simp only [rg4, Fc, Fn, Mc, Mn, r0, r1, r2, r3, Na, An, Ca] at hst
    refine zaD (sl := [(2, Pp _ _), (3, Pp _ _), (111, zb2 _ _ _ _ _), (114, gII _ _)]) ⟨(hs45 2 rfl).trans rfl, (hs45 3 rfl).trans rfl, h111_, h114_, trivial⟩ ?_
    clear hs45 hd46 hr48 tab43
    refine CN (SO (v := zb2 _ _ _ _ _) hst zb3 rfl rfl .u10 fun w hst => ?_)
    refine CN (SO (v := gII _ _) hst za0 rfl rfl .u9 fun w hst => ?_)
    refine NL <| zai Tryz.func41 rfl (zal (vs := zdH _ _ _ _ _) rfl zb3 rfl rfl (zac (n := 3) (hst.objL Q10) _ rfl)) (zal (vs := lII _ _) rfl za0 rfl rfl (zac (n := 2) (hst.objL Q9) _ rfl)) ?_
    replace hst := hst.pick .nil
    replace hst := St.starCons ((hst.starNil).pushNil 44 4)
    rw [zdr (by omega), hI.big hi hw1 g41 (by rw [hrmF]; rw [hrmY] at *; omega)]
    exact ⟨none, 0, [], rfl, rfl, ⟨Nat.zero_le _, fun x h => by cases h⟩, hst.noD⟩
   refine zaf <| RG <| CN <| zaa zbU rfl <| CN <| zae (v := .slice _ _ _) zdo rfl rfl (hst.cellL Q6 rfl) <| CN <| zar (vs := zbg _ _ _ _ _ _) zbp rfl rfl rfl (zac (n := 4) (hst.objL Q3) _ rfl) <| CN (zaE (z0 := [.int .u16 0, .int .u32 0, .int .u32 0, .slice none 0 0]) hst zdo zbp rfl rfl Kr (.c (v := zbb _ _ _ _ _ _) rfl (h := .nil)) fun w b118 hst => ?_)
   refine CN (zaI (news := (zbg _ _ _ _ _ _)) hst zdo zbp rfl rfl .u6 rfl rfl rfl (zac (n := 4) (hst.objL Q0) _ rfl) rfl rfl Om fun w ao49 cp50 hst => ?_)
   replace hst := hst.drop .u1
   refine CN <| zaa zbU rfl <| CN (SO (v := .slice _ _ _) hst zdo rfl rfl .u6 fun w hst => ?_)
   refine NL <| zam <| RG <| MI rfl <| CN <| zas rfl rfl rfl zbe <| AI rfl <| NL <| zay ?_
   replace hst := hst.pick (.cons .u2 (.cons .u4 (.cons .u0 (.cons .u0 (.cons .u0 (.cons .u0 (.cons .u0 (.cons .u0 (.cons .u0 (.cons .u0 (.cons .u0 .nil)))))))))))
   replace hst := hst.starSnoc
   have e1 : dm.length + 1 = (dm ++ [(⟨(zaT ((lnF s).getD i []) bd).1.op, (zaT ((lnF s).getD i []) bd).1.ty, (zaT ((lnF s).getD i []) bd).1.res, ro, rc, (zaT ((lnF s).getD i []) bd).1.args⟩ : InstP)]).length := by simp
   have e2 : dm.flatMap zdu ++ [.int .u16 (zaT ((lnF s).getD i []) bd).1.op, .int .u32 (zaT ((lnF s).getD i []) bd).1.ty, .int .u32 (zaT ((lnF s).getD i []) bd).1.res, .slice ro (zaT ((lnF s).getD i []) bd).1.args.length rc] = (dm ++ [(⟨(zaT ((lnF s).getD i []) bd).1.op, (zaT ((lnF s).getD i []) bd).1.ty, (zaT ((lnF s).getD i []) bd).1.res, ro, rc, (zaT ((lnF s).getD i []) bd).1.args⟩ : InstP)]).flatMap zdu := by simp
   have e3 : dm.map (Res.oargs 110) ++ [Res.sl ro (zaT ((lnF s).getD i []) bd).1.args.length rc 110 3 ((zaT ((lnF s).getD i []) bd).1.args.flatMap zff)] = (dm ++ [(⟨(zaT ((lnF s).getD i []) bd).1.op, (zaT ((lnF s).getD i []) bd).1.ty, (zaT ((lnF s).getD i []) bd).1.res, ro, rc, (zaT ((lnF s).getD i []) bd).1.args⟩ : InstP)]).map (Res.oargs 110) := by simp
   rw [e1, e2, e3] at hst
   replace hst := hst.pick (.cons .u0 (.cons .u0 (.cons .u3 (.cons .u3 (.cons .u3 (.cons .u3 (.cons .u3 .nil)))))))
   exact ih8 ((i + 1, true, wd + zbT (zbq (zaT ((lnF s).getD i []) bd).1.op) (zaT ((lnF s).getD i []) bd).1.args, gn, bd, ao49, cp50, dm ++ [(⟨(zaT ((lnF s).getD i []) bd).1.op, (zaT ((lnF s).getD i []) bd).1.ty, (zaT ((lnF s).getD i []) bd).1.res, ro, rc, (zaT ((lnF s).getD i []) bd).1.args⟩ : InstP)])) _ w ((by (try dsimp only); omega)) hst (⟨PaR.mk1 (hI.more hi hw1 g41 (by rw [hrmF]; rw [hrmY] at *; omega) rfl hsm) (show wd + zbT (zbq (zaT ((lnF s).getD i []) bd).1.op) (zaT ((lnF s).getD i []) bd).1.args ≠ 0 by omega), by (try dsimp only); omega⟩) E5 ⟨rfl, (Vi (by (try dsimp only); rw [hrmF]; rw [hrmY] at *; omega)), (Vi (by (try dsimp only); omega)), trivial⟩
  refine zaf <| zam <| RG <| MI rfl <| CN <| zas rfl rfl rfl zbe <| AI rfl <| NL <| zay ?_
  replace hst := hst.pick (.cons .u3 (.cons .u3 (.cons .u3 (.cons .u3 (.cons .u3 (.cons .u3 (.cons .u3 .nil)))))))
  exact ih8 ((i + 1, true, wd, gn, bd, aq, cq, dm)) _ w (Od) hst (⟨PaR.mk1 (hI.skip hi hw1 g34 g41) hw1, by (try dsimp only); omega⟩) E5 ⟨rfl, rfl, (Vi Od), trivial⟩
 refine zaJ (id := 0) rfl <| SQ <| SR <| MB rfl <| CN <| zaZ rfl <| NL <| zaA rfl (fun g51 => ?_) (fun g51 => ?_)
 ·obtain rfl : hd = false := by simpa using g51
  have hI := hJ.off
  refine SQ <| RunD.start [] hst (bs := [0, 0, 2, 6, 15, 31]) (ds := [some 123, some 124, some 125, some 126, none, none]) ⟨Kr, Kr, Kr⟩ (fun tab52 => ?_)
  refine DO tab52 1 (fun f' L' w' hc=> zar (vs := zdH _ _ _ _ _) zb3 rfl (hc.old (v := Pp _ _) rfl rfl rfl) rfl (zac (n := 3) (hc.st.objL (List.mem_append_right _ Q4)) _ rfl) hc.z) <| DO tab52 2 (fun f' L' w' hc=> zad (v := .slice _ _ _) (hc.old rfl rfl rfl) hc.z) <| DO tab52 3 (fun f' L' w' hc=> zaQ (rest := []) zjF (hc.d 1 rfl rfl rfl rfl) hc.z) <| DO tab52 4 (fun _ _ _ hc => zaz (v1 := .int .i64 _) (v2 := .int .i64 _) zeF rfl rfl (hc.d 2 rfl rfl rfl rfl) ((zbB _ _ _).mono fun v w hp => ⟨[], ⟨hp.1, rfl⟩, hc.st.keepc hp.2⟩)) <| RunD.fin zaw tab52 hst rfl (fun f53 w R56 hs54 hd55 hr57 hst => ?_)
  obtain ⟨h123_, r0⟩ := hd55 0 123 rfl rfl
  obtain ⟨h124_, r1⟩ := hd55 1 124 rfl rfl
  obtain ⟨h125_, r2⟩ := hd55 2 125 rfl rfl
  obtain ⟨h126_, r3⟩ := hd55 3 126 rfl rfl
  simp only [rg4, Fc, Fn, Mc, Mn, r0, r1, r2, r3, Na, An, Ca] at hst
  refine zaD (sl := [(2, Pp _ _), (3, Pp _ _), (123, zb2 _ _ _ _ _), (126, gII _ _)]) ⟨(hs54 2 rfl).trans rfl, (hs54 3 rfl).trans rfl, h123_, h126_, trivial⟩ ?_
  clear hs54 hd55 hr57 tab52
  refine CN (SO (v := zb2 _ _ _ _ _) hst zb3 rfl rfl .u6 fun w hst => ?_)
  refine CN (SO (v := gII _ _) hst za0 rfl rfl .u5 fun w hst => ?_)
  refine NL <| zai Tryz.func41 rfl (zal (vs := zdH _ _ _ _ _) rfl zb3 rfl rfl (zac (n := 3) (hst.objL Q6) _ rfl)) (zal (vs := lII _ _) rfl za0 rfl rfl (zac (n := 2) (hst.objL Q5) _ rfl)) ?_
  replace hst := hst.pick .nil
  obtain rfl : i = (lnF s).length := by omega
  replace hst := St.starCons ((hst.starNil).pushNil 44 4)
  rw [zdr (by omega), hI.fin0 rfl]
  exact ⟨none, 0, [], rfl, rfl, ⟨Nat.zero_le _, fun x h => by cases h⟩, hst.noD⟩
 obtain rfl : hd = true := by simpa using g51
 have hI := hJ.on
 have hw1 := hJ.w1 rfl
 refine zaf <| SR <| CN <| zar (vs := zdH _ _ _ _ _) zb3 rfl rfl rfl (zac (n := 3) (hst.objL Q2) _ rfl) <| CN (zag za0 zcE .nil ?_)
 refine CN (SO (v := zb2 _ _ _ _ _) hst zb3 rfl rfl .u6 fun w hst => ?_)
 refine CN (SO (v := gII _ _) hst za0 rfl rfl .u5 fun w hst => ?_)
 refine NL <| zai Tryz.func41 rfl (zal (vs := zdH _ _ _ _ _) rfl zb3 rfl rfl (zac (n := 3) (hst.objL Q6) _ rfl)) (zal (vs := lII _ _) rfl za0 rfl rfl (zac (n := 2) (hst.objL Q5) _ rfl)) ?_
 replace hst := hst.pick (.cons .u1 (.cons .u0 .nil))
 obtain rfl : i = (lnF s).length := by omega
 rw [zdr (by omega), hI.fin1 hw1]
 exact ⟨aq, cq, dm, rfl, rfl, ⟨by have h1 := hI.len; have h2 := hI.le; omega, hI.sm⟩, (St.starCons hst).noD⟩
end Go.SK
namespace Go.SK
open Go Go.Proofs
theorem ent41 : zaN Tryz.prog 41 := ⟨Tryz.f41, _, Tryz.func41, Kr, rfl⟩
end Go.SK
namespace Go.SK
open Go Go.Proofs
open Go.RowKit
theorem zuU (s : Tx) (w : World) (hG : LxG.holds w) (hl : s.length ≤ 140737488355328) : Ret Tryz.prog 10 #[str s] w (fun v w' => v = .bool true ∧ St w NoM [] [] w') := by
 refine zav (args := [str s]) Tryz.func10 rfl rfl rfl ?_
 have hst : St w NoM [] [LxG] w := St.init_Ds (by simp only [List.forall_mem_cons]; exact ⟨hG, fun _ h => absurd h List.not_mem_nil⟩)
 refine SR <| AB rfl <| NSR <| MS rfl <| CN (Op1.call1 (v1 := str _) ent41 rfl rfl ((zoD s _ (hst.hD _ Q0) Om).mono fun v w hp => ?_))
 obtain ⟨aO1, cO1, dO1, hdO1, rfl, hsO1, hp⟩ := hp
 replace hst : St _ _ (_ :: _) _ _ := hst.call0 hp
 clear hp
 refine CN <| zad (v := .tuple #[zb2 _ _ _ _ _, gII _ _]) rfl <| CN <| Ex (zb2 _ _ _ _ _) rfl rfl <| CN <| Ex (gII _ _) rfl rfl <| CN <| Op1.alloc hst zb3 fun w b3 hst => CN <| Op1.alloc hst za0 fun w b4 hst => CN (SO (v := zb2 _ _ _ _ _) hst zb3 rfl rfl .u1 fun w hst => ?_)
 refine CN (SO (v := gII _ _) hst za0 rfl rfl .u0 fun w hst => ?_)
 refine NSR <| MS rfl <| CN (Op1.call1 (v1 := str _) zkZ rfl rfl ((ziQ s _ (hst.hD _ Q0) Om).mono fun v w hp => ?_))
 obtain ⟨aO2, cO2, dO2, hdO2, rfl, hsO2, hp⟩ := hp
 replace hst : St _ _ (_ :: _) _ _ := hst.call0 hp
 clear hp
 refine CN <| zad (v := .tuple #[zb2 _ _ _ _ _, gII _ _]) rfl <| CN <| Ex (zb2 _ _ _ _ _) rfl rfl <| CN <| Ex (gII _ _) rfl rfl <| CN <| Op1.alloc hst zb3 fun w b5 hst => CN <| Op1.alloc hst za0 fun w b6 hst => CN (SO (v := zb2 _ _ _ _ _) hst zb3 rfl rfl .u1 fun w hst => ?_)
 refine CN (SO (v := gII _ _) hst za0 rfl rfl .u0 fun w hst => ?_)
 refine NSR <| CN <| zar (vs := lII _ _) za0 rfl rfl rfl (zac (n := 2) (hst.objL Q0) _ rfl) <| CN <| zar (vs := lII _ _) za0 rfl rfl rfl (zac (n := 2) (hst.objL Q3) _ rfl) <| CN <| zem (xs := (lII _ _)) (ys := (lII _ _)) rfl rfl Kr (zcb Tryz.underlying28 Kr (.cons De (PartOk.one zcO rfl rfl) (PartOk.one zcO rfl rfl) (zbQ zcO) (.cons De (PartOk.one ty3 rfl rfl) (PartOk.one ty3 rfl rfl) (zbQ ty3) .nil))) <| MB rfl <| zbH (d := 20) rfl (fun g1 => ?_) (fun g1 => ?_)
 ·refine TK (t := 20) rfl (Vb g1) <| zar (vs := zdH _ _ _ _ _) zb3 rfl rfl rfl (zac (n := 3) (hst.objL Q1) _ rfl) <| TK (t := 20) rfl (Vb g1) <| zar (vs := zdH _ _ _ _ _) zb3 rfl rfl rfl (zac (n := 3) (hst.objL Q4) _ rfl) <| TK (t := 20) rfl (Vb g1) (zaz (v1 := zb2 _ _ _ _ _) (v2 := zb2 _ _ _ _ _) zuh rfl rfl rfl ((zeK _ _ _ _ dO2 dO1 _ _ _ _ _ (Res.rmod_of_omod (hst.hL _ Q2)) (Res.rmod_of_omod (hst.hL _ Q5)) (by have := hsO2.1; omega) (fun i hi => (hsO2.2 i hi).len9)).mono fun v w hp => ?_))
  obtain ⟨he, hp⟩ := hp
  replace he := he.trans (Vb (zfj (hdO2.trans hdO1.symm)))
  subst he
  replace hst := hst.keepc hp
  clear hp
  refine CN <| zap (u := .bool _) (Vb g1) rfl <| AB rfl <| NL <| zah Tryz.func10 rfl (TP (v := .bool _) rfl) ?_
  exact ⟨rfl, hst.pure⟩
 exfalso
 simp at g1
end Go.SK
