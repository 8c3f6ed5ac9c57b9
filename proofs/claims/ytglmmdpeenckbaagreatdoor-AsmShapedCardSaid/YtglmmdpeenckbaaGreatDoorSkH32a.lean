/-
  Steps of functions, plain law, and walks of functions: what the laws rest on.
-/
import Derived.Test.YtglmmdpeenckbaaGreatDoorSkH0c
import Derived.Test.YtglmmdpeenckbaaGreatDoorSkH2a
import Derived.Test.YtglmmdpeenckbaaGreatDoorSkH3a
import Derived.Test.YtglmmdpeenckbaaGreatDoorSkH4a
import Derived.Test.YtglmmdpeenckbaaGreatDoorSkH6a
import Derived.Test.YtglmmdpeenckbaaGreatDoorSkH9a
import Derived.Test.YtglmmdpeenckbaaGreatDoorSkH10a
import Derived.Test.YtglmmdpeenckbaaGreatDoorSkH12a
import Derived.Test.YtglmmdpeenckbaaGreatDoorSkH15a
import Derived.Test.YtglmmdpeenckbaaGreatDoorSkH16a
import Derived.Test.YtglmmdpeenckbaaGreatDoorSkH20a
import Derived.Test.YtglmmdpeenckbaaGreatDoorSkH24a
set_option linter.unusedVariables false
set_option linter.unusedSimpArgs false
set_option linter.unusedSectionVars false
namespace Go.SK
theorem zvQ {t : Tx} {i : Nat} (h : i < t.length) : nls (t.drop i) = (if (t.getD i 0).toNat = 10 then 1 else 0) + nls (t.drop (i + 1)) := by
  rw [zi9 h, nls]
theorem ztS : ∀ (n : Nat) (r : Tx), r.length ≤ n → (lnF r).length ≤ nls r + 1
  | 0, r, h => by rw [zdG (by omega)]; exact Nat.zero_le _
  | n + 1, r, h => by
    rcases Nat.eq_zero_or_pos r.length with h0 | h0
    · rw [zdG h0]; exact Nat.zero_le _
    · rw [zdR h0, List.length_cons]
      have hb := zfV r
      have ih := ztS n (zhd r) Om
      rcases zku h0 with ⟨_, hn, _⟩ | hs
      · rw [hn, zdG rfl]; simp
      · have e : nls r = nls (zfE r) + (1 + nls (zhd r)) := by
          conv => lhs; rw [hs]
          rw [zfp, nls, if_pos (by decide)]
        omega
theorem ztU (t : Tx) : (lnF t).length ≤ nls t + 1 := ztS _ t (Nat.le_refl _)
section
variable {t : Tx} {a ln : Int} {i en : Nat}
theorem endJ.pass (h : endJ t a i ln en) (hi : i < t.length) (h10 : (t.getD i 0).toNat = 10) (h1 : ¬ (ln = a ∧ en = t.length)) : endJ t a (i + 1) (ln + 1) en := by
  have e := h.1
  refine ⟨by rw [zgU hi, if_pos h10]; omega, ?_⟩
  rcases h.2 with h2 | h2
  · exact .inl ⟨h2.1, by have := h2.1; omega⟩
  · exact .inr ⟨by omega, h2.2⟩
end
theorem zrL {t : Tx} (h : (lnF t).length = 0) : t = [] := by
  rcases Nat.eq_zero_or_pos t.length with h0 | h0
  · exact List.length_eq_zero_iff.1 h0
  · rw [zdR h0] at h; simp at h
theorem ztC {t : Tx} (h : (zbc t).2.1 = 0) : 0 < t.length := by
  rcases Nat.eq_zero_or_pos t.length with h0 | h0
  · obtain rfl := List.length_eq_zero_iff.1 h0
    exact absurd h De
  · exact h0
end Go.SK
namespace Go.SK
theorem znp {t : Tx} (hl : ¬ t.length > 16777216) (h : (zbc t).2.1 ≠ 0) (h0 : ¬ ((zbc t).2.1 = 72 ∧ (zbc t).2.2 = 0)) : 1 ≤ (zbc t).2.2 ∧ (zbc t).2.2 ≤ 1 + (nls t : Int) := by
  have hn := ztU t
  rcases (zgJ hl h).2 with ⟨h1, h2⟩ | ⟨h1, h2, _⟩
  · refine ⟨?_, by omega⟩
    have : ¬ (zbc t).2.2 = 0 := fun q => h0 ⟨h1, q⟩
    omega
  · exact ⟨h1, by omega⟩
theorem zno {t : Tx} (hl : ¬ t.length > 16777216) (h : (zbc t).2.1 ≠ 0) (h0 : (zbc t).2.2 = 0) : t = [] := by
  rcases (zgJ hl h).2 with ⟨h1, h2⟩ | ⟨h1, h2, _⟩
  · exact zrL Om
  · omega
theorem zjR {t m : Tx} (hl : ¬ t.length > 16777216) (h : (zbc t).2.1 ≠ 0) (h72 : ¬ (zbc t).2.1 = 72) {ln : Int} {en : Nat} (hj : endJ t (zbc t).2.2 t.length ln en) (hm : t.length + m.length ≤ 16777214) : zbc (t.take en ++ [10] ++ m) = zbc t := by
  have e : t.take en ++ [10] ++ m = t.take en ++ 10 :: m := by rw [List.append_assoc]; rfl
  rw [e]
  rcases (zgJ hl h).2 with ⟨h1, h2⟩ | ⟨h1, h2, h3⟩
  · exact absurd h1 h72
  · exact h3 ln en m hj (by rw [List.length_append, List.length_cons, List.length_take]; omega)
end Go.SK
namespace Go.SK
open Go Go.Proofs
open Go.RowKit
theorem zqj {gn bd se sa : Int} {l : List InstP} (hS : zbz bd (l.map InstP.L) = (se, sa)) (ao : Option Addr) (cp : Nat) (w : World) (hA : (Res.rmod ao l).holds w) (hs : Small l) : Ret Tryz.prog 19 #[.agg #[.int .u32 gn, .int .u32 bd, .slice ao l.length cp]] w (fun v w' => v = .agg #[.int .i64 se, .int .i64 sa] ∧ St w NoM [] [] w') :=
 zkH gn bd l ao cp hS w hA hs.len hs.op hs.sum hs.txt
end Go.SK
namespace Go.SK
open Go Go.Proofs
theorem zgs : FldF Tryz.prog 28 1 1 := FldF.of (n := 0) Kr
end Go.SK
namespace Go.SK
open Go Go.Proofs
open Go.RowKit
theorem zuT (s m : Tx) (w : World) (hG : LxG.holds w) (hl : s.length ≤ 140737488355328) (hlm0 : m.length ≤ 140737488355328) : Ret Tryz.prog 12 #[str s, str m] w (fun v w' => v = .bool true ∧ St w NoM [] [] w') := by
 refine zav (args := [str s, str m]) Tryz.func12 rfl rfl rfl ?_
 have hst : St w NoM [] [LxG] w := St.init_Ds (by simp only [List.forall_mem_cons]; exact ⟨hG, fun _ h => absurd h List.not_mem_nil⟩)
 refine SR <| AB rfl <| NSR <| MS rfl <| CN (Op1.call1 (v1 := str _) zkZ rfl rfl ((ziQ s _ (hst.hD _ Q0) Om).mono fun v w hp => ?_))
 obtain ⟨aO2, cO2, dO2, hdO2, rfl, hsO2, hp⟩ := hp
 replace hst : St _ _ (_ :: _) _ _ := hst.call0 hp
 clear hp
 refine CN <| zad (v := .tuple #[zb2 _ _ _ _ _, gII _ _]) rfl <| CN <| Ex (zb2 _ _ _ _ _) rfl rfl <| CN <| Ex (gII _ _) rfl rfl <| CN <| Op1.alloc hst zb3 fun w b5 hst => CN <| Op1.alloc hst za0 fun w b6 hst => CN (SO (v := zb2 _ _ _ _ _) hst zb3 rfl rfl .u1 fun w hst => ?_)
 refine CN (SO (v := gII _ _) hst za0 rfl rfl .u0 fun w hst => ?_)
 refine NL <| SQ <| SR <| CN <| zaa zbr rfl <| CN <| zae (v := .int .i64 _) zcO rfl rfl (hst.cellL Q0 rfl) <| CN <| zak rfl rfl <| NL <| zab rfl (fun g1 => ?_) (fun g1 => ?_)
 ·have hpg := zj4 g1
  have hp0 := ztC g1
  refine SR <| CN <| zaa zgs rfl <| CN <| zae (v := .int .i64 _) ty3 rfl rfl (hst.cellL Q0 rfl) <| CN <| zak rfl rfl <| MB rfl <| zan (d := 24) rfl (fun g2 => ?_) (fun g2 => ?_)
  ·refine TK (t := 24) rfl (Vb (Dt g2)) <| zar (vs := zdH _ _ _ _ _) zb3 rfl rfl rfl (zac (n := 3) (hst.objL Q1) _ rfl) <| TK (t := 24) rfl (Vb (Dt g2)) (Op1.call1 (v1 := zb2 _ _ _ _ _) zui rfl rfl ((zqj (se := 0) (sa := 0) (by rw [hdO2]; exact hpg.1) _ _ _ (Res.rmod_of_omod (hst.hL _ Q2)) (Small.ofSm hsO2.1 hsO2.2)).mono fun v w hp => ?_))
   obtain ⟨rfl, hp⟩ := hp
   replace hst := hst.keepc hp
   clear hp
   refine TK (t := 24) rfl (Vb (Dt g2)) (zag za0 zcE .nil ?_)
   refine TK (t := 24) rfl (Vb (Dt g2)) <| zem (xs := (lII _ _)) (ys := (lII _ _)) rfl rfl Kr (zcb Tryz.underlying28 Kr (.cons De (PartOk.one zcO rfl rfl) (PartOk.one zcO rfl rfl) (zbQ zcO) (.cons De (PartOk.one ty3 rfl rfl) (PartOk.one ty3 rfl rfl) (zbQ ty3) .nil))) <| CN <| zap (u := .bool _) (Vb (Dt g2)) rfl <| MB rfl <| zbH (d := 30) rfl (fun g3 => ?_) (fun g3 => ?_)
   ·refine TK (t := 30) rfl (Vb g3) <| zad (v := str _) rfl <| TK (t := 30) rfl (Vb g3) <| zaL (rest := []) ty9 rfl <| TK (t := 30) rfl (Vb g3) <| zbm rfl rfl <| CN <| zap (u := .bool _) (Vb g3) rfl <| AB rfl <| NL <| zah Tryz.func12 rfl (TP (v := .bool _) rfl) ?_
    exact ⟨Vb (by simp; omega), hst.pure⟩
   exfalso
   simp at g3
  exfalso
  exact g2 (by rw [hpg.2.1])
 have hne : (zbc s).2.1 ≠ 0 := g1
 have hz1 := zlr hne
 refine zaf <| SQ <| SR <| CN <| zar (vs := zdH _ _ _ _ _) zb3 rfl rfl rfl (zac (n := 3) (hst.objL Q1) _ rfl) <| CN <| Op1.call1 (v1 := zb2 _ _ _ _ _) zuk rfl rfl <| zf0 (zfC (zbc s).1.1 (zbc s).1.2.1 dO2.length _ _ _) (Vb (Dt (by rw [hz1]; exact ⟨rfl, rfl, by have := congrArg List.length hdO2; rw [hz1] at this; simpa using this⟩))) hst fun w hst => CN <| zaZ rfl <| NL <| zat (Vb (congrArg not (rfl : true = _))) <| zaf <| SQ <| SR <| MS rfl <| CN (zaL (rest := []) ty9 rfl ?_)
 refine CN <| zbm rfl rfl <| NL <| zab rfl (fun g4 => ?_) (fun g4 => ?_)
 ·refine SR <| CN <| zar (vs := lII _ _) za0 rfl rfl rfl (zac (n := 2) (hst.objL Q0) _ rfl) <| CN (zag za0 zcE (.c (v := .int .i64 _) rfl (h := .nil)) ?_)
  refine CN <| zem (xs := (lII _ _)) (ys := (lII _ _)) rfl rfl Kr (zcb Tryz.underlying28 Kr (.cons De (PartOk.one zcO rfl rfl) (PartOk.one zcO rfl rfl) (zbQ zcO) (.cons De (PartOk.one ty3 rfl rfl) (PartOk.one ty3 rfl rfl) (zbQ ty3) .nil))) <| AB rfl <| NL <| zah Tryz.func12 rfl (TP (v := .bool _) rfl) ?_
  exact ⟨Vb (by rw [ze1 (by omega)]; rfl), hst.pure⟩
 have hnl : ¬ s.length > 16777216 := by omega
 refine zaf <| SR <| AI rfl <| NSR <| MS rfl <| CN <| zaL (rest := []) ty9 rfl <| AI rfl <| NL <| zaj [(0, str _), (1, str _), (6, Pp _ _), (7, .int .i64 _), (8, .int .i64 _)] E5 fun f => SQ <| SQ <| RG ?_
 refine MS rfl <| CN <| zaL (rest := []) ty9 rfl <| CN <| zbx rfl rfl rfl zbe <| AI rfl <| NL <| zao <| zaV <| zaU [(0, str _), (1, str _), (6, Pp _ _), (8, .int .i64 _)] E4 (fun (qq : Nat) => [(7, .int .i64 (1 + (nls (s.drop qq) : Int))), (9, .int .i64 ((qq : Int) - 1))]) (fun (qq : Nat) => []) (fun (qq : Nat) => qq ≤ s.length) (fun (qq : Nat) => qq) (s.length) hst (Nat.le_refl _) ⟨(Vi (by rw [List.drop_length]; rfl)), rfl, trivial⟩ ?_
 intro qq f w hst hJ ih5
 have hnl2 := ztJ (s.drop qq)
 have hnl3 := List.length_drop (i := qq) (l := s)
 refine SQ <| SR <| MI rfl <| CN <| zbo rfl rfl <| NL <| zab rfl (fun g6 => ?_) (fun g6 => ?_)
 ·have hidx : (s.getD (((qq : Nat) : Int) - 1).toNat 0).toNat = (s.getD (qq - 1) 0).toNat := by rw [show (((qq : Nat) : Int) - 1).toNat = qq - 1 by omega]
  have hd := zvQ (t := s) (i := qq - 1) Om
  rw [show qq - 1 + 1 = qq by omega] at hd
  refine zaf <| SQ <| zao <| SR <| MS rfl <| MI rfl <| CN <| zaH ty9 rfl rfl Om Om <| CN <| zak rfl rfl <| NL <| zab rfl (fun g7 => ?_) (fun g7 => ?_)
  ·rw [if_pos (by omega)] at hd
   refine RG <| MI rfl <| CN <| zas rfl rfl rfl zbe <| AI rfl <| NL <| zam <| RG <| MI rfl <| CN <| zbx rfl rfl rfl zbe <| AI rfl <| NL <| zay ?_
   exact ih5 (qq - 1) _ w (Om) hst (Om) E4 ⟨(Vi Om), (Vi Om), trivial⟩
  rw [if_neg (by omega)] at hd
  refine zaf <| zam <| RG <| MI rfl <| CN <| zbx rfl rfl rfl zbe <| AI rfl <| NL <| zay ?_
  exact ih5 (qq - 1) _ w (Om) hst (Om) E4 ⟨(Vi Om), (Vi Om), trivial⟩
 obtain rfl : qq = 0 := by omega
 have hnls0 : nls (s.drop 0) = nls s := rfl
 refine zaJ (id := 0) rfl <| SQ <| SR <| CN <| zaa zbr rfl <| CN <| zae (v := .int .i64 _) zcO rfl rfl (hst.cellL Q0 rfl) <| CN <| zak rfl rfl <| MB rfl <| zan (d := 62) rfl (fun g8 => ?_) (fun g8 => ?_)
 ·refine TK (t := 62) rfl (Vb (Dt g8)) <| zaa zgs rfl <| TK (t := 62) rfl (Vb (Dt g8)) <| zae (v := .int .i64 _) ty3 rfl rfl (hst.cellL Q0 rfl) <| TK (t := 62) rfl (Vb (Dt g8)) <| zak rfl rfl <| CN <| zap (u := .bool _) (Vb (Dt g8)) rfl <| NL <| zab rfl (fun g9 => ?_) (fun g9 => ?_)
  ·have hemp := zno hnl hne g9
   refine SR <| MS rfl <| CN <| zbV rfl rfl <| AB rfl <| NL <| zah Tryz.func12 rfl (TP (v := .bool _) rfl) ?_
   exact ⟨Vb (Dt hemp), hst.pure⟩
  have hat := znp hnl hne (fun h => g9 h.2)
  refine zaf <| SQ <| SR <| CN <| zaa zgs rfl <| CN <| zae (v := .int .i64 _) ty3 rfl rfl (hst.cellL Q0 rfl) <| CN <| zaS rfl rfl <| MB rfl <| zan (d := 72) rfl (fun g10 => ?_) (fun g10 => ?_)
  ·exfalso
   omega
  refine TK (t := 72) rfl (Vb (Df g10)) <| zaa zgs rfl <| TK (t := 72) rfl (Vb (Df g10)) <| zae (v := .int .i64 _) ty3 rfl rfl (hst.cellL Q0 rfl) <| TK (t := 72) rfl (Vb (Df g10)) <| zad (v := .int .i64 _) rfl <| TK (t := 72) rfl (Vb (Df g10)) <| zbm rfl rfl <| CN <| zaq (u := .bool _) (Vb (Df g10)) rfl <| NL <| zaj [(0, str _), (1, str _), (6, Pp _ _), (8, .int .i64 _), (77, .bool _)] E5 fun f => zab rfl (fun g11 => ?_) (fun g11 => ?_)
  ·exfalso
   omega
  refine zaf <| SQ <| SR <| CN <| zaa zbr rfl <| CN <| zae (v := .int .i64 _) zcO rfl rfl (hst.cellL Q0 rfl) <| CN <| zak rfl rfl <| MB rfl <| zan (d := 81) rfl (fun g12 => ?_) (fun g12 => ?_)
  ·refine OM (t := 81) rfl (Vb (Dt g12)) rfl <| OM (t := 81) rfl (Vb (Dt g12)) rfl <| OM (t := 81) rfl (Vb (Dt g12)) rfl <| OM (t := 81) rfl (Vb (Dt g12)) rfl <| OM (t := 81) rfl (Vb (Dt g12)) rfl <| OM (t := 81) rfl (Vb (Dt g12)) rfl <| CN <| zap (u := .bool _) (Vb (Dt g12)) rfl <| NL <| zax (Vb (rfl : true = _)) <| SR <| AB rfl <| NL <| zah Tryz.func12 rfl (TP (v := .bool _) rfl) ?_
   exact ⟨by simp, hst.pure⟩
  refine TK (t := 81) rfl (Vb (Df g12)) <| zad (v := str _) rfl <| TK (t := 81) rfl (Vb (Df g12)) <| zaL (rest := []) ty9 rfl <| TK (t := 81) rfl (Vb (Df g12)) <| zad (v := str _) rfl <| TK (t := 81) rfl (Vb (Df g12)) <| zaL (rest := []) ty9 rfl <| TK (t := 81) rfl (Vb (Df g12)) <| zas rfl rfl rfl zbe <| TK (t := 81) rfl (Vb (Df g12)) <| zbm rfl rfl <| CN <| zaq (u := .bool _) (Vb (Df g12)) rfl <| NL <| zab rfl (fun g13 => ?_) (fun g13 => ?_)
  ·refine SR <| AB rfl <| NL <| zah Tryz.func12 rfl (TP (v := .bool _) rfl) ?_
   exact ⟨rfl, hst.pure⟩
  have h72 : ¬ (zbc s).2.1 = 72 := g12
  have hlm : s.length + m.length ≤ 16777214 := by omega
  refine zaf <| SR <| AI rfl <| NL <| SQ <| SR <| AI rfl <| NL <| zao <| zaV <| zaU [(0, str _), (1, str _), (6, Pp _ _)] E3 (fun (qr : Nat × Int × Nat) => [(7, .int .i64 qr.2.1), (8, .int .i64 (qr.2.2 : Int)), (10, .int .i64 (qr.1 : Int))]) (fun (qr : Nat × Int × Nat) => []) (fun (qr : Nat × Int × Nat) => endJ s (zbc s).2.2 qr.1 qr.2.1 qr.2.2 ∧ qr.1 ≤ s.length) (fun (qr : Nat × Int × Nat) => s.length - qr.1) ((0, 1, s.length)) hst ⟨endJ.start hat.1, Nat.zero_le _⟩ E3 ?_
  intro ⟨i, ln, en⟩ f w hst hJ0 ih14
  replace hst : St _ _ ([] ++ [_, _, _]) _ _ := hst
  replace hJ0 : endJ s (zbc s).2.2 i ln en ∧ i ≤ s.length := hJ0
  refine za2 (sl := [(7, .int .i64 ln), (8, .int .i64 (en : Int)), (10, .int .i64 (i : Int))]) E3 ?_
  have hJ := hJ0.1
  have hi := hJ0.2
  have hen := hJ.en hi
  have hlnb := hJ.ln
  have hidx : (s.getD ((i : Int).toNat) 0).toNat = (s.getD i 0).toNat := rfl
  refine SQ <| SR <| MI rfl <| MS rfl <| CN <| zaL (rest := []) ty9 rfl <| CN <| zaS rfl rfl <| NL <| zab rfl (fun g15 => ?_) (fun g15 => ?_)
  ·refine zaf <| SQ <| zao <| SR <| MS rfl <| MI rfl <| CN <| zaH ty9 rfl rfl Om Om <| CN <| zak rfl rfl <| NL <| zab rfl (fun g16 => ?_) (fun g16 => ?_)
   ·refine SQ <| SR <| MI rfl <| CN <| zaa zgs rfl <| CN <| zae (v := .int .i64 _) ty3 rfl rfl (hst.cellL Q0 rfl) <| CN <| zak rfl rfl <| MB rfl <| zan (d := 103) rfl (fun g17 => ?_) (fun g17 => ?_)
    ·refine TK (t := 103) rfl (Vb (Dt g17)) <| zad (v := .int .i64 _) rfl <| TK (t := 103) rfl (Vb (Dt g17)) <| zad (v := str _) rfl <| TK (t := 103) rfl (Vb (Dt g17)) <| zaL (rest := []) ty9 rfl <| TK (t := 103) rfl (Vb (Dt g17)) <| zak rfl rfl <| CN <| zap (u := .bool _) (Vb (Dt g17)) rfl <| NL <| zab rfl (fun g18 => ?_) (fun g18 => ?_)
     ·refine RG <| MI rfl <| AI rfl <| NL <| zaj [(0, str _), (1, str _), (6, Pp _ _), (7, .int .i64 _), (8, .int .i64 _), (10, .int .i64 _)] E6 fun f => RG <| MI rfl <| CN <| zas rfl rfl rfl zbe <| AI rfl <| NL <| zam <| RG <| MI rfl <| CN <| zas rfl rfl rfl zbe <| AI rfl ?_
      refine NL <| zay ?_
      exact ih14 ((i + 1, ln + 1, i)) _ w (Od) hst (⟨hJ.hit Om Om Om Om, by (try dsimp only); omega⟩) E3 ⟨rfl, rfl, (Vi Od), trivial⟩
     refine zaf <| RG <| MI rfl <| CN <| zas rfl rfl rfl zbe <| AI rfl <| NL <| zam <| zaj [(0, str _), (1, str _), (6, Pp _ _), (7, .int .i64 _), (8, .int .i64 _), (10, .int .i64 _)] E6 fun f => RG <| MI rfl <| CN <| zas rfl rfl rfl zbe <| AI rfl <| NL <| zay ?_
     exact ih14 ((i + 1, ln + 1, en)) _ w (Od) hst (⟨hJ.pass Om Om Om, by (try dsimp only); omega⟩) E3 ⟨rfl, rfl, (Vi Od), trivial⟩
    refine OM (t := 103) rfl (Vb (Df g17)) rfl <| OM (t := 103) rfl (Vb (Df g17)) rfl <| OM (t := 103) rfl (Vb (Df g17)) rfl <| OM (t := 103) rfl (Vb (Df g17)) rfl <| CN <| zaq (u := .bool _) (Vb (Df g17)) rfl <| NL <| zat (Vb (rfl : false = _)) <| zaf <| RG <| MI rfl <| CN <| zas rfl rfl rfl zbe <| AI rfl <| NL <| zam <| RG ?_
    refine MI rfl <| CN <| zas rfl rfl rfl zbe <| AI rfl <| NL <| zay ?_
    exact ih14 ((i + 1, ln + 1, en)) _ w (Od) hst (⟨hJ.pass Om Om Om, by (try dsimp only); omega⟩) E3 ⟨rfl, rfl, (Vi Od), trivial⟩
   refine zaf <| zam <| RG <| MI rfl <| CN <| zas rfl rfl rfl zbe <| AI rfl <| NL <| zay ?_
   exact ih14 ((i + 1, ln, en)) _ w (Od) hst (⟨hJ.no Om Om, by (try dsimp only); omega⟩) E3 ⟨rfl, rfl, (Vi Od), trivial⟩
  refine zaJ (id := 2) rfl <| SQ ?_
  obtain rfl : i = s.length := by omega
  have hp2 := zjR hnl hne h72 hJ hlm
  refine RG <| MS rfl <| MI rfl <| CN <| zc2 ty9 rfl rfl (by omega) (by omega) <| CN <| zcD rfl rfl (by first | omega | (simp only [List.length_cons, List.length_nil, List.length_append]; omega) | (simp; omega)) <| MS rfl <| CN <| zcD rfl rfl (by first | omega | (simp only [List.length_cons, List.length_nil, List.length_append]; omega) | (simp; omega)) <| CN (Op1.call1 (v1 := str _) zkZ rfl rfl ((zc1 hp2 _ (hst.hD _ Q0) (by simp only [List.length_append, List.length_take, List.length_cons, List.length_nil]; omega)).mono fun v w hp => ?_))
  obtain ⟨aO3, cO3, dO3, hdO3, rfl, hsO3, hp⟩ := hp
  replace hst : St _ _ (_ :: _) _ _ := hst.call0 hp
  clear hp
  refine CN <| zad (v := .tuple #[zb2 _ _ _ _ _, gII _ _]) rfl <| CN <| Ex (zb2 _ _ _ _ _) rfl rfl <| CN <| Ex (gII _ _) rfl rfl <| CN <| Op1.alloc hst zb3 fun w b11 hst => CN <| Op1.alloc hst za0 fun w b12 hst => CN (SO (v := zb2 _ _ _ _ _) hst zb3 rfl rfl .u1 fun w hst => ?_)
  refine CN (SO (v := gII _ _) hst za0 rfl rfl .u0 fun w hst => ?_)
  refine NSR <| CN <| zar (vs := zdH _ _ _ _ _) zb3 rfl rfl rfl (zac (n := 3) (hst.objL Q1) _ rfl) <| CN <| Op1.call1 (v1 := zb2 _ _ _ _ _) zuk rfl rfl <| zf0 (zfC (zbc s).1.1 (zbc s).1.2.1 dO3.length _ _ _) (Vb (Dt (by rw [hz1]; exact ⟨rfl, rfl, by have := congrArg List.length hdO3; rw [hz1] at this; simpa using this⟩))) hst fun w hst => MB rfl <| TK (t := 124) rfl (Vb (rfl : true = _)) <| zar (vs := lII _ _) za0 rfl rfl rfl (zac (n := 2) (hst.objL Q0) _ rfl) <| TK (t := 124) rfl (Vb (rfl : true = _)) <| zar (vs := lII _ _) za0 rfl rfl rfl (zac (n := 2) (hst.objL Q3) _ rfl) <| TK (t := 124) rfl (Vb (rfl : true = _)) <| zem (xs := (lII _ _)) (ys := (lII _ _)) rfl rfl (by kernel_rfl) (zcb Tryz.underlying28 (by kernel_rfl) (.cons (by decide) (PartOk.one zcO rfl rfl) (PartOk.one zcO rfl rfl) (zbQ zcO) (.cons (by decide) (PartOk.one ty3 rfl rfl) (PartOk.one ty3 rfl rfl) (zbQ ty3) .nil))) <| CN <| zap (u := .bool _) (Vb (rfl : true = _)) rfl <| AB rfl <| NL <| zah Tryz.func12 rfl (TP (v := .bool _) rfl) ?_
  exact ⟨by simp, hst.pure⟩
 refine OM (t := 62) rfl (Vb (Df g8)) rfl <| OM (t := 62) rfl (Vb (Df g8)) rfl <| OM (t := 62) rfl (Vb (Df g8)) rfl <| CN <| zaq (u := .bool _) (Vb (Df g8)) rfl <| NL ?_
 have hat := znp hnl hne (fun h => g8 h.1)
 refine zat (Vb (rfl : false = _)) <| zaf <| SQ <| SR <| CN <| zaa zgs rfl <| CN <| zae (v := .int .i64 _) ty3 rfl rfl (hst.cellL Q0 rfl) <| CN <| zaS rfl rfl <| MB rfl <| zan (d := 72) rfl (fun g19 => ?_) (fun g19 => ?_)
 ·exfalso
  omega
 refine TK (t := 72) rfl (Vb (Df g19)) <| zaa zgs rfl <| TK (t := 72) rfl (Vb (Df g19)) <| zae (v := .int .i64 _) ty3 rfl rfl (hst.cellL Q0 rfl) <| TK (t := 72) rfl (Vb (Df g19)) <| zad (v := .int .i64 _) rfl <| TK (t := 72) rfl (Vb (Df g19)) <| zbm rfl rfl <| CN <| zaq (u := .bool _) (Vb (Df g19)) rfl <| NL <| zab rfl (fun g20 => ?_) (fun g20 => ?_)
 ·exfalso
  omega
 refine zaf <| SQ <| SR <| CN <| zaa zbr rfl <| CN <| zae (v := .int .i64 _) zcO rfl rfl (hst.cellL Q0 rfl) <| CN <| zak rfl rfl <| MB rfl <| zan (d := 81) rfl (fun g21 => ?_) (fun g21 => ?_)
 ·refine OM (t := 81) rfl (Vb (Dt g21)) rfl <| OM (t := 81) rfl (Vb (Dt g21)) rfl <| OM (t := 81) rfl (Vb (Dt g21)) rfl <| OM (t := 81) rfl (Vb (Dt g21)) rfl <| OM (t := 81) rfl (Vb (Dt g21)) rfl <| OM (t := 81) rfl (Vb (Dt g21)) rfl <| CN <| zap (u := .bool _) (Vb (Dt g21)) rfl <| NL <| zaj [(0, str _), (1, str _), (6, Pp _ _), (8, .int .i64 _), (88, .bool _)] E5 fun f => zax (Vb (rfl : true = _)) <| SR <| AB rfl <| NL <| zah Tryz.func12 rfl (TP (v := .bool _) rfl) ?_
  exact ⟨by simp, hst.pure⟩
 refine TK (t := 81) rfl (Vb (Df g21)) <| zad (v := str _) rfl <| TK (t := 81) rfl (Vb (Df g21)) <| zaL (rest := []) ty9 rfl <| TK (t := 81) rfl (Vb (Df g21)) <| zad (v := str _) rfl <| TK (t := 81) rfl (Vb (Df g21)) <| zaL (rest := []) ty9 rfl <| TK (t := 81) rfl (Vb (Df g21)) <| zas rfl rfl rfl zbe <| TK (t := 81) rfl (Vb (Df g21)) <| zbm rfl rfl <| CN <| zaq (u := .bool _) (Vb (Df g21)) rfl <| NL <| zaj [(0, str _), (1, str _), (6, Pp _ _), (8, .int .i64 _), (88, .bool _)] E5 fun f => zab rfl (fun g22 => ?_) (fun g22 => ?_)
 ·refine SR <| AB rfl <| NL <| zah Tryz.func12 rfl (TP (v := .bool _) rfl) ?_
  exact ⟨rfl, hst.pure⟩
 have h72 : ¬ (zbc s).2.1 = 72 := g21
 have hlm : s.length + m.length ≤ 16777214 := by omega
 refine zaf <| SR <| AI rfl <| NL <| SQ <| SR <| AI rfl <| NL <| zao <| zaV <| zaU [(0, str _), (1, str _), (6, Pp _ _)] E3 (fun (qr : Nat × Int × Nat) => [(7, .int .i64 qr.2.1), (8, .int .i64 (qr.2.2 : Int)), (10, .int .i64 (qr.1 : Int))]) (fun (qr : Nat × Int × Nat) => []) (fun (qr : Nat × Int × Nat) => endJ s (zbc s).2.2 qr.1 qr.2.1 qr.2.2 ∧ qr.1 ≤ s.length) (fun (qr : Nat × Int × Nat) => s.length - qr.1) ((0, 1, s.length)) hst ⟨endJ.start hat.1, Nat.zero_le _⟩ E3 ?_
 intro ⟨i, ln, en⟩ f w hst hJ0 ih23
 replace hst : St _ _ ([] ++ [_, _, _]) _ _ := hst
 replace hJ0 : endJ s (zbc s).2.2 i ln en ∧ i ≤ s.length := hJ0
 refine za2 (sl := [(7, .int .i64 ln), (8, .int .i64 (en : Int)), (10, .int .i64 (i : Int))]) E3 ?_
 have hJ := hJ0.1
 have hi := hJ0.2
 have hen := hJ.en hi
 have hlnb := hJ.ln
 have hidx : (s.getD ((i : Int).toNat) 0).toNat = (s.getD i 0).toNat := rfl
 refine SQ <| SR <| MI rfl <| MS rfl <| CN <| zaL (rest := []) ty9 rfl <| CN <| zaS rfl rfl <| NL <| zab rfl (fun g24 => ?_) (fun g24 => ?_)
 ·refine zaf <| SQ <| zao <| SR <| MS rfl <| MI rfl <| CN <| zaH ty9 rfl rfl Om Om <| CN <| zak rfl rfl <| NL <| zab rfl (fun g25 => ?_) (fun g25 => ?_)
  ·refine SQ <| SR <| MI rfl <| CN <| zaa zgs rfl <| CN <| zae (v := .int .i64 _) ty3 rfl rfl (hst.cellL Q0 rfl) <| CN <| zak rfl rfl <| MB rfl <| zan (d := 103) rfl (fun g26 => ?_) (fun g26 => ?_)
   ·refine TK (t := 103) rfl (Vb (Dt g26)) <| zad (v := .int .i64 _) rfl <| TK (t := 103) rfl (Vb (Dt g26)) <| zad (v := str _) rfl <| TK (t := 103) rfl (Vb (Dt g26)) <| zaL (rest := []) ty9 rfl <| TK (t := 103) rfl (Vb (Dt g26)) <| zak rfl rfl <| CN <| zap (u := .bool _) (Vb (Dt g26)) rfl <| NL <| zab rfl (fun g27 => ?_) (fun g27 => ?_)
    ·refine RG <| MI rfl <| AI rfl <| NL <| zaj [(0, str _), (1, str _), (6, Pp _ _), (7, .int .i64 _), (8, .int .i64 _), (10, .int .i64 _)] E6 fun f => RG <| MI rfl <| CN <| zas rfl rfl rfl zbe <| AI rfl <| NL <| zam <| RG <| MI rfl <| CN <| zas rfl rfl rfl zbe <| AI rfl ?_
     refine NL <| zay ?_
     exact ih23 ((i + 1, ln + 1, i)) _ w (Od) hst (⟨hJ.hit Om Om Om Om, by (try dsimp only); omega⟩) E3 ⟨rfl, rfl, (Vi Od), trivial⟩
    refine zaf <| RG <| MI rfl <| CN <| zas rfl rfl rfl zbe <| AI rfl <| NL <| zam <| zaj [(0, str _), (1, str _), (6, Pp _ _), (7, .int .i64 _), (8, .int .i64 _), (10, .int .i64 _)] E6 fun f => RG <| MI rfl <| CN <| zas rfl rfl rfl zbe <| AI rfl <| NL <| zay ?_
    exact ih23 ((i + 1, ln + 1, en)) _ w (Od) hst (⟨hJ.pass Om Om Om, by (try dsimp only); omega⟩) E3 ⟨rfl, rfl, (Vi Od), trivial⟩
   refine OM (t := 103) rfl (Vb (Df g26)) rfl <| OM (t := 103) rfl (Vb (Df g26)) rfl <| OM (t := 103) rfl (Vb (Df g26)) rfl <| OM (t := 103) rfl (Vb (Df g26)) rfl <| CN <| zaq (u := .bool _) (Vb (Df g26)) rfl <| NL <| zat (Vb (rfl : false = _)) <| zaf <| RG <| MI rfl <| CN <| zas rfl rfl rfl zbe <| AI rfl <| NL <| zam <| RG ?_
   refine MI rfl <| CN <| zas rfl rfl rfl zbe <| AI rfl <| NL <| zay ?_
   exact ih23 ((i + 1, ln + 1, en)) _ w (Od) hst (⟨hJ.pass Om Om Om, by (try dsimp only); omega⟩) E3 ⟨rfl, rfl, (Vi Od), trivial⟩
  refine zaf <| zam <| RG <| MI rfl <| CN <| zas rfl rfl rfl zbe <| AI rfl <| NL <| zay ?_
  exact ih23 ((i + 1, ln, en)) _ w (Od) hst (⟨hJ.no Om Om, by (try dsimp only); omega⟩) E3 ⟨rfl, rfl, (Vi Od), trivial⟩
 refine zaJ (id := 2) rfl <| SQ ?_
 obtain rfl : i = s.length := by omega
 have hp2 := zjR hnl hne h72 hJ hlm
 refine RG <| MS rfl <| MI rfl <| CN <| zc2 ty9 rfl rfl (by omega) (by omega) <| CN <| zcD rfl rfl (by first | omega | (simp only [List.length_cons, List.length_nil, List.length_append]; omega) | (simp; omega)) <| MS rfl <| CN <| zcD rfl rfl (by first | omega | (simp only [List.length_cons, List.length_nil, List.length_append]; omega) | (simp; omega)) <| CN (Op1.call1 (v1 := str _) zkZ rfl rfl ((zc1 hp2 _ (hst.hD _ Q0) (by simp only [List.length_append, List.length_take, List.length_cons, List.length_nil]; omega)).mono fun v w hp => ?_))
 obtain ⟨aO3, cO3, dO3, hdO3, rfl, hsO3, hp⟩ := hp
 replace hst : St _ _ (_ :: _) _ _ := hst.call0 hp
 clear hp
 refine CN <| zad (v := .tuple #[zb2 _ _ _ _ _, gII _ _]) rfl <| CN <| Ex (zb2 _ _ _ _ _) rfl rfl <| CN <| Ex (gII _ _) rfl rfl <| CN <| Op1.alloc hst zb3 fun w b11 hst => CN <| Op1.alloc hst za0 fun w b12 hst => CN (SO (v := zb2 _ _ _ _ _) hst zb3 rfl rfl .u1 fun w hst => ?_)
 refine CN (SO (v := gII _ _) hst za0 rfl rfl .u0 fun w hst => ?_)
 refine NSR <| CN <| zar (vs := zdH _ _ _ _ _) zb3 rfl rfl rfl (zac (n := 3) (hst.objL Q1) _ rfl) <| CN <| Op1.call1 (v1 := zb2 _ _ _ _ _) zuk rfl rfl <| zf0 (zfC (zbc s).1.1 (zbc s).1.2.1 dO3.length _ _ _) (Vb (Dt (by rw [hz1]; exact ⟨rfl, rfl, by have := congrArg List.length hdO3; rw [hz1] at this; simpa using this⟩))) hst fun w hst => MB rfl <| TK (t := 124) rfl (Vb (rfl : true = _)) <| zar (vs := lII _ _) za0 rfl rfl rfl (zac (n := 2) (hst.objL Q0) _ rfl) <| TK (t := 124) rfl (Vb (rfl : true = _)) <| zar (vs := lII _ _) za0 rfl rfl rfl (zac (n := 2) (hst.objL Q3) _ rfl) <| TK (t := 124) rfl (Vb (rfl : true = _)) <| zem (xs := (lII _ _)) (ys := (lII _ _)) rfl rfl (by kernel_rfl) (zcb Tryz.underlying28 (by kernel_rfl) (.cons (by decide) (PartOk.one zcO rfl rfl) (PartOk.one zcO rfl rfl) (zbQ zcO) (.cons (by decide) (PartOk.one ty3 rfl rfl) (PartOk.one ty3 rfl rfl) (zbQ ty3) .nil))) <| CN <| zap (u := .bool _) (Vb (rfl : true = _)) rfl <| AB rfl <| NL <| zah Tryz.func12 rfl (TP (v := .bool _) rfl) ?_
 exact ⟨by simp, hst.pure⟩
end Go.SK
