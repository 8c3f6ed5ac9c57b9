/-
  Steps of functions,plain law,and walks of functions: what the laws rest on.
-/
import Derived.Test.YtglmmdpeenckbaaGreatDoorSkW3a
set_option linter.unusedVariables false
set_option linter.unusedSimpArgs false
set_option linter.unusedSectionVars false
namespace Go.SK
open Go Go.Proofs Go.Proofs.Tryz
open Go.RowKit
theorem ze4 (b:Nat) (ao:Option Addr) (cp:Nat) (l:List Int) (a:Nat) (w:World) (hR:(RdR 228 22 b ao cp l a).holds w) (hl:l.length ≤ 35184372088832) (ha:a ≤ l.length):Ret prog 153 #[.pointer (some ⟨b,0,none⟩)] w (fun v w'=>(a < l.length ∧ v = .tuple #[.int .u32 (l.getD a 0),.int .i64 0] ∧ St w (RdR 228 22 b ao cp l a).foot [RdR 228 22 b ao cp l (a + 1)] [] w') ∨ (a = l.length ∧ v = .tuple #[.int .u32 0,.int .i64 14] ∧ St w (RdR 228 22 b ao cp l a).foot [RdR 228 22 b ao cp l a] [] w')):=by
 rcases Nat.lt_or_ge a l.length with h | h
 ·exact (zj4 b ao cp l a w hR hl h).mono fun v w' hp=>.inl ⟨h,hp⟩
 ·exact (zn4 b ao cp l a w hR hl O).mono fun v w' hp=>.inr ⟨by omega,hp⟩
theorem zuU (b:Nat) (ao:Option Addr) (cp:Nat) (l:List Int) (w:World) (hR:(RdR 228 22 b ao cp l 0).holds w) (hl:l.length ≤ 35184372088832):Ret prog 101 #[.pointer (some ⟨b,0,none⟩)] w (fun v w'=>v = ztZ l ∧ St w (RdR 228 22 b ao cp l 0).foot [] [] w'):=by
 refine zav (args:=[.pointer (some ⟨b,0,none⟩)]) func101 Z Z Z ?_
 have V:St w (RdR 228 22 b ao cp l 0).foot [RdR 228 22 b ao cp l 0] [] w:=St.enter1 hR (fun d hd=>by cases hd) (fun d hd=>by cases hd)
 refine SR<|Q<|zar V zbF fun w b2 V=>Q<|zar V zaV fun w b3 V=>NSR<|Q<|zar V zbF fun w b4 V=>G<|SQ<|SR<|MI Z<|G<|zak ?_
 refine zaY<|SR<|Q<|zaN Z Z<|G<|SQ ?_
 have hq0:∀ j,j < 0 → hd1 l j = 0:=no_lt
 refine zas (Vb (Dt De))<|zag<|SQ<|zak<|SR<|MI Z<|AI Z<|G<|SQ ?_
 replace V:=V.pick (.c .u3 (.k3 .nil))
 refine RG<|MP Z<|Q (zao (v1:=Pp _ _) zjR Z Z ((ze4 _ _ _ l 0 _ (V.hL _ Q0) hl O).mono fun v w hp=>?_))
 rcases hp with ⟨hin0,rfl,hp⟩ | ⟨hin0,rfl,hp⟩
 ·replace V : St _ _ (RdR 228 22 b ao cp l 1 :: _) _ _ := V.call1 hp
  refine Q<|zad (v:=.tuple #[.int .u32 _,.int .i64 _]) Z<|Q<|Ex (.int .u32 _) Z Z<|Q<|Ex (.int .i64 _) Z Z<|AU Z<|AI Z<|G<|SQ<|zak<|SR<|MI Z<|Q<|zaF Z Z<|AB Z<|G<|zab Z (fun g1=>?_) (fun g1=>?_)
  ·exfalso
   exact g1 Z
  refine SR<|MI Z<|Q<|zam Z Z<|MB Z<|zau (d:=22) Z (fun g2=>?_) (fun g2=>?_)
  ·refine TK (t := 22) Z (Vb (Dt g2)) <| zad (v := .int .u32 _) Z <| TK (t := 22) Z (Vb (Dt g2)) (zao (v1 := .int .u32 _) ent154 Z Z ((zpo _).mono fun v w hp => ?_))
   obtain ⟨rfl,hp⟩:=hp
   replace V:=V.keepc hp
   refine TK (t:=22) Z (Vb (Dt g2))<|zam Z Z<|Q<|zaB (u:=.bool _) (Vb (Dt g2)) Z<|AB Z<|G<|zaj [(0,Pp _ _),(2,Pp _ _),(3,Pp _ _),(4,Pp _ _),(5,.int .i64 _),(6,.int .u32 _),(7,.int .i64 _),(8,.int .i64 _),(19,.bool _)] E9 fun f=>zab Z (fun g3=>?_) (fun g3=>?_)
   ·refine RG <| AI Z <| G <| zah <| SR <| MI Z <| Q <| zaF Z Z <| G <| zab Z (fun g4 => ?_) (fun g4 => ?_)
    ·refine SR <| Q (zaf zbF zc5 .nil ?_)
     refine MI Z<|MI Z<|Q (zaf zaV zbW (.c (v:=.int .i64 _) Z (h:=(.c (v:=.int .i64 _) Z (h:=.nil)))) ?_)
     refine Q (SO (v:=gUU _ _) V zbF Z Z .u3 fun w V=>?_)
     refine Q (SO (v:=gII _ _) V zaV Z Z .u2 fun w V=>?_)
     refine G<|zaq func101 Z (zat (vs:=lUU _ _) Z zbF Z Z (zac (n:=2) (V.objL Q3) _ Z)) (zat (vs:=lII _ _) Z zaV Z Z (zac (n:=2) (V.objL Q2) _ Z)) ?_
     replace V:=V.pick .nil
     exact ⟨(zcp (zdf (k:=0) (e:=21) De hq0 (zjF hin0 (wf0s O)) De) De).symm,V⟩
    exfalso
    exact g4 De
   refine SR<|MI Z<|Q<|zam Z Z<|MB Z<|zau (d:=30) Z (fun g5=>?_) (fun g5=>?_)
   ·refine TK (t := 30) Z (Vb (Dt g5)) <| zad (v := .int .u32 _) Z <| TK (t := 30) Z (Vb (Dt g5)) <| zaF Z Z <| Q <| zaB (u := .bool _) (Vb (Dt g5)) Z <| AB Z <| G <| zab Z (fun g6 => ?_) (fun g6 => ?_)
    ·refine RG <| AI Z <| G <| zah <| SR <| MI Z <| Q <| zaF Z Z <| G <| zab Z (fun g7 => ?_) (fun g7 => ?_)
     ·refine SR <| Q (zaf zbF zc5 .nil ?_)
      refine MI Z<|MI Z<|Q (zaf zaV zbW (.c (v:=.int .i64 _) Z (h:=(.c (v:=.int .i64 _) Z (h:=.nil)))) ?_)
      refine Q (SO (v:=gUU _ _) V zbF Z Z .u3 fun w V=>?_)
      refine Q (SO (v:=gII _ _) V zaV Z Z .u2 fun w V=>?_)
      refine G<|zaq func101 Z (zat (vs:=lUU _ _) Z zbF Z Z (zac (n:=2) (V.objL Q3) _ Z)) (zat (vs:=lII _ _) Z zaV Z Z (zac (n:=2) (V.objL Q2) _ Z)) ?_
      replace V:=V.pick .nil
      exact ⟨(zcp (zdf (k:=0) (e:=20) De hq0 (zjF hin0 (wf0m O O)) De) De).symm,V⟩
     exfalso
     exact g7 De
    refine SR<|MI Z<|Q<|zam Z Z<|MB Z<|zau (d:=37) Z (fun g8=>?_) (fun g8=>?_)
    ·exfalso
     first | exact g8 De | exact absurd g8 De
    refine OM (t:=37) Z (Vb (Df g8)) Z<|OM (t:=37) Z (Vb (Df g8)) Z<|Q<|zax (u:=.bool _) (Vb (Df g8)) Z<|AB Z<|G<|zal (Vb (Z:false = _))<|SR<|MI Z<|Q<|zam Z Z<|AB Z<|G<|zab Z (fun g9=>?_) (fun g9=>?_)
    ·exfalso
     first | exact g9 De | exact absurd g9 De
    refine SR<|MI Z<|Q<|zam Z Z<|MB Z<|zau (d:=49) Z (fun g10=>?_) (fun g10=>?_)
    ·exfalso
     first | exact g10 De | exact absurd g10 De
    refine OM (t:=49) Z (Vb (Df g10)) Z<|OM (t:=49) Z (Vb (Df g10)) Z<|OM (t:=49) Z (Vb (Df g10)) Z<|zaL (t:=52) Z Z<|zaL (t:=52) Z Z<|OM (t:=49) Z (Vb (Df g10)) Z<|Q<|zax (u:=.bool _) (Vb (Df g10)) Z<|AB Z<|G<|zaj [(0,Pp _ _),(2,Pp _ _),(3,Pp _ _),(4,Pp _ _),(5,.int .i64 _),(6,.int .u32 _),(7,.int .i64 _),(8,.int .i64 _),(46,.bool _)] E9 fun f=>zal (Vb (Z:false = _))<|SR<|MI Z<|Q (zam Z Z ?_)
    refine AB Z<|G<|zab Z (fun g11=>?_) (fun g11=>?_)
    ·exfalso
     first | exact g11 De | exact absurd g11 De
    refine SR<|MI Z<|Q<|zam Z Z<|MB Z<|zau (d:=65) Z (fun g12=>?_) (fun g12=>?_)
    ·exfalso
     first | exact g12 De | exact absurd g12 De
    refine OM (t:=65) Z (Vb (Df g12)) Z<|OM (t:=65) Z (Vb (Df g12)) Z<|Q<|zax (u:=.bool _) (Vb (Df g12)) Z<|AB Z<|G<|zal (Vb (Z:false = _))<|zag<|zah<|SR<|MI Z<|Q<|zaF Z Z<|G<|zab Z (fun g13=>?_) (fun g13=>?_)
    ·exfalso
     exact g13 Z
    have hq1:∀ j,j < 1 → hd1 l j = 0:=zdS hq0 (zjF hin0 (wf0k O))
    refine zag<|zah<|RG<|Q<|zaA Z Z Z zbt<|MI Z<|G<|zaD<|SR<|Q<|zaN Z Z<|G<|SQ<|zas (Vb (Dt De))<|zag<|SQ ?_
    refine zak<|SR<|MI Z<|AI Z<|NSR<|MP Z<|Q (zao (v1:=Pp _ _) zjR Z Z ((ze4 _ _ _ l 1 _ (V.hL _ Q0) hl O).mono fun v w hp=>?_))
    rcases hp with ⟨hin1,rfl,hp⟩ | ⟨hin1,rfl,hp⟩
    ·replace V : St _ _ (RdR 228 22 b ao cp l 2 :: _) _ _ := V.call1 hp
     refine Q<|zad (v:=.tuple #[.int .u32 _,.int .i64 _]) Z<|Q<|Ex (.int .u32 _) Z Z<|Q<|Ex (.int .i64 _) Z Z<|AU Z<|AI Z<|G<|zaj [(0,Pp _ _),(2,Pp _ _),(3,Pp _ _),(4,Pp _ _),(5,.int .i64 _),(6,.int .u32 _),(7,.int .i64 _),(8,.int .i64 _)] E8 fun f=>SQ<|zak<|SR<|MI Z<|Q<|zaF Z Z<|AB Z<|G ?_
     refine zab Z (fun g14=>?_) (fun g14=>?_)
     ·exfalso
      exact g14 Z
     refine SR<|MI Z<|Q<|zam Z Z<|MB Z<|zau (d:=22) Z (fun g15=>?_) (fun g15=>?_)
     ·exfalso
      first | exact g15 De | exact absurd g15 De
     refine OM (t:=22) Z (Vb (Df g15)) Z<|OM (t:=22) Z (Vb (Df g15)) Z<|OM (t:=22) Z (Vb (Df g15)) Z<|Q<|zax (u:=.bool _) (Vb (Df g15)) Z<|AB Z<|G<|zal (Vb (Z:false = _))<|SR<|MI Z<|Q<|zam Z Z<|MB Z<|zau (d:=30) Z (fun g16=>?_) (fun g16=>?_)
     ·exfalso
      first | exact g16 De | exact absurd g16 De
     refine OM (t:=30) Z (Vb (Df g16)) Z<|OM (t:=30) Z (Vb (Df g16)) Z<|Q<|zax (u:=.bool _) (Vb (Df g16)) Z<|AB Z<|G<|zal (Vb (Z:false = _))<|SR<|MI Z<|Q<|zam Z Z<|MB Z<|zau (d:=37) Z (fun g17=>?_) (fun g17=>?_)
     ·refine TK (t := 37) Z (Vb (Dt g17)) <| zad (v := .int .u32 _) Z <| TK (t := 37) Z (Vb (Dt g17)) <| zaF Z Z <| Q <| zaB (u := .bool _) (Vb (Dt g17)) Z <| AB Z <| G <| zaj [(0, Pp _ _), (2, Pp _ _), (3, Pp _ _), (4, Pp _ _), (5, .int .i64 _), (6, .int .u32 _), (7, .int .i64 _), (8, .int .i64 _), (34, .bool _)] E9 fun f => zab Z (fun g18 => ?_) (fun g18 => ?_)
      ·refine RG <| AI Z <| G <| zah <| SR <| MI Z <| Q <| zaF Z Z <| G <| zab Z (fun g19 => ?_) (fun g19 => ?_)
       ·refine SR <| Q (zaf zbF zc5 .nil ?_)
        refine MI Z<|MI Z<|Q (zaf zaV zbW (.c (v:=.int .i64 _) Z (h:=(.c (v:=.int .i64 _) Z (h:=.nil)))) ?_)
        refine Q (SO (v:=gUU _ _) V zbF Z Z .u3 fun w V=>?_)
        refine Q (SO (v:=gII _ _) V zaV Z Z .u2 fun w V=>?_)
        refine G<|zaq func101 Z (zat (vs:=lUU _ _) Z zbF Z Z (zac (n:=2) (V.objL Q3) _ Z)) (zat (vs:=lII _ _) Z zaV Z Z (zac (n:=2) (V.objL Q2) _ Z)) ?_
        replace V:=V.pick .nil
        exact ⟨(zcp (zdf (k:=1) (e:=22) De hq1 (zjF hin1 (wf1v O)) De) De).symm,V⟩
       exfalso
       exact g19 De
      refine SR<|MI Z<|Q<|zam Z Z<|AB Z<|G<|zab Z (fun g20=>?_) (fun g20=>?_)
      ·exfalso
       first | exact g20 De | exact absurd g20 De
      refine SR<|MI Z<|Q<|zam Z Z<|MB Z<|zau (d:=49) Z (fun g21=>?_) (fun g21=>?_)
      ·exfalso
       first | exact g21 De | exact absurd g21 De
      refine OM (t:=49) Z (Vb (Df g21)) Z<|OM (t:=49) Z (Vb (Df g21)) Z<|OM (t:=49) Z (Vb (Df g21)) Z<|zaL (t:=52) Z Z<|zaL (t:=52) Z Z<|OM (t:=49) Z (Vb (Df g21)) Z<|Q<|zax (u:=.bool _) (Vb (Df g21)) Z<|AB Z<|G<|zal (Vb (Z:false = _))<|SR<|MI Z<|Q<|zam Z Z<|AB Z ?_
      refine G<|zab Z (fun g22=>?_) (fun g22=>?_)
      ·exfalso
       first | exact g22 De | exact absurd g22 De
      refine SR<|MI Z<|Q<|zam Z Z<|MB Z<|zau (d:=65) Z (fun g23=>?_) (fun g23=>?_)
      ·exfalso
       first | exact g23 De | exact absurd g23 De
      refine OM (t:=65) Z (Vb (Df g23)) Z<|OM (t:=65) Z (Vb (Df g23)) Z<|Q<|zax (u:=.bool _) (Vb (Df g23)) Z<|AB Z<|G<|zal (Vb (Z:false = _))<|zag<|zah<|SR<|MI Z<|Q<|zaF Z Z<|G<|zab Z (fun g24=>?_) (fun g24=>?_)
      ·exfalso
       exact g24 Z
      have hq2:∀ j,j < 2 → hd1 l j = 0:=zdS hq1 (zjF hin1 (wf1k O))
      refine zag<|zah<|RG<|Q<|zaA Z Z Z zbt<|MI Z<|G<|zaD<|zaj [(0,Pp _ _),(2,Pp _ _),(3,Pp _ _),(4,Pp _ _),(8,.int .i64 _)] E5 fun f=>SR<|Q<|zaN Z Z<|G<|SQ<|zas (Vb (Dt De))<|zag ?_
      refine SQ<|zak<|SR<|MI Z<|AI Z<|NSR<|MP Z<|Q (zao (v1:=Pp _ _) zjR Z Z ((ze4 _ _ _ l 2 _ (V.hL _ Q0) hl O).mono fun v w hp=>?_))
      rcases hp with ⟨hin2,rfl,hp⟩ | ⟨hin2,rfl,hp⟩
      ·replace V : St _ _ (RdR 228 22 b ao cp l 3 :: _) _ _ := V.call1 hp
       refine Q<|zad (v:=.tuple #[.int .u32 _,.int .i64 _]) Z<|Q<|Ex (.int .u32 _) Z Z<|Q<|Ex (.int .i64 _) Z Z<|AU Z<|AI Z<|G<|SQ<|zak<|SR<|MI Z<|Q<|zaF Z Z<|AB Z<|G<|zab Z (fun g25=>?_) (fun g25=>?_)
       ·exfalso
        exact g25 Z
       refine SR<|MI Z<|Q<|zam Z Z<|MB Z<|zau (d:=22) Z (fun g26=>?_) (fun g26=>?_)
       ·exfalso
        first | exact g26 De | exact absurd g26 De
       refine OM (t:=22) Z (Vb (Df g26)) Z<|OM (t:=22) Z (Vb (Df g26)) Z<|OM (t:=22) Z (Vb (Df g26)) Z<|Q<|zax (u:=.bool _) (Vb (Df g26)) Z<|AB Z<|G<|zal (Vb (Z:false = _))<|SR<|MI Z<|Q<|zam Z Z<|MB Z<|zau (d:=30) Z (fun g27=>?_) (fun g27=>?_)
       ·exfalso
        first | exact g27 De | exact absurd g27 De
       refine OM (t:=30) Z (Vb (Df g27)) Z<|OM (t:=30) Z (Vb (Df g27)) Z<|Q<|zax (u:=.bool _) (Vb (Df g27)) Z<|AB Z<|G<|zaj [(0,Pp _ _),(2,Pp _ _),(3,Pp _ _),(4,Pp _ _),(5,.int .i64 _),(6,.int .u32 _),(7,.int .i64 _),(8,.int .i64 _),(27,.bool _)] E9 fun f=>zal (Vb (Z:false = _))<|SR<|MI Z<|Q<|zam Z Z<|MB Z<|zau (d:=37) Z (fun g28=>?_) (fun g28=>?_)
       ·exfalso
        first | exact g28 De | exact absurd g28 De
       refine OM (t:=37) Z (Vb (Df g28)) Z<|OM (t:=37) Z (Vb (Df g28)) Z<|Q<|zax (u:=.bool _) (Vb (Df g28)) Z<|AB Z<|G<|zal (Vb (Z:false = _))<|SR<|MI Z<|Q<|zam Z Z<|AB Z<|G<|zab Z (fun g29=>?_) (fun g29=>?_)
       ·refine RG <| MU Z <| Q <| zaa zjI Z <| Q (SO (v := .int .u32 _) V za9 Z Z .u1 fun w V => ?_)
        refine G<|zah<|SR<|MI Z<|Q<|zaF Z Z<|G<|zab Z (fun g30=>?_) (fun g30=>?_)
        ·exfalso
         exact g30 Z
        have hq3:∀ j,j < 3 → hd1 l j = 0:=zdS hq2 (zjF hin2 (wf2k))
        refine zag<|zah<|RG<|Q<|zaA Z Z Z zbt<|MI Z<|G<|zaD<|SR<|Q<|zaN Z Z<|G<|SQ<|zas (Vb (Dt De))<|zag<|SQ ?_
        refine zak<|SR<|MI Z<|AI Z<|NSR<|MP Z<|Q (zao (v1:=Pp _ _) zjR Z Z ((ze4 _ _ _ l 3 _ (V.hL _ Q0) hl O).mono fun v w hp=>?_))
        rcases hp with ⟨hin3,rfl,hp⟩ | ⟨hin3,rfl,hp⟩
        ·replace V : St _ _ (RdR 228 22 b ao cp l 4 :: _) _ _ := V.call1 hp
         refine Q<|zad (v:=.tuple #[.int .u32 _,.int .i64 _]) Z<|Q<|Ex (.int .u32 _) Z Z<|Q<|Ex (.int .i64 _) Z Z<|AU Z<|AI Z<|G<|zaj [(0,Pp _ _),(2,Pp _ _),(3,Pp _ _),(4,Pp _ _),(5,.int .i64 _),(6,.int .u32 _),(7,.int .i64 _),(8,.int .i64 _)] E8 fun f=>SQ<|zak<|SR<|MI Z<|Q<|zaF Z Z<|AB Z<|G ?_
         refine zab Z (fun g31=>?_) (fun g31=>?_)
         ·exfalso
          exact g31 Z
         refine SR<|MI Z<|Q<|zam Z Z<|MB Z<|zau (d:=22) Z (fun g32=>?_) (fun g32=>?_)
         ·exfalso
          first | exact g32 De | exact absurd g32 De
         refine OM (t:=22) Z (Vb (Df g32)) Z<|OM (t:=22) Z (Vb (Df g32)) Z<|OM (t:=22) Z (Vb (Df g32)) Z<|Q<|zax (u:=.bool _) (Vb (Df g32)) Z<|AB Z<|G<|zal (Vb (Z:false = _))<|SR<|MI Z<|Q<|zam Z Z<|MB Z<|zau (d:=30) Z (fun g33=>?_) (fun g33=>?_)
         ·exfalso
          first | exact g33 De | exact absurd g33 De
         refine OM (t:=30) Z (Vb (Df g33)) Z<|OM (t:=30) Z (Vb (Df g33)) Z<|Q<|zax (u:=.bool _) (Vb (Df g33)) Z<|AB Z<|G<|zal (Vb (Z:false = _))<|SR<|MI Z<|Q<|zam Z Z<|MB Z<|zau (d:=37) Z (fun g34=>?_) (fun g34=>?_)
         ·exfalso
          first | exact g34 De | exact absurd g34 De
         refine OM (t:=37) Z (Vb (Df g34)) Z<|OM (t:=37) Z (Vb (Df g34)) Z<|Q<|zax (u:=.bool _) (Vb (Df g34)) Z<|AB Z<|G<|zal (Vb (Z:false = _))<|SR<|MI Z<|Q<|zam Z Z<|AB Z<|G<|zaj [(0,Pp _ _),(2,Pp _ _),(3,Pp _ _),(4,Pp _ _),(5,.int .i64 _),(6,.int .u32 _),(7,.int .i64 _),(8,.int .i64 _),(41,.bool _)] E9 fun f=>zab Z (fun g35=>?_) (fun g35=>?_)
         ·exfalso
          first | exact g35 De | exact absurd g35 De
         refine SR<|MI Z<|Q<|zam Z Z<|MB Z<|zau (d:=49) Z (fun g36=>?_) (fun g36=>?_)
         ·refine TK (t := 49) Z (Vb (Dt g36)) <| zad (v := .int .u32 _) Z <| TK (t := 49) Z (Vb (Dt g36)) <| zam Z Z <| TK (t := 49) Z (Vb (Dt g36)) <| zad (v := .bool _) Z <| zau (d := 52) Z (fun g37 => ?_) (fun g37 => ?_)
          ·refine OM (t := 52) Z (Vb (Dt g37)) Z <| OM (t := 52) Z (Vb (Dt g37)) Z <| TK (t := 49) Z (Vb (Dt g36)) <| zaB (u := .bool _) (Vb (Dt g37)) Z <| Q <| zaB (u := .bool _) (Vb (Dt g36)) Z <| AB Z <| G <| zas (Vb (Z : true = _)) <| RG <| AI Z <| G <| zah <| SR <| MI Z <| Q (zaF Z Z ?_)
           refine G<|zab Z (fun g38=>?_) (fun g38=>?_)
           ·refine SR <| Q (zaf zbF zc5 .nil ?_)
            refine MI Z<|MI Z<|Q (zaf zaV zbW (.c (v:=.int .i64 _) Z (h:=(.c (v:=.int .i64 _) Z (h:=.nil)))) ?_)
            refine Q (SO (v:=gUU _ _) V zbF Z Z .u3 fun w V=>?_)
            refine Q (SO (v:=gII _ _) V zaV Z Z .u2 fun w V=>?_)
            refine G<|zaq func101 Z (zat (vs:=lUU _ _) Z zbF Z Z (zac (n:=2) (V.objL Q3) _ Z)) (zat (vs:=lII _ _) Z zaV Z Z (zac (n:=2) (V.objL Q2) _ Z)) ?_
            replace V:=V.pick .nil
            exact ⟨(zcp (zdf (k:=3) (e:=24) De hq3 (zjF hin3 (wf3b O)) De) De).symm,V⟩
           exfalso
           exact g38 De
          refine TK (t:=52) Z (Vb (Df g37))<|zad (v:=.int .u32 _) Z<|TK (t:=52) Z (Vb (Df g37))<|zbI Z Z<|TK (t:=49) Z (Vb (Dt g36))<|zax (u:=.bool _) (Vb (Df g37)) Z<|Q<|zaB (u:=.bool _) (Vb (Dt g36)) Z<|AB Z<|G<|zab Z (fun g39=>?_) (fun g39=>?_)
          ·refine RG <| AI Z <| G <| zah <| SR <| MI Z <| Q <| zaF Z Z <| G <| zab Z (fun g40 => ?_) (fun g40 => ?_)
           ·refine SR <| Q (zaf zbF zc5 .nil ?_)
            refine MI Z<|MI Z<|Q (zaf zaV zbW (.c (v:=.int .i64 _) Z (h:=(.c (v:=.int .i64 _) Z (h:=.nil)))) ?_)
            refine Q (SO (v:=gUU _ _) V zbF Z Z .u3 fun w V=>?_)
            refine Q (SO (v:=gII _ _) V zaV Z Z .u2 fun w V=>?_)
            refine G<|zaq func101 Z (zat (vs:=lUU _ _) Z zbF Z Z (zac (n:=2) (V.objL Q3) _ Z)) (zat (vs:=lII _ _) Z zaV Z Z (zac (n:=2) (V.objL Q2) _ Z)) ?_
            replace V:=V.pick .nil
            exact ⟨(zcp (zdf (k:=3) (e:=24) De hq3 (zjF hin3 (wf3b O)) De) De).symm,V⟩
           exfalso
           exact g40 De
          refine SR<|MI Z<|Q<|zam Z Z<|AB Z<|G<|zab Z (fun g41=>?_) (fun g41=>?_)
          ·refine RG <| MU Z <| Q <| zaa zfU Z <| Q (SO (v := .int .u32 _) V za9 Z Z .u1 fun w V => ?_)
           refine G<|zah<|SR<|MI Z<|Q<|zaF Z Z<|G<|zab Z (fun g42=>?_) (fun g42=>?_)
           ·exfalso
            exact g42 Z
           have hq4:∀ j,j < 4 → hd1 l j = 0:=zdS hq3 (zjF hin3 (wf3k O O))
           refine zag<|zah<|RG<|Q<|zaA Z Z Z zbt<|MI Z<|G<|zaD<|zaj [(0,Pp _ _),(2,Pp _ _),(3,Pp _ _),(4,Pp _ _),(8,.int .i64 _)] E5 fun f=>SR<|Q<|zaN Z Z<|G<|SQ<|zas (Vb (Dt De))<|zag ?_
           refine SQ<|zak<|SR<|MI Z<|AI Z<|NSR<|MP Z<|Q (zao (v1:=Pp _ _) zjR Z Z ((ze4 _ _ _ l 4 _ (V.hL _ Q0) hl O).mono fun v w hp=>?_))
           rcases hp with ⟨hin4,rfl,hp⟩ | ⟨hin4,rfl,hp⟩
           ·replace V : St _ _ (RdR 228 22 b ao cp l 5 :: _) _ _ := V.call1 hp
            refine Q<|zad (v:=.tuple #[.int .u32 _,.int .i64 _]) Z<|Q<|Ex (.int .u32 _) Z Z<|Q<|Ex (.int .i64 _) Z Z<|AU Z<|AI Z<|G<|SQ<|zak<|SR<|MI Z<|Q<|zaF Z Z<|AB Z<|G<|zab Z (fun g43=>?_) (fun g43=>?_)
            ·exfalso
             exact g43 Z
            refine SR<|MI Z<|Q<|zam Z Z<|MB Z<|zau (d:=22) Z (fun g44=>?_) (fun g44=>?_)
            ·exfalso
             first | exact g44 De | exact absurd g44 De
            refine OM (t:=22) Z (Vb (Df g44)) Z<|OM (t:=22) Z (Vb (Df g44)) Z<|OM (t:=22) Z (Vb (Df g44)) Z<|Q<|zax (u:=.bool _) (Vb (Df g44)) Z<|AB Z<|G<|zal (Vb (Z:false = _))<|SR<|MI Z<|Q<|zam Z Z<|MB Z<|zau (d:=30) Z (fun g45=>?_) (fun g45=>?_)
            ·exfalso
             first | exact g45 De | exact absurd g45 De
            refine OM (t:=30) Z (Vb (Df g45)) Z<|OM (t:=30) Z (Vb (Df g45)) Z<|Q<|zax (u:=.bool _) (Vb (Df g45)) Z<|AB Z<|G<|zaj [(0,Pp _ _),(2,Pp _ _),(3,Pp _ _),(4,Pp _ _),(5,.int .i64 _),(6,.int .u32 _),(7,.int .i64 _),(8,.int .i64 _),(27,.bool _)] E9 fun f=>zal (Vb (Z:false = _))<|SR<|MI Z<|Q<|zam Z Z<|MB Z<|zau (d:=37) Z (fun g46=>?_) (fun g46=>?_)
            ·exfalso
             first | exact g46 De | exact absurd g46 De
            refine OM (t:=37) Z (Vb (Df g46)) Z<|OM (t:=37) Z (Vb (Df g46)) Z<|Q<|zax (u:=.bool _) (Vb (Df g46)) Z<|AB Z<|G<|zal (Vb (Z:false = _))<|SR<|MI Z<|Q<|zam Z Z<|AB Z<|G<|zab Z (fun g47=>?_) (fun g47=>?_)
            ·exfalso
             first | exact g47 De | exact absurd g47 De
            refine SR<|MI Z<|Q<|zam Z Z<|MB Z<|zau (d:=49) Z (fun g48=>?_) (fun g48=>?_)
            ·exfalso
             first | exact g48 De | exact absurd g48 De
            refine OM (t:=49) Z (Vb (Df g48)) Z<|OM (t:=49) Z (Vb (Df g48)) Z<|OM (t:=49) Z (Vb (Df g48)) Z<|zaL (t:=52) Z Z<|zaL (t:=52) Z Z<|OM (t:=49) Z (Vb (Df g48)) Z<|Q<|zax (u:=.bool _) (Vb (Df g48)) Z<|AB Z<|G<|zal (Vb (Z:false = _))<|SR<|MI Z<|Q<|zam Z Z<|AB Z ?_
            refine G<|zab Z (fun g49=>?_) (fun g49=>?_)
            ·exfalso
             first | exact g49 De | exact absurd g49 De
            refine SR<|MI Z<|Q<|zam Z Z<|MB Z<|zau (d:=65) Z (fun g50=>?_) (fun g50=>?_)
            ·refine TK (t := 65) Z (Vb (Dt g50)) <| zad (v := .int .u32 _) Z <| TK (t := 65) Z (Vb (Dt g50)) <| zaF Z Z <| Q <| zaB (u := .bool _) (Vb (Dt g50)) Z <| AB Z <| G <| zaj [(0, Pp _ _), (2, Pp _ _), (3, Pp _ _), (4, Pp _ _), (5, .int .i64 _), (7, .int .i64 _), (8, .int .i64 _), (62, .bool _)] E8 fun f => zab Z (fun g51 => ?_) (fun g51 => ?_)
             ·refine RG <| AI Z <| G <| zah <| SR <| MI Z <| Q <| zaF Z Z <| G <| zab Z (fun g52 => ?_) (fun g52 => ?_)
              ·refine SR <| Q (zaf zbF zc5 .nil ?_)
               refine MI Z<|MI Z<|Q (zaf zaV zbW (.c (v:=.int .i64 _) Z (h:=(.c (v:=.int .i64 _) Z (h:=.nil)))) ?_)
               refine Q (SO (v:=gUU _ _) V zbF Z Z .u3 fun w V=>?_)
               refine Q (SO (v:=gII _ _) V zaV Z Z .u2 fun w V=>?_)
               refine G<|zaq func101 Z (zat (vs:=lUU _ _) Z zbF Z Z (zac (n:=2) (V.objL Q3) _ Z)) (zat (vs:=lII _ _) Z zaV Z Z (zac (n:=2) (V.objL Q2) _ Z)) ?_
               replace V:=V.pick .nil
               exact ⟨(zcp (zdf (k:=4) (e:=23) De hq4 (zjF hin4 (wf4s O)) De) De).symm,V⟩
              exfalso
              exact g52 De
             refine zag<|zah<|SR<|MI Z<|Q<|zaF Z Z<|G<|zab Z (fun g53=>?_) (fun g53=>?_)
             ·exfalso
              exact g53 Z
             have hq5:∀ j,j < 5 → hd1 l j = 0:=zdS hq4 (zjF hin4 (wf4k O))
             refine zag<|zah<|RG<|Q<|zaA Z Z Z zbt<|MI Z<|G<|zaD<|SR<|Q<|zaN Z Z<|G<|SQ<|zal (Vb (Df De))<|zaK (id:=0) Z<|SQ ?_
             refine RG<|Q<|zay (vs:=lUU _ _) zbF Z Z Z (zac (n:=2) (V.objL Q1) _ Z)<|Q (zaf zaV zbW .nil ?_)
             refine Q (SO (v:=gUU _ _) V zbF Z Z .u3 fun w V=>?_)
             refine Q (SO (v:=gII _ _) V zaV Z Z .u2 fun w V=>?_)
             refine G<|zaq func101 Z (zat (vs:=lUU _ _) Z zbF Z Z (zac (n:=2) (V.objL Q3) _ Z)) (zat (vs:=lII _ _) Z zaV Z Z (zac (n:=2) (V.objL Q2) _ Z)) ?_
             replace V:=V.pick .nil
             exact ⟨(zqt (ziW hq5)).symm,V⟩
            exfalso
            first | exact g50 De | exact absurd g50 De
           ·replace V : St _ _ (RdR 228 22 b ao cp l 4 :: _) _ _ := V.call1 hp
            refine Q<|zad (v:=.tuple #[.int .u32 _,.int .i64 _]) Z<|Q<|Ex (.int .u32 _) Z Z<|Q<|Ex (.int .i64 _) Z Z<|AU Z<|AI Z<|G<|SQ<|zak<|SR<|MI Z<|Q<|zaF Z Z<|AB Z<|G<|zab Z (fun g54=>?_) (fun g54=>?_)
            ·refine zag <| zah <| SR <| MI Z <| Q <| zaF Z Z <| G <| zab Z (fun g55 => ?_) (fun g55 => ?_)
             ·refine SR <| Q (zaf zbF zc5 .nil ?_)
              refine MI Z<|MI Z<|Q (zaf zaV zbW (.c (v:=.int .i64 _) Z (h:=(.c (v:=.int .i64 _) Z (h:=.nil)))) ?_)
              refine Q (SO (v:=gUU _ _) V zbF Z Z .u3 fun w V=>?_)
              refine Q (SO (v:=gII _ _) V zaV Z Z .u2 fun w V=>?_)
              refine G<|zaq func101 Z (zat (vs:=lUU _ _) Z zbF Z Z (zac (n:=2) (V.objL Q3) _ Z)) (zat (vs:=lII _ _) Z zaV Z Z (zac (n:=2) (V.objL Q2) _ Z)) ?_
              replace V:=V.pick .nil
              exact ⟨(zcp (zdf (k:=4) (e:=14) De hq4 (znv O) De) De).symm,V⟩
             exfalso
             exact g55 De
            exfalso
            exact g54 De
          exfalso
          first | exact g41 De | exact absurd g41 De
         exfalso
         first | exact g36 De | exact absurd g36 De
        ·replace V : St _ _ (RdR 228 22 b ao cp l 3 :: _) _ _ := V.call1 hp
         refine Q<|zad (v:=.tuple #[.int .u32 _,.int .i64 _]) Z<|Q<|Ex (.int .u32 _) Z Z<|Q<|Ex (.int .i64 _) Z Z<|AU Z<|AI Z<|G<|zaj [(0,Pp _ _),(2,Pp _ _),(3,Pp _ _),(4,Pp _ _),(5,.int .i64 _),(6,.int .u32 _),(7,.int .i64 _),(8,.int .i64 _)] E8 fun f=>SQ<|zak<|SR<|MI Z<|Q<|zaF Z Z<|AB Z<|G ?_
         refine zab Z (fun g56=>?_) (fun g56=>?_)
         ·refine zag <| zah <| SR <| MI Z <| Q <| zaF Z Z <| G <| zab Z (fun g57 => ?_) (fun g57 => ?_)
          ·refine SR <| Q (zaf zbF zc5 .nil ?_)
           refine MI Z<|MI Z<|Q (zaf zaV zbW (.c (v:=.int .i64 _) Z (h:=(.c (v:=.int .i64 _) Z (h:=.nil)))) ?_)
           refine Q (SO (v:=gUU _ _) V zbF Z Z .u3 fun w V=>?_)
           refine Q (SO (v:=gII _ _) V zaV Z Z .u2 fun w V=>?_)
           refine G<|zaq func101 Z (zat (vs:=lUU _ _) Z zbF Z Z (zac (n:=2) (V.objL Q3) _ Z)) (zat (vs:=lII _ _) Z zaV Z Z (zac (n:=2) (V.objL Q2) _ Z)) ?_
           replace V:=V.pick .nil
           exact ⟨(zcp (zdf (k:=3) (e:=14) De hq3 (znv O) De) De).symm,V⟩
          exfalso
          exact g57 De
         exfalso
         exact g56 De
       exfalso
       first | exact g29 De | exact absurd g29 De
      ·replace V : St _ _ (RdR 228 22 b ao cp l 2 :: _) _ _ := V.call1 hp
       refine Q<|zad (v:=.tuple #[.int .u32 _,.int .i64 _]) Z<|Q<|Ex (.int .u32 _) Z Z<|Q<|Ex (.int .i64 _) Z Z<|AU Z<|AI Z<|G<|SQ<|zak<|SR<|MI Z<|Q<|zaF Z Z<|AB Z<|G<|zab Z (fun g58=>?_) (fun g58=>?_)
       ·refine zag <| zah <| SR <| MI Z <| Q <| zaF Z Z <| G <| zab Z (fun g59 => ?_) (fun g59 => ?_)
        ·refine SR <| Q (zaf zbF zc5 .nil ?_)
         refine MI Z<|MI Z<|Q (zaf zaV zbW (.c (v:=.int .i64 _) Z (h:=(.c (v:=.int .i64 _) Z (h:=.nil)))) ?_)
         refine Q (SO (v:=gUU _ _) V zbF Z Z .u3 fun w V=>?_)
         refine Q (SO (v:=gII _ _) V zaV Z Z .u2 fun w V=>?_)
         refine G<|zaq func101 Z (zat (vs:=lUU _ _) Z zbF Z Z (zac (n:=2) (V.objL Q3) _ Z)) (zat (vs:=lII _ _) Z zaV Z Z (zac (n:=2) (V.objL Q2) _ Z)) ?_
         replace V:=V.pick .nil
         exact ⟨(zcp (zdf (k:=2) (e:=14) De hq2 (znv O) De) De).symm,V⟩
        exfalso
        exact g59 De
       exfalso
       exact g58 De
     exfalso
     first | exact g17 De | exact absurd g17 De
    ·replace V : St _ _ (RdR 228 22 b ao cp l 1 :: _) _ _ := V.call1 hp
     refine Q<|zad (v:=.tuple #[.int .u32 _,.int .i64 _]) Z<|Q<|Ex (.int .u32 _) Z Z<|Q<|Ex (.int .i64 _) Z Z<|AU Z<|AI Z<|G<|zaj [(0,Pp _ _),(2,Pp _ _),(3,Pp _ _),(4,Pp _ _),(5,.int .i64 _),(6,.int .u32 _),(7,.int .i64 _),(8,.int .i64 _)] E8 fun f=>SQ<|zak<|SR<|MI Z<|Q<|zaF Z Z<|AB Z<|G ?_
     refine zab Z (fun g60=>?_) (fun g60=>?_)
     ·refine zag <| zah <| SR <| MI Z <| Q <| zaF Z Z <| G <| zab Z (fun g61 => ?_) (fun g61 => ?_)
      ·refine SR <| Q (zaf zbF zc5 .nil ?_)
       refine MI Z<|MI Z<|Q (zaf zaV zbW (.c (v:=.int .i64 _) Z (h:=(.c (v:=.int .i64 _) Z (h:=.nil)))) ?_)
       refine Q (SO (v:=gUU _ _) V zbF Z Z .u3 fun w V=>?_)
       refine Q (SO (v:=gII _ _) V zaV Z Z .u2 fun w V=>?_)
       refine G<|zaq func101 Z (zat (vs:=lUU _ _) Z zbF Z Z (zac (n:=2) (V.objL Q3) _ Z)) (zat (vs:=lII _ _) Z zaV Z Z (zac (n:=2) (V.objL Q2) _ Z)) ?_
       replace V:=V.pick .nil
       exact ⟨(zcp (zdf (k:=1) (e:=14) De hq1 (znv O) De) De).symm,V⟩
      exfalso
      exact g61 De
     exfalso
     exact g60 De
   exfalso
   first | exact g5 De | exact absurd g5 De
  exfalso
  first | exact g2 De | exact absurd g2 De
 ·replace V : St _ _ (RdR 228 22 b ao cp l 0 :: _) _ _ := V.call1 hp
  refine Q<|zad (v:=.tuple #[.int .u32 _,.int .i64 _]) Z<|Q<|Ex (.int .u32 _) Z Z<|Q<|Ex (.int .i64 _) Z Z<|AU Z<|AI Z<|G<|SQ<|zak<|SR<|MI Z<|Q<|zaF Z Z<|AB Z<|G<|zab Z (fun g62=>?_) (fun g62=>?_)
  ·refine zag <| zah <| SR <| MI Z <| Q <| zaF Z Z <| G <| zaj [(0, Pp _ _), (2, Pp _ _), (3, Pp _ _), (4, Pp _ _), (5, .int .i64 _), (7, .int .i64 _), (8, .int .i64 _), (70, .bool _)] E8 fun f => zab Z (fun g63 => ?_) (fun g63 => ?_)
   ·refine SR <| Q (zaf zbF zc5 .nil ?_)
    refine MI Z<|MI Z<|Q (zaf zaV zbW (.c (v:=.int .i64 _) Z (h:=(.c (v:=.int .i64 _) Z (h:=.nil)))) ?_)
    refine Q (SO (v:=gUU _ _) V zbF Z Z .u3 fun w V=>?_)
    refine Q (SO (v:=gII _ _) V zaV Z Z .u2 fun w V=>?_)
    refine G<|zaq func101 Z (zat (vs:=lUU _ _) Z zbF Z Z (zac (n:=2) (V.objL Q3) _ Z)) (zat (vs:=lII _ _) Z zaV Z Z (zac (n:=2) (V.objL Q2) _ Z)) ?_
    replace V:=V.pick .nil
    exact ⟨(zcp (zdf (k:=0) (e:=14) De hq0 (znv O) De) De).symm,V⟩
   exfalso
   exact g63 De
  exfalso
  exact g62 De
end Go.SK
namespace Go.SK
open Go Go.Proofs Go.Proofs.Tryz
theorem ent156:zaG prog 156:=⟨f156,_,func156,Kr,rfl⟩
open Go.RowKit
theorem zuT (l:List Int) (hw:Wd l) (ao:Option Addr) (cp:Nat) (a:Nat) (ha:a < l.length) (hcp:l.length ≤ cp) (w:World) (hA:(Res.rs ao l.length 1 (l.flatMap zci)).holds w) (hl:l.length ≤ 35184372088832):Ret prog 156 #[.slice ao l.length cp,.int .i64 (a:Int)] w (fun v w'=>((zjT l a).2 = false ∧ v = .tuple #[.agg #[.int .u16 0,.slice none 0 0],.int .i64 0] ∧ St w NoM [] [] w') ∨ (∃ (n:Nat) (ro:Option Addr) (rc:Nat),l.getD a 0 / 65536 = (n:Int) ∧ 1 ≤ n ∧ a + n ≤ l.length ∧ v = .tuple #[.agg #[.int .u16 (l.getD a 0 % 65536),.slice ro (n - 1) rc],.int .i64 (n:Int)] ∧ St w NoM [Res.sl ro (n - 1) rc 22 1 (((l.drop (a + 1)).take (n - 1)).flatMap zci)] [] w')):=by
 cases he:(zjT l a).2 with
 | false=>exact (zpG l hw ao cp a ha he w hA hl).mono fun v w' hp=>.inl ⟨rfl,hp⟩
 | true =>
  have ht:=zec hw he
  exact (zpF l hw ao cp a ha _ ht.2.2 ht.1 ht.2.1 hcp w hA hl).mono fun v w' ⟨ro,rc,h1,h2⟩=>.inr ⟨_,ro,rc,ht.2.2,ht.1,ht.2.1,h1,h2⟩
theorem zuX (l:List Int) (ao:Option Addr) (cp:Nat) (w:World):Ret prog 103 #[.slice ao l.length cp] w (fun v w'=>∃ b,v = .func (.func 155) #[] #[.pointer (some ⟨b,0,none⟩)] ∧ St w NoM [Res.row b 60 [.slice ao l.length cp]] [] w'):=by
 refine zav (args:=[.slice ao l.length cp]) func103 Z Z Z ?_
 have V:=St.init w
 refine SR<|Q<|zbi (v:=.slice _ _ _) V Z Z fun w b1 V=>Q<|zap (v:=_) Z<|NSR<|Q<|zbQ<|Q<|zap (v:=.func _ _ _) Z<|G<|zai func103 Z (TP (v:=.func _ _ _) Z) ?_
 exact ⟨_,Z,V⟩
theorem zpJ (l:List Int) (hw:Wd l) (ao:Option Addr) (cp:Nat) (hcp:l.length ≤ cp) (hl:l.length ≤ 35184372088832) (bc:Nat) (w:World) (hb:(Res.row bc 60 [.slice ao l.length cp]).holds w) (hA:(Res.rs ao l.length 1 (l.flatMap zci)).holds w):zpP prog 155 [.pointer (some ⟨bc,0,none⟩)] (zcf l 5).1.length (zyk 22 (zcf l 5).1) (fun b=>(Res.row bc 60 [.slice ao l.length cp]).foot b ∨ (Res.rs ao l.length 1 (l.flatMap zci)).foot b) w:=by
 intro σ I JJ yv R S s0 hI0 hR hFD hy
 refine zav (args:=[yv,.pointer (some ⟨bc,0,none⟩)]) func155 Z Z Z ?_
 have V:St w (R 0 s0).foot [R 0 s0] [Res.row bc 60 [.slice ao l.length cp],Res.rs ao l.length 1 (l.flatMap zci)] w:=St.enter1 hR (fun d hd=>by cases hd with | head=>exact hb | tail _ hd=>cases hd with | head=>exact hA | tail _ h=>cases h) (fun d hd=>by cases hd with | head=>exact fun b hb hb2=>hFD b hb (.inl hb2) | tail _ hd=>cases hd with | head=>exact fun b hb hb2=>hFD b hb (.inr hb2) | tail _ h=>cases h)
 refine SR<|AI rfl<|G<|zak<|zaY<|zaZ [(0,_),(1,Pp _ _)] E2 (fun (q:Nat × Nat × σ)=>[(3,.int .i64 (q.1:Int))]) (fun (q:Nat × Nat × σ)=>[R q.2.1 q.2.2]) (fun (q:Nat × Nat × σ)=>q.2.1 ≤ (zcf l 5).1.length ∧ (zcf l 5).1.drop q.2.1 = (zcf l q.1).1 ∧ I q.2.1 q.2.2 ∧ q.1 ≤ 35184372088837) (fun (q:Nat × Nat × σ)=>l.length - q.1) ((5,0,s0)) V ⟨Nat.zero_le _,rfl,hI0,by (try dsimp only); omega⟩ ⟨rfl,trivial⟩ ?_
 intro ⟨a,k,s⟩ f w V hJ ih1
 replace V:St _ _ ([R k s] ++ []) _ _:=V
 replace hJ:k ≤ (zcf l 5).1.length ∧ (zcf l 5).1.drop k = (zcf l a).1 ∧ I k s ∧ a ≤ 35184372088837:=hJ
 refine za6 (sl:=[(3,.int .i64 (a:Int))]) ⟨Z,trivial⟩<|SQ<|SR<|MI Z<|Q<|zae (v:=.slice _ _ _) zcn Z Z (V.cellD Q0 Z)<|Q<|zaH (rest:=[]) zcn Z<|Q<|zaN Z Z<|G<|zab Z (fun g2=>?_) (fun g2=>?_)
 ·refine zag <| zak <| SR <| Q <| zae (v := .slice _ _ _) zcn Z Z (V.cellD Q0 Z) <| MI Z <| Q (zaE (v1 := .slice _ _ _) (v2 := .int .i64 _) ent156 Z Z Z ((zuT _ hw _ _ a O hcp _ (V.hD _ Q1) hl).mono fun v w hp => ?_))
  rcases hp with ⟨he,rfl,hp⟩ | ⟨n,ro,rc,hn,h1,h2,rfl,hp⟩
  ·replace V := V.keepc hp
   refine Q<|zad (v:=.tuple #[gHL _ _ _ _,.int .i64 _]) Z<|Q<|Ex (gHL _ _ _ _) Z Z<|Q<|Ex (.int .i64 _) Z Z<|Q<|zar V zcK fun w b4 V=>Q (SO (v:=gHL _ _ _ _) V zcK Z Z .u0 fun w V=>?_)
   refine AI Z<|G<|SQ<|SR<|MI Z<|Q<|zam Z Z<|MB Z<|zau (d:=18) Z (fun g3=>?_) (fun g3=>?_)
   ·refine OM (t := 18) Z (Vb (Dt g3)) Z <| OM (t := 18) Z (Vb (Dt g3)) Z <| OM (t := 18) Z (Vb (Dt g3)) Z <| OM (t := 18) Z (Vb (Dt g3)) Z <| OM (t := 18) Z (Vb (Dt g3)) Z <| Q <| zaB (u := .bool _) (Vb (Dt g3)) Z <| G <| zas (Vb (Z : true = _)) <| zgd func155 Z  ?_
    replace V:=V.pick (.c .u1 (.k1 .nil))
    have hk:=znN (hJ.2.1.trans (congrArg Prod.fst (znr (fun h=>he)))) hJ.1
    subst hk
    exact .inl ⟨s,hJ.2.2.1,V.one⟩
   exfalso
   exact g3 Z
  ·replace V : St _ _ (_ :: _) _ _ := V.call0 hp
   refine Q<|zad (v:=.tuple #[gHL _ _ _ _,.int .i64 _]) Z<|Q<|Ex (gHL _ _ _ _) Z Z<|Q<|Ex (.int .i64 _) Z Z<|Q<|zar V zcK fun w b4 V=>Q (SO (v:=gHL _ _ _ _) V zcK Z Z .u0 fun w V=>?_)
   refine AI Z<|G<|SQ<|SR<|MI Z<|Q<|zam Z Z<|MB Z<|zau (d:=18) Z (fun g4=>?_) (fun g4=>?_)
   ·exfalso
    omega
   refine TK (t:=18) Z (Vb (Df g4))<|zad (v:=_) Z<|TK (t:=18) Z (Vb (Df g4))<|zad (v:=.int .i64 _) Z<|TK (t:=18) Z (Vb (Df g4)) (zay (vs:=lHL _ _ _ _) zcK Z Z Z (zac (n:=2) (V.objL Q0) _ Z) ?_)
   replace V:=V.pick (.c .u1 (.c .u1 (.k1 .nil)))
   have hws:((l.drop (a + 1)).take (n - 1)).length = n - 1:=by rw [List.length_take,List.length_drop]; omega
   have hd:=zug zbx (hJ.2.1.trans (congrArg Prod.fst (ztV hw hn h1 h2)))
   have hit:zyk 22 (zcf l 5).1 k [.int .i64 (a:Int),.agg #[.int .u16 (l.getD a 0 % 65536),.slice ro (n - 1) rc]] (Res.sl ro (n - 1) rc 22 1 (((l.drop (a + 1)).take (n - 1)).flatMap zci)):=by
    refine ⟨ro,rc,?_,?_⟩
    ·rw [hd.2.1]; simp only [rawV,hws]
    ·rw [hd.2.1]; simp only [hws]
   refine TK (t:=18) Z (Vb (Df g4)) (ze6 (v1:=.int .i64 _) (v2:=gHL _ _ _ _) Z Z Z ((hy k s _ _ hd.1 hJ.2.2.1 hit _ (V.pick (.cons .here (.cons .here .nil))).noD).mono fun v w hp=>?_))
   rcases hp with ⟨rfl,s2,hI2,hp⟩ | ⟨rfl,s2,hI2,hp⟩
   ·replace V : St _ _ (_ :: _) _ _ := (V.pack (L1 := [_, _])).call1 hp
    refine TK (t:=18) Z (Vb (Df g4))<|zaU Z<|Q<|zax (u:=.bool _) (Vb (Df g4)) Z<|G<|zaj [(0,_),(1,Pp _ _),(3,.int .i64 _),(5,.int .i64 _),(24,.bool _)] E5 fun f=>zal (Vb (congrArg not (Z:true = _)))<|zag<|RG<|MI Z<|MI Z<|Q<|zaA Z Z Z zbt<|AI Z<|G<|zah<|zaD ?_
    replace V:=V.pick (.k1 .nil)
    exact ih1 ((a + n,k + 1,s2)) _ w Od V (⟨hd.1,hd.2.2,hI2,by (try dsimp only); omega⟩) E2 ⟨(Vi Od),trivial⟩
   ·replace V : St _ _ (_ :: _) _ _ := (V.pack (L1 := [_, _])).call1 hp
    refine TK (t:=18) Z (Vb (Df g4))<|zaU Z<|Q<|zax (u:=.bool _) (Vb (Df g4)) Z<|G<|zaj [(0,_),(1,Pp _ _),(3,.int .i64 _),(5,.int .i64 _),(24,.bool _)] E5 fun f=>zas (Vb (congrArg not (Z:false = _)))<|zgd func155 Z  ?_
    replace V:=V.pick (.k2 .nil)
    exact .inr ⟨k,s2,hd.1,hI2,V.one⟩
 refine zaK (id:=0) Z<|zdA func155 Z  ?_
 replace V:=V.pick (.k1 .nil)
 have hk:=znN (hJ.2.1.trans (congrArg Prod.fst (znr (fun h=>absurd h O)))) hJ.1
 subst hk
 exact .inl ⟨s,hJ.2.2.1,V.one⟩
end Go.SK
namespace Go.SK
open Go Go.Proofs Go.Proofs.Tryz
theorem zxJ:zaG prog 102:=⟨f102,_,func102,Kr,rfl⟩
theorem ent101:zaG prog 101:=⟨f101,_,func101,Kr,rfl⟩
theorem ent103:zaG prog 103:=⟨f103,_,func103,Kr,rfl⟩
theorem ent155:zaG prog 155:=⟨f155,_,func155,Kr,rfl⟩
open Go.RowKit
theorem zso (l m:List Int) (hm:m = l.take 5) (b:Nat) (ao:Option Addr) (cp:Nat) (w:World) (hR:(RdR 228 22 b ao cp m 0).holds w):Ret prog 101 #[.pointer (some ⟨b,0,none⟩)] w (fun v w'=>((zcN l).1 = 0 ∧ v = .tuple #[.agg #[.int .u32 (l.getD 2 0),.int .u32 (l.getD 3 0)],.agg #[.int .i64 0,.int .i64 0]] ∧ St w (RdR 228 22 b ao cp m 0).foot [] [] w') ∨ (∃ e k:Int,zcN l = (e,k) ∧ e ≠ 0 ∧ v = .tuple #[.agg #[.int .u32 0,.int .u32 0],.agg #[.int .i64 e,.int .i64 k]] ∧ St w (RdR 228 22 b ao cp m 0).foot [] [] w')):=by
 subst hm
 have hlen:(l.take 5).length ≤ 5:=by rw [List.length_take]; omega
 have hg2:(l.take 5).getD 2 0 = l.getD 2 0:=by simp [List.getD,List.getElem?_take]
 have hg3:(l.take 5).getD 3 0 = l.getD 3 0:=by simp [List.getD,List.getElem?_take]
 refine (zuU b ao cp _ w hR O).mono fun v w' hp=>?_
 obtain ⟨hv,V⟩:=hp
 by_cases h:(zcN l).1 = 0
 ·left
  refine ⟨h,?_,V⟩
  have h2:=zfS h
  rw [hv,zqt ((zk6 l).trans (ziW h2.2)),hg2,hg3]
 ·right
  refine ⟨(zcN l).1,(zcN l).2,Z,h,?_,V⟩
  have he:zcN l = ((zcN l).1,(zcN l).2):=rfl
  rw [hv,zcp ((zk6 l).trans he) h]
theorem zuG {l:List Int} {ao:Option Addr} {xs:List Value} {m:Nat} (cp:Nat) (w:World) (hm:m = l.length) (hx:xs = l.flatMap zci) (hA:(Res.rs ao m 1 xs).holds w) (hl:m ≤ 35184372088832):Ret prog 102 #[.slice ao m cp] w (fun v w'=>∃ b ro rc,v = .pointer (some ⟨b,0,none⟩) ∧ St w NoM [RdR 228 22 b ro rc l 0] [] w'):=by
 subst hm; subst hx; exact zqU l ao cp w hA hl
theorem zuW (l:List Int) (hw:Wd l) (ao:Option Addr) (cp:Nat) (hcp:l.length ≤ cp) (w:World) (hA:(Res.rs ao l.length 1 (l.flatMap zci)).holds w) (hl:l.length ≤ 35184372088832):Ret prog 53 #[.slice ao l.length cp] w (fun v w'=>∃ ro rc done,v = .tuple #[.agg #[.int .u32 (zcL l).1.1,.int .u32 (zcL l).1.2],.slice ro done.length rc,.agg #[.int .i64 (zcL l).2.2.1,.int .i64 (zcL l).2.2.2]] ∧ done.map RawP.L = (zcL l).2.1.map (·.2) ∧ St w NoM [Res.oraws 62 22 ro rc done] [] w'):=by
 refine zav (args:=[.slice ao l.length cp]) func53 Z Z Z ?_
 have V:St w NoM [] [Res.rs ao l.length 1 (l.flatMap zci)] w:=St.init_D hA
 clear hA
 refine SR<|Q<|zar V zbF fun w b2 V=>AL Z<|Q<|zar V zaV fun w b4 V=>G<|SQ<|SR<|ML Z<|Q<|zaH (rest:=[]) zcn Z<|Q<|zbI Z Z<|G<|zab Z (fun g1=>?_) (fun g1=>?_)
 ·refine SR <| Q (zaf zbF zc5 .nil ?_)
  refine Q (zaf zaV zbW (.c (v:=.int .i64 _) Z (h:=(.c (v:=.int .i64 _) Z (h:=.nil)))) ?_)
  refine Q (SO (v:=gUU _ _) V zbF Z Z .u1 fun w V=>?_)
  refine AL Z<|Q (SO (v:=gII _ _) V zaV Z Z .u0 fun w V=>?_)
  refine G<|zbe func53 Z (zat (vs:=lUU _ _) Z zbF Z Z (zac (n:=2) (V.objL Q1) _ Z)) (TP (v:=.slice _ _ _) Z) (zat (vs:=lII _ _) Z zaV Z Z (zac (n:=2) (V.objL Q0) _ Z)) ?_
  replace V:=V.pick .nil
  replace V:=St.starCons ((V.starNil).pushNil 62 2)
  refine ⟨none,0,[],?_,?_,V.noD⟩
  ·rw [zgR (by omega)] <;> rfl
  ·rw [zgR (by omega)] <;> rfl
 refine zag<|SR<|ML rfl<|ML rfl<|Q<|zaH (rest:=[]) zcn rfl<|Q<|zw7 rfl rfl<|Q<|zol (hi:=min 5 l.length) zcn za9 rfl rfl (by omega) (by omega)<|Q (zao (v1:=.slice _ _ _) zxJ rfl rfl ((zuG (l:=l.take 5) _ _ (by rw [List.length_take,Nat.sub_zero]) rfl (by have hp:=ztg (a:=0) (n:=min 5 l.length) (cap:=cp) (V.hD _ Q0) (by omega) hcp; rw [Nat.zero_add] at hp; rw [List.drop_zero,List.take_eq_take_min (l:=l) (i:=5)] at *; exact hp) (by omega)).mono fun v w hp=>?_))
 obtain ⟨bR,aR,cR,rfl,hp⟩:=hp
 replace V:St _ _ (_ :: _) _ _:=V.call0 hp
 replace V:=V.pick (.k3 .nil)
 refine Q (zao (v1:=Pp _ _) ent101 Z Z ((zso l _ Z bR aR cR _ (V.hL _ Q0)).mono fun v w hp=>?_))
 rcases hp with ⟨hh,rfl,hp⟩ | ⟨e,k,hh,he0,rfl,hp⟩
 ·replace V : St _ _ ([] ++ _) _ _ := V.call1 hp
  rw [List.nil_append] at V
  refine Q<|zad (v:=.tuple #[gUU _ _,gII _ _]) Z<|Q<|Ex (gUU _ _) Z Z<|Q<|Ex (gII _ _) Z Z<|Q<|zar V zbF fun w b5 V=>Q<|zar V zaV fun w b6 V=>Q (SO (v:=gUU _ _) V zbF Z Z .u1 fun w V=>?_)
  refine Q (SO (v:=gII _ _) V zaV Z Z .u0 fun w V=>?_)
  refine G<|SQ<|SR<|Q<|zaa zbB Z<|Q<|zae (v:=.int .i64 _) zdQ Z Z (V.cellL Q0 Z)<|Q<|zaF Z Z<|G<|zaj [(0,.slice _ _ _),(2,Pp _ _),(3,.slice _ _ _),(4,Pp _ _),(5,Pp _ _),(6,Pp _ _),(28,.bool _)] E7 fun f=>zab Z (fun g2=>?_) (fun g2=>?_)
  ·exfalso
   exact g2 Z
  refine zag<|SR<|Q<|zar V zov fun w b7 V=>NSR<|Q<|zar V ty3 fun w b8 V=>Q (SO (v:=.int .i64 _) V ty3 Z Z .u0 fun w V=>?_)
  refine G<|SQ<|SR<|ML Z<|Q (zao (v1:=.slice _ _ _) ent103 Z Z ((zuX l _ _ _).mono fun v w hp=>?_))
  obtain ⟨bc,rfl,hp⟩:=hp
  replace V:St _ _ (_ :: _) _ _:=V.call0 hp
  refine G<|zak ?_
  replace V:=V.pushNil 62 2
  replace V:=V.starNil
  have hat0:atI (zcf l 5) 0 = 5:=zi1 _ _
  have hlen5:=(zfS hh).1
  replace V:=V.pick (.c .u4 (.c .u3 (.c .u1 (.k6 .nil))))
  refine zgE (L1:=[_,_,_,_]) (L2:=[_,_,_,_,_]) (item:=(zyk 22 (zcf l 5).1)) (FD:=(fun b=>(Res.row bc 60 [.slice ao l.length cp]).foot b ∨ (Res.rs ao l.length 1 (l.flatMap zci)).foot b)) (fun i (s:Option Addr × Nat × List RawP)=>s.2.2.map RawP.L = ((zcf l 5).1.take i).map (·.2)) (fun _ _=>False) (fun i (s:Option Addr × Nat × List RawP)=>[Res.row b7 85 [.slice s.1 s.2.2.length s.2.1],Res.row b8 3 [.int .i64 (atI (zcf l 5) i:Int)],Res.sl s.1 s.2.2.length s.2.1 62 2 (s.2.2.flatMap zkW),Res.star (s.2.2.map (Res.oword 22))]) (fun i (s:Option Addr × Nat × List RawP)=>[]) (fun _=>.ret) ((none,0,[])) (rfl) V (by (try dsimp only); rw [hat0]; rfl) rfl ent155 (fun b hb=>hb.elim (fun h=>.inl ⟨_,Q0,h⟩) (fun h=>.inr ⟨_,Q0,h⟩)) (fun w1 hw1=>zpJ l hw ao cp hcp hl bc w1 (hw1.hL _ Q4) (hw1.hD _ Q0)) (fun _ _ _ h=>by obtain ⟨_,_,rfl,_⟩:=h; rfl) ?_ ?_ ?_
  ·intro i ⟨aq, cq, done⟩ vs x hi hI hitem w bl br lp hlp V hk
   obtain ⟨ro,rc,rfl,rfl⟩:=hitem
   have hch:atI (zcf l 5) i + 1 + ((zcf l 5).1.getD i zbx).2.2.length = atI (zcf l 5) (i + 1) ∧ ((zcf l 5).1.getD i zbx).1 = atI (zcf l 5) i:=zhv hw _ 5 i hi
   have hie:atI (zcf l 5) (i + 1) ≤ l.length:=zqO hw _ 5 _ hlen5
   dsimp only at V hI
   have hdl:done.length ≤ i:=by have:=congrArg List.length hI; simp only [List.length_map,List.length_take] at this; omega
   have hil:(zcf l 5).1.length + 5 ≤ (zcf l 5).2 ∧ (zcf l 5).2 ≤ l.length:=(zic hw l.length 5 hlen5).symm
   refine SR<|AI Z<|NR<|Q<|zar V zcK fun w b10 V=>Q (SO (v:=gHL _ _ _ _) V zcK Z Z .u0 fun w V=>?_)
   refine G<|zdZ hlp V .u1 fun w V=>zak<|SR<|Q<|zae (v:=.slice _ _ _) zov Z Z (V.cellL Q4 Z)<|Q<|zay (vs:=lHL _ _ _ _) zcK Z Z Z (zac (n:=2) (V.objL Q0) _ Z)<|Q (zaI (z0:=[.int .u16 0,.slice none 0 0]) V zov zcK Z Z Kr (.c (v:=gHL _ _ _ _) Z (h:=.nil)) fun w b37 V=>?_)
   refine Q (zaP (news:=(lHL _ _ _ _)) V zov zcK Z Z .u7 Z Z Z (zac (n:=2) (V.objL Q0) _ Z) Z Z O fun w ao3 cp4 V=>?_)
   replace V:=V.drop .u1
   refine Q (SO (v:=.slice _ _ _) V zov Z Z .u5 fun w V=>?_)
   refine NR<|MI Z<|Q<|zaA Z Z Z zbt<|Q<|zaa zeb Z<|Q<|zae (v:=.slice _ _ _) zcn Z Z (V.cellL Q1 Z)<|Q<|zaH (rest:=[]) zcn Z<|Q<|zaA Z Z Z zbt<|Q (SO (v:=.int .i64 _) V ty3 Z Z .u6 fun w V=>?_)
   refine G<|zah<|zdc hlp V .u2 fun w V=>?_
   replace V:=V.pick (.c .u4 (.c .u6 (.c .u2 (.c .u2 (.c .u2 (.c .u2 (.k1 .nil)))))))
   replace V:=V.starSnoc
   replace V:=V.pick (.c .u1 (.c .u1 (.c .u1 (.c .u1 (.c .u1 (.k1 .nil))))))
   have e1:done.length + 1 = (done ++ [(⟨((zcf l 5).1.getD i zbx).2.1,ro,rc,((zcf l 5).1.getD i zbx).2.2⟩:RawP)]).length:=by simp
   have e2:done.flatMap zkW ++ [.int .u16 ((zcf l 5).1.getD i zbx).2.1,.slice ro ((zcf l 5).1.getD i zbx).2.2.length rc] = (done ++ [(⟨((zcf l 5).1.getD i zbx).2.1,ro,rc,((zcf l 5).1.getD i zbx).2.2⟩:RawP)]).flatMap zkW:=by simp
   have e3:done.map (Res.oword 22) ++ [Res.sl ro ((zcf l 5).1.getD i zbx).2.2.length rc 22 1 (((zcf l 5).1.getD i zbx).2.2.flatMap zci)] = (done ++ [(⟨((zcf l 5).1.getD i zbx).2.1,ro,rc,((zcf l 5).1.getD i zbx).2.2⟩:RawP)]).map (Res.oword 22):=by simp
   have e4:(((zcf l 5).1.getD i zbx).1:Int) + 1 + (((zcf l 5).1.getD i zbx).2.2.length:Int) = (atI (zcf l 5) (i + 1):Int):=by omega
   have hI2:(done ++ [(⟨((zcf l 5).1.getD i zbx).2.1,ro,rc,((zcf l 5).1.getD i zbx).2.2⟩:RawP)]).map RawP.L = ((zcf l 5).1.take (i + 1)).map (·.2):=by rw [List.map_append,hI,zce (d:=zbx) hi,List.map_append]; rfl
   rw [e1,e2,e3,e4] at V
   exact .inl ⟨Z,(ao3,cp4,done ++ [(⟨((zcf l 5).1.getD i zbx).2.1,ro,rc,((zcf l 5).1.getD i zbx).2.2⟩:RawP)]),_,hI2,V⟩
  ·intro ⟨aq, cq, done⟩ w bl br lp hI V
   dsimp only at V hI
   rw [List.take_length] at hI
   have hat:atI (zcf l 5) (zcf l 5).1.length = (zcf l 5).2:=by unfold atI; rw [if_neg (by omega)]
   rw [hat] at V
   have hie:(zcf l 5).2 ≤ l.length ∧ _:=zic hw l.length 5 hlen5
   refine zah<|SQ<|SR<|Q<|zae (v:=.int .i64 _) ty3 Z Z (V.cellL Q3 Z)<|ML Z<|Q<|zaH (rest:=[]) zcn Z<|Q<|zaN Z Z<|G<|zab Z (fun g5=>?_) (fun g5=>?_)
   ·refine SQ ?_
    replace V:=V.pick (.c .u10 (.k10 .nil))
    apply zaC [(3,Res.row b2 81 _,Res.row b2 81 _)] V (bs:=[0,0,2,1,9,31]) (ds:=[some 49,some 50,some 51,none,some 3,none]) (htab:=⟨Kr,Kr,Kr⟩)
    intro tab6
    refine DO tab6 1 (fun _ _ _ hc=>zaf zbF zc5 .nil hc.z) ?_
    refine DO tab6 2 (fun _ _ _ hc=>zae (v:=.int .i64 _) ty3 Z (hc.old (v:=Pp _ _) Z Z Z) (hc.st.cellL (Ar Q3) Z) hc.z)<|DO tab6 3 (fun _ _ _ hc=>zaf zaV zbW (.c (v:=.int .i64 _) Z (h:=(.c (v:=.int .i64 _) (hc.d 1 Z Z Z Z) (h:=.nil)))) hc.z) ?_
    refine zcb tab6 4 Q0 (fun f' L' L2 w' hc hsel=>zbC (v:=gUU _ _) hc.st zbF (hc.old (v:=Pp _ _) Z Z Z) (hc.d 0 Z Z Z Z) Z Z Z hsel (by repeat (first | exact Put.nil | apply Put.put | apply Put.skip)) fun w V=>⟨Z,V⟩) ?_
    refine DO tab6 5 (fun _ _ _ hc=>zap (v:=.slice _ _ _) Z hc.z)<|RunD.fin zaw tab6 V Z (fun f7 w R10 hs8 hd9 hr11 V=>?_)
    obtain ⟨h49_,r0⟩:=hd9 0 49 rfl rfl
    obtain ⟨h50_,r1⟩:=hd9 1 50 rfl rfl
    obtain ⟨h51_,r2⟩:=hd9 2 51 rfl rfl
    obtain ⟨_,_,r3⟩:=hr11 3 rfl
    obtain ⟨h3_,r4⟩:=hd9 4 3 rfl rfl
    simp only [rg5,Fc,Fn,Mc,Mn,r0,r1,r2,r3,r4,Na,An,Ca] at V
    refine zaz (sl:=[(2,Pp _ _),(3,.slice _ _ _),(4,Pp _ _),(51,gII _ _)]) ⟨(hs8 2 Z).trans Z,h3_,(hs8 4 Z).trans Z,h51_,trivial⟩ ?_
    clear hs8 hd9 hr11 tab6
    refine Q (SO (v:=gII _ _) V zaV Z Z .u10 fun w V=>?_)
    refine G ?_
    replace V:=V.pick (.c .u2 (.k10 .nil))
    refine zbs [br] func53 V fun w V=>⟨_,res3 Z (zat (vs:=lUU _ _) Z zbF Z Z (zac (n:=2) (V.objL Q0) _ Z)) (TP (v:=.slice _ _ _) Z) (zat (vs:=lII _ _) Z zaV Z Z (zac (n:=2) (V.objL Q9) _ Z)),?_⟩
    replace V:=V.pick .nil
    replace V:=St.starCons ((V.starNil).pushNil 62 2)
    refine ⟨none,0,[],?_,?_,V.noD⟩
    ·rw [zgS (by omega) hh (by omega)] <;> rfl
    ·rw [zgS (by omega) hh (by omega)] <;> rfl
   refine zag<|SQ ?_
   replace V:=V.pick (.c .u10 (.k10 .nil))
   apply zaC [(3,Res.row b2 81 _,Res.row b2 81 _)] V (bs:=[0,0,0,1,11,31]) (ds:=[some 52,some 53,some 54,none,some 3,none]) (htab:=⟨Kr,Kr,Kr⟩)
   intro tab12
   refine DO tab12 1 (fun _ _ _ hc=>zay (vs:=lUU _ _) zbF Z (hc.old (v:=Pp _ _) Z Z Z) Z (zac (n:=2) (hc.st.objL (Ar Q8)) _ Z) hc.z)<|DO tab12 2 (fun _ _ _ hc=>zae (v:=.slice _ _ _) zov Z (hc.old (v:=Pp _ _) Z Z Z) (hc.st.cellL (Ar Q2) Z) hc.z)<|DO tab12 3 (fun _ _ _ hc=>zaf zaV zbW .nil hc.z) ?_
   refine zcb tab12 4 Q0 (fun f' L' L2 w' hc hsel=>zbC (v:=gUU _ _) hc.st zbF (hc.old (v:=Pp _ _) Z Z Z) (hc.d 0 Z Z Z Z) Z Z Z hsel (by repeat (first | exact Put.nil | apply Put.put | apply Put.skip)) fun w V=>⟨Z,V⟩) ?_
   refine DO tab12 5 (fun _ _ _ hc=>zap (v:=.slice _ _ _) (hc.d 1 Z Z Z Z) hc.z)<|RunD.fin zaw tab12 V Z (fun f13 w R16 hs14 hd15 hr17 V=>?_)
   obtain ⟨h52_,r0⟩:=hd15 0 52 rfl rfl
   obtain ⟨h53_,r1⟩:=hd15 1 53 rfl rfl
   obtain ⟨h54_,r2⟩:=hd15 2 54 rfl rfl
   obtain ⟨_,_,r3⟩:=hr17 3 rfl
   obtain ⟨h3_,r4⟩:=hd15 4 3 rfl rfl
   simp only [rg5,Fc,Fn,Mc,Mn,r0,r1,r2,r3,r4,Na,An,Ca] at V
   refine zaz (sl:=[(2,Pp _ _),(3,.slice _ _ _),(4,Pp _ _),(54,gII _ _)]) ⟨(hs14 2 Z).trans Z,h3_,(hs14 4 Z).trans Z,h54_,trivial⟩ ?_
   clear hs14 hd15 hr17 tab12
   refine Q (SO (v:=gII _ _) V zaV Z Z .u10 fun w V=>?_)
   refine G ?_
   replace V:=V.pick (.c .u2 (.k10 .nil))
   refine zbs [br] func53 V fun w V=>⟨_,res3 Z (zat (vs:=lUU _ _) Z zbF Z Z (zac (n:=2) (V.objL Q0) _ Z)) (TP (v:=.slice _ _ _) Z) (zat (vs:=lII _ _) Z zaV Z Z (zac (n:=2) (V.objL Q9) _ Z)),?_⟩
   replace V:=V.pick (.c .u4 (.c .u4 .nil))
   refine ⟨aq,cq,done,?_,?_,(St.starCons V).noD⟩
   ·rw [zlP (by omega) hh (by omega)] <;> rfl
   ·rw [zlP (by omega) hh (by omega)]; exact hI
  ·intro i ⟨aq, cq, done⟩ hi hJ w bl br lp V
   exact hJ.elim
 ·replace V : St _ _ ([] ++ _) _ _ := V.call1 hp
  rw [List.nil_append] at V
  refine Q<|zad (v:=.tuple #[gUU _ _,gII _ _]) Z<|Q<|Ex (gUU _ _) Z Z<|Q<|Ex (gII _ _) Z Z<|Q<|zar V zbF fun w b5 V=>Q<|zar V zaV fun w b6 V=>Q (SO (v:=gUU _ _) V zbF Z Z .u1 fun w V=>?_)
  refine Q (SO (v:=gII _ _) V zaV Z Z .u0 fun w V=>?_)
  refine G<|SQ<|SR<|Q<|zaa zbB Z<|Q<|zae (v:=.int .i64 _) zdQ Z Z (V.cellL Q0 Z)<|Q<|zaF Z Z<|G<|zaj [(0,.slice _ _ _),(2,Pp _ _),(3,.slice _ _ _),(4,Pp _ _),(5,Pp _ _),(6,Pp _ _),(28,.bool _)] E7 fun f=>zab Z (fun g18=>?_) (fun g18=>?_)
  ·refine SQ ?_
   replace V:=V.pick (.c .u3 (.k3 .nil))
   apply zaC [(2,Res.row b2 81 _,Res.row b2 81 _)] V (bs:=[0,0,1,5,15]) (ds:=[some 29,some 30,none,some 3,none]) (htab:=⟨Kr,Kr,Kr⟩)
   intro tab19
   refine DO tab19 1 (fun _ _ _ hc=>zaf zbF zc5 .nil hc.z) ?_
   refine DO tab19 2 (fun _ _ _ hc=>zay (vs:=lII _ _) zaV Z (hc.old (v:=Pp _ _) Z Z Z) Z (zac (n:=2) (hc.st.objL (Ar Q0)) _ Z) hc.z)<|zcb tab19 3 Q0 (fun f' L' L2 w' hc hsel=>zbC (v:=gUU _ _) hc.st zbF (hc.old (v:=Pp _ _) Z Z Z) (hc.d 0 Z Z Z Z) Z Z Z hsel (by repeat (first | exact Put.nil | apply Put.put | apply Put.skip)) fun w V=>⟨Z,V⟩) ?_
   refine DO tab19 4 (fun _ _ _ hc=>zap (v:=.slice _ _ _) Z hc.z)<|RunD.fin zaw tab19 V Z (fun f20 w R23 hs21 hd22 hr24 V=>?_)
   obtain ⟨h29_,r0⟩:=hd22 0 29 rfl rfl
   obtain ⟨h30_,r1⟩:=hd22 1 30 rfl rfl
   obtain ⟨_,_,r2⟩:=hr24 2 rfl
   obtain ⟨h3_,r3⟩:=hd22 3 3 rfl rfl
   simp only [rg4,Fc,Fn,Mc,Mn,r0,r1,r2,r3,Na,An,Ca] at V
   refine zaz (sl:=[(2,Pp _ _),(3,.slice _ _ _),(4,Pp _ _),(30,gII _ _)]) ⟨(hs21 2 Z).trans Z,h3_,(hs21 4 Z).trans Z,h30_,trivial⟩ ?_
   clear hs21 hd22 hr24 tab19
   refine Q (SO (v:=gII _ _) V zaV Z Z .u3 fun w V=>?_)
   refine G<|zbe func53 Z (zat (vs:=lUU _ _) Z zbF Z Z (zac (n:=2) (V.objL Q0) _ Z)) (TP (v:=.slice _ _ _) Z) (zat (vs:=lII _ _) Z zaV Z Z (zac (n:=2) (V.objL Q3) _ Z)) ?_
   replace V:=V.pick .nil
   replace V:=St.starCons ((V.starNil).pushNil 62 2)
   have hr:=zkT (w:=l) (by omega) (by rw [hh]; exact he0)
   rw [hh] at hr
   refine ⟨none,0,[],?_,?_,V.noD⟩
   ·rw [hr] <;> rfl
   ·rw [hr] <;> rfl
  exfalso
  exact g18 he0
end Go.SK
namespace Go.SK
open Go Go.Proofs Go.Proofs.Tryz
theorem zpd:FldF prog 62 0 0:=FldF.of (n:=0) Kr
open Go.RowKit
theorem zmq (l:List RawP) (ao:Option Addr) (cp:Nat) (w:World) {nn ce ca:Int} (h1:(zgB 5 0 (l.map ziy)).1 = nn) (h2:(zgB 5 0 (l.map ziy)).2.1 = ce) (h3:(zgB 5 0 (l.map ziy)).2.2 = ca) (hA:(Res.rs ao l.length 2 (l.flatMap zkW)).holds w) (hl:l.length ≤ 35184372088832) (hla:∀ r ∈ l,r.ws.length ≤ 35184372088832):Ret prog 107 #[.slice ao l.length cp] w (fun v w'=>v = .tuple #[.int .i64 nn,.agg #[.int .i64 ce,.int .i64 ca]] ∧ St w NoM [] [] w'):=by
 subst h1; subst h2; subst h3; exact zis l ao cp w hA hl hla
theorem zsp (gn bd:Int) (l:List RawP) (ao:Option Addr) (cp:Nat) (w:World) (hA:(Res.rraws ao l).holds w) (hl:l.length ≤ 35184372088832) (hla:∀ r ∈ l,r.ws.length ≤ 35184372088832) (hop:∀ r ∈ l,0 ≤ r.op ∧ r.op < 65536):Ret prog 55 #[.agg #[.int .u32 gn,.int .u32 bd],.slice ao l.length cp] w (fun v w'=>∃ ro rc,v = .tuple #[.slice ro (zfx gn bd (l.map RawP.L)).1.length rc,.agg #[.int .i64 (zfx gn bd (l.map RawP.L)).2.1,.int .i64 (zfx gn bd (l.map RawP.L)).2.2]] ∧ St w NoM [Res.sl ro (zfx gn bd (l.map RawP.L)).1.length rc 22 1 ((zfx gn bd (l.map RawP.L)).1.flatMap zci)] [] w'):=by
 refine zav (args:=[.agg #[.int .u32 gn,.int .u32 bd],.slice ao l.length cp]) func55 Z Z Z ?_
 have V:St w NoM [] [Res.rraws ao l] w:=St.init_D hA
 clear hA
 obtain ⟨nn,hnn⟩:∃ nn,(zgB 5 0 (l.map ziy)).1 = nn:=⟨_,rfl⟩
 obtain ⟨ce,hce⟩:∃ ce,(zgB 5 0 (l.map ziy)).2.1 = ce:=⟨_,rfl⟩
 obtain ⟨ca,hca⟩:∃ ca,(zgB 5 0 (l.map ziy)).2.2 = ca:=⟨_,rfl⟩
 refine SR<|Q<|zbi (v:=gUU _ _) V Z Z fun w b2 V=>AL Z<|Q<|zar V zaV fun w b5 V=>G<|SQ<|SR<|Q<|zaa zfU Z<|Q<|zae (v:=.int .u32 _) za9 Z Z (V.cellL Q1 Z)<|Q<|zam Z Z<|MB Z<|zau (d:=14) Z (fun g1=>?_) (fun g1=>?_)
 ·refine OM (t := 14) Z (Vb (Dt g1)) Z <| OM (t := 14) Z (Vb (Dt g1)) Z <| OM (t := 14) Z (Vb (Dt g1)) Z <| Q <| zaB (u := .bool _) (Vb (Dt g1)) Z <| G <| zas (Vb (Z : true = _)) <| SR <| Q (zaf zaV zbW (.c (v := .int .i64 _) Z (h := .nil)) ?_)
  refine AL Z<|Q (SO (v:=gII _ _) V zaV Z Z .u0 fun w V=>?_)
  refine G<|zaq func55 Z (TP (v:=.slice _ _ _) Z) (zat (vs:=lII _ _) Z zaV Z Z (zac (n:=2) (V.objL Q0) _ Z)) ?_
  replace V:=V.pick .nil
  have hr:=zij (gn:=gn) (l:=l.map RawP.L) (bd:=bd) O
  refine ⟨none,0,?_,?_⟩
  ·rw [hr] <;> rfl
  ·rw [hr]; exact (V.pushNil 22 1).noD
 refine TK (t:=14) Z (Vb (Df g1))<|zaa zfU Z<|TK (t:=14) Z (Vb (Df g1))<|zae (v:=.int .u32 _) za9 Z Z (V.cellL Q1 Z)<|TK (t:=14) Z (Vb (Df g1))<|zbI Z Z<|Q<|zax (u:=.bool _) (Vb (Df g1)) Z<|G<|zab Z (fun g2=>?_) (fun g2=>?_)
 ·refine SR <| Q (zaf zaV zbW (.c (v := .int .i64 _) Z (h := .nil)) ?_)
  refine AL Z<|Q (SO (v:=gII _ _) V zaV Z Z .u0 fun w V=>?_)
  refine G<|zaq func55 Z (TP (v:=.slice _ _ _) Z) (zat (vs:=lII _ _) Z zaV Z Z (zac (n:=2) (V.objL Q0) _ Z)) ?_
  replace V:=V.pick .nil
  have hr:=zij (gn:=gn) (l:=l.map RawP.L) (bd:=bd) O
  refine ⟨none,0,?_,?_⟩
  ·rw [hr] <;> rfl
  ·rw [hr]; exact (V.pushNil 22 1).noD
 refine zag<|SR<|ML Z<|Q<|zao (v1:=.slice _ _ _) zxG Z Z<|Ret.det (zmq l ao cp _ hnn hce hca (Res.rraws_raws (V.hD _ Q0)) hl hla) V fun w V=>Q<|zad (v:=.tuple #[.int .i64 _,gII _ _]) Z<|Q<|Ex (.int .i64 _) Z Z<|Q<|Ex (gII _ _) Z Z<|Q<|zar V zaV fun w b7 V=>AI Z<|Q (SO (v:=gII _ _) V zaV Z Z .u0 fun w V=>?_)
 refine G<|SQ<|SR<|Q<|zaa zbB Z<|Q<|zae (v:=.int .i64 _) zdQ Z Z (V.cellL Q0 Z)<|Q<|zaF Z Z<|G<|zaj [(1,.slice _ _ _),(2,Pp _ _),(5,Pp _ _),(6,.int .i64 _),(7,Pp _ _),(27,.bool _)] E6 fun f=>zab Z (fun g3=>?_) (fun g3=>?_)
 ·refine SQ <| zaC [] V (bs := [0, 0, 3]) (ds := [some 28, some 4, none]) ⟨Kr, Kr, Kr⟩ (fun tab4 => ?_)
  refine DO tab4 1 (fun _ _ _ hc=>zay (vs:=lII _ _) zaV Z (hc.old (v:=Pp _ _) Z Z Z) Z (zac (n:=2) (hc.st.objL (Ar Q0)) _ Z) hc.z)<|DO tab4 2 (fun _ _ _ hc=>zap (v:=.slice _ _ _) Z hc.z)<|RunD.fin zaw tab4 V Z (fun f5 w R8 hs6 hd7 hr9 V=>?_)
  obtain ⟨h28_,r0⟩:=hd7 0 28 rfl rfl
  obtain ⟨h4_,r1⟩:=hd7 1 4 rfl rfl
  simp only [rg2,Fc,Fn,Mc,Mn,r0,r1,Na,An,Ca] at V
  refine zaz (sl:=[(4,.slice _ _ _),(5,Pp _ _),(28,gII _ _)]) ⟨h4_,(hs6 5 Z).trans Z,h28_,trivial⟩ ?_
  clear hs6 hd7 hr9 tab4
  refine Q (SO (v:=gII _ _) V zaV Z Z .u1 fun w V=>?_)
  refine G<|zaq func55 Z (TP (v:=.slice _ _ _) Z) (zat (vs:=lII _ _) Z zaV Z Z (zac (n:=2) (V.objL Q1) _ Z)) ?_
  replace V:=V.pick .nil
  have hr:=zq5 (gn:=gn) (l:=l.map RawP.L) (bd:=bd) (by omega) (by omega) (by rw [← zlY,hce]; exact g3)
  rw [← zlY,show (zgB 5 0 (l.map ziy)).2 = (ce,ca) by rw [← hce,← hca]] at hr
  refine ⟨none,0,?_,?_⟩
  ·rw [hr] <;> rfl
  ·rw [hr]; exact (V.pushNil 22 1).noD
 have hce2:ce = 0:=by omega
 have hgd:=zmm (ks:=l.map ziy) (n:=5) (i:=0) De (hce.trans hce2)
 have hnn2:=hnn
 rw [hgd.1] at hnn2
 dsimp only at hnn2
 have htot:=hgd.2.2
 have hWl:(zcd gn bd (l.map RawP.L)).length ≤ 1048576:=by rw [zf9,← zlY]; exact htot
 refine zag<|SR<|MI Z<|Q<|zg5 (k:=5 + ((l.map ziy).map (· + 1)).sum) V zcn za9 Z Z O Z De O O fun w bC V=>AL Z<|NSR<|ML Z<|Q<|zaa zjI Z<|Q<|zae (v:=.int .u32 _) za9 Z Z (V.cellL Q3 Z)<|Q<|zaa zfU Z<|Q<|zae (v:=.int .u32 _) za9 Z Z (V.cellL Q3 Z)<|Q (zaI (z0:=[.int .u32 0,.int .u32 0,.int .u32 0,.int .u32 0,.int .u32 0]) V zcn za9 Z Z Kr (.c (v:=.int .u32 _) Z (h:=(.c (v:=.int .u32 _) Z (h:=(.c (v:=.int .u32 _) Z (h:=(.c (v:=.int .u32 _) Z (h:=(.c (v:=.int .u32 _) Z (h:=.nil)))))))))) fun w b36 V=>?_)
 refine Q (zaP (news:=[.int .u32 _,.int .u32 _,.int .u32 _,.int .u32 _,.int .u32 _]) V zcn za9 Z Z .u1 Z Z Z (zac (n:=5) (V.objL Q0) _ Z) Z Z O fun w ao10 cp11 V=>?_)
 replace V:=V.drop .u1
 refine AL Z<|G<|SQ<|SR<|ML Z<|Q<|zaH (rest:=[]) zov Z<|MI Z<|G<|zak<|zaY<|zaZ [(5,Pp _ _),(38,.slice _ _ _),(39,.int .i64 _)] E3 (fun (q:Nat × Option Addr × Nat)=>[(8,.slice q.2.1 (zcd gn bd ((l.take q.1).map RawP.L)).length q.2.2),(40,.int .i64 (q.1:Int))]) (fun (q:Nat × Option Addr × Nat)=>[Res.sl q.2.1 (zcd gn bd ((l.take q.1).map RawP.L)).length q.2.2 22 1 ((zcd gn bd ((l.take q.1).map RawP.L)).flatMap zci)]) (fun (q:Nat × Option Addr × Nat)=>q.1 ≤ l.length) (fun (q:Nat × Option Addr × Nat)=>l.length - q.1) ((0,_,_)) V (Nat.zero_le _) E2 ?_
 intro ⟨i,aq,cq⟩ f w V hJ ih12
 replace V:St _ _ ([Res.sl aq (zcd gn bd ((l.take i).map RawP.L)).length cq 22 1 ((zcd gn bd ((l.take i).map RawP.L)).flatMap zci)] ++ [_,_,_]) _ _:=V
 replace hJ:i ≤ l.length:=hJ
 refine za6 (sl:=[(8,.slice aq (zcd gn bd ((l.take i).map RawP.L)).length cq),(40,.int .i64 (i:Int))]) E2<|SR<|Q<|zaN Z Z<|G<|SQ<|zab Z (fun g13=>?_) (fun g13=>?_)
 ·have hWi := zsL gn bd l i
  have hmem:(l.getD i zbG) ∈ l:=zbJ O
  have hk:(l.getD i zbG).ws.length < 65535:=hgd.2.1 _ (List.mem_map_of_mem hmem)
  have ho:=hop _ hmem
  have hidx:l.getD ((i:Int)).toNat zbG = (l.getD i zbG):=rfl
  have hidx2:(l.getD ((i:Int)).toNat zbG).ws.length = (l.getD i zbG).ws.length:=rfl
  have hidx3:(l.getD ((i:Int)).toNat zbG).op = (l.getD i zbG).op:=rfl
  refine zag<|SQ<|zak<|SR<|Q<|zaR zov zcK (Res.rraws_raws (V.hD _ Q0)) Z Z O O<|Q<|zay (vs:=lHL _ _ _ _) zcK Z Z Z (Res.rs2_cells (m:=2) (Res.rraws_raws (V.hD _ Q0)) _ (zbO (g:=zkW) (d:=zbG) ziL _ _ O))<|Q<|zar V zcK fun w b10 V=>Q (SO (v:=gHL _ _ _ _) V zcK Z Z .u0 fun w V=>?_)
  refine NSR<|ML rfl<|Q<|zaa zeb rfl<|Q<|zae (v:=.slice _ _ _) zcn rfl rfl (V.cellL Q0 rfl)<|Q<|zaH (rest:=[]) zcn rfl<|Q<|zaA rfl rfl rfl zbt<|Q<|zb0 (c:=(((l.getD i zbG).ws.length:Int) + 1)) ty3 za9 rfl zsa<|Q<|zeB (n:=16) (c:=(((l.getD i zbG).ws.length:Int) + 1) * 65536) rfl rfl (by decide) (by rw [show (2:Int) ^ 16 = 65536 from rfl]; exact wrap_u32 (by omega) (by omega))<|Q<|zaa zpd rfl<|Q<|zae (v:=.int .u16 _) zlC rfl rfl (V.cellL Q0 rfl)<|Q<|zb0 (c:=(l.getD i zbG).op) zlC za9 rfl zsa<|Q<|zf5 (q:=(((l.getD i zbG).ws.length:Int) + 1)) (i:=16) (b:=(l.getD i zbG).op) (c:=(((l.getD i zbG).ws.length:Int) + 1) * 65536 + (l.getD i zbG).op) rfl rfl rfl (by omega) (by omega) (by rw [show (2:Int) ^ 16 = 65536 from rfl]; omega) rfl (by omega)<|Q (zaI (z0:=[.int .u32 0]) V zcn za9 rfl rfl (by kernel_rfl) (.c (v:=.int .u32 _) rfl (h:=.nil)) fun w b55 V=>?_)
  refine Q (zaP (news:=[.int .u32 _]) V zcn za9 Z Z .u2 Z Z Z (zac (n:=1) (V.objL Q0) _ Z) Z Z O fun w ao14 cp15 V=>?_)
  replace V:=V.drop .u1
  refine AL Z<|NR<|ML Z<|Q<|zaa zeb Z<|Q<|zae (v:=.slice _ _ _) zcn Z Z (V.cellL Q1 Z)<|Q<|zc3 V zcn za9 Z Z .u0 Z Z (Res.rraws_wsI (V.hD _ Q0) (i:=i) O) (zfX (fun _=>rfl) _) Z O fun w ao16 cp17 V=>AL Z<|G<|zah<|zaj [(5,Pp _ _),(8,.slice _ _ _),(38,.slice _ _ _),(39,.int .i64 _),(40,.int .i64 _)] E5 fun f=>RG<|Q<|zaA Z Z Z zbt<|MI Z<|G ?_
  refine zaD ?_
  have e0:=zoz (gn:=gn) (bd:=bd) (l:=l) (i:=i) O
  have e1:(zcd gn bd ((l.take i).map RawP.L)).length + 1 + (l.getD ((i:Int)).toNat zbG).ws.length = (zcd gn bd ((l.take (i + 1)).map RawP.L)).length:=by rw [e0]; simp only [List.length_append,List.length_cons,List.length_nil,Int.toNat_natCast]
  have e2:(zcd gn bd ((l.take i).map RawP.L)).flatMap zci ++ [.int .u32 ((((l.getD i zbG).ws.length:Int) + 1) * 65536 + (l.getD i zbG).op)] ++ (l.getD i zbG).ws.flatMap zci = (zcd gn bd ((l.take (i + 1)).map RawP.L)).flatMap zci:=by rw [e0]; simp only [List.flatMap_append]; rfl
  rw [e1,e2] at V
  replace V:=V.pick (.k1 (.c .u1 (.c .u1 (.c .u1 .nil))))
  exact ih12 ((i + 1,ao16,cp17)) _ w (by (try dsimp only); omega) V (by (try dsimp only); omega) E3 ⟨(by (try dsimp only); rw [← e1]; rfl),(Vi (by (try dsimp only); omega)),trivial⟩
 obtain rfl:i = l.length:=by omega
 rw [List.take_length] at V
 refine zaK (id:=0) Z<|SR<|ML Z<|Q (zaf zaV zbW .nil ?_)
 refine AL Z<|Q (SO (v:=gII _ _) V zaV Z Z .u2 fun w V=>?_)
 refine G<|zaq func55 Z (TP (v:=.slice _ _ _) Z) (zat (vs:=lII _ _) Z zaV Z Z (zac (n:=2) (V.objL Q2) _ Z)) ?_
 replace V:=V.pick (.k1 .nil)
 have hr:=zmA (gn:=gn) (l:=l.map RawP.L) (bd:=bd) (by omega) (by omega) (by rw [← zlY,hce]; exact hce2)
 rw [hr,List.take_length]
 exact ⟨_,_,Z,V.noD⟩
end Go.SK
namespace Go.SK
open Go Go.Proofs Go.Proofs.Tryz
theorem zhy:FldF prog 179 1 8:=FldF.of (n:=0) Kr
theorem zqu:FldF prog 179 2 9:=FldF.of (n:=0) Kr
open Go.RowKit
theorem zlu (bq:Nat) (fm:FormL) (b:Nat) (Y op ty res:Int) (aa:Option Addr) (ca:Nat) (ags:List ArgP) (ao:Option Addr) (cp:Nat) (l:List Int) (a:Nat) (lacks:Int) (w:World) (hR:(RdC 179 228 22 110 bq fm b Y op ty res aa ca ags ao cp l a).holds w) (hl:l.length ≤ 35184372088832) (ha:a ≤ l.length):Ret prog 104 #[.pointer (some ⟨bq,0,none⟩),.int .i64 lacks] w (fun v w'=>(a < l.length ∧ v = .tuple #[.int .u32 (l.getD a 0),.int .i64 (idE (l.getD a 0) Y)] ∧ St w (RdC 179 228 22 110 bq fm b Y op ty res aa ca ags ao cp l a).foot [RdC 179 228 22 110 bq fm b Y op ty res aa ca ags ao cp l (a + 1)] [] w') ∨ (a = l.length ∧ v = .tuple #[.int .u32 0,.int .i64 lacks] ∧ St w (RdC 179 228 22 110 bq fm b Y op ty res aa ca ags ao cp l a).foot [RdC 179 228 22 110 bq fm b Y op ty res aa ca ags ao cp l a] [] w')):=by
 refine zav (args:=[.pointer (some ⟨bq,0,none⟩),.int .i64 lacks]) func104 Z Z Z ?_
 have V:St w (RdC 179 228 22 110 bq fm b Y op ty res aa ca ags ao cp l a).foot [RdC 179 228 22 110 bq fm b Y op ty res aa ca ags ao cp l a] [] w:=St.enter1 hR (fun d hd=>by cases hd) (fun d hd=>by cases hd)
 replace V:St _ _ [_,_,_] _ _:=V.unpack
 refine SR<|AU Z<|AI Z<|NSR<|MP Z<|Q<|zan Z<|Q<|zaa zhy Z<|Q (zae (v:=Pp _ _) zko Z Z (V.cellL Q0 Z) ?_)
 replace V:=V.pick (.c .u1 (.k2 .nil))
 refine Q (zao (v1:=Pp _ _) zjR Z Z ((ze4 _ _ _ l a _ (V.hL _ Q0) hl ha).mono fun v w hp=>?_))
 rcases hp with ⟨hin,rfl,hp⟩ | ⟨hin,rfl,hp⟩
 ·replace V : St _ _ (RdR 228 22 b ao cp l (a + 1) :: _) _ _ := V.call1 hp
  refine Q<|zad (v:=.tuple #[.int .u32 _,.int .i64 _]) Z<|Q<|Ex (.int .u32 _) Z Z<|Q<|Ex (.int .i64 _) Z Z<|AU Z<|AI Z<|G<|SQ<|SR<|MI Z<|Q<|zaF Z Z<|G<|zab Z (fun g1=>?_) (fun g1=>?_)
  ·exfalso
   exact g1 Z
  refine zag<|SR<|MU Z<|MU Z<|MP Z<|Q<|zan Z<|Q<|zaa zqu Z<|Q<|zae (v:=.int .u32 _) za9 Z Z (V.cellL Q1 Z)<|Q<|zaE (v1:=.int .u32 _) (v2:=.int .u32 _) zqD Z Z Z<|Ret.det (zmr _ _ _) V fun w V=>AU Z<|AI Z<|G<|zaq func104 Z (TP (v:=.int .u32 _) Z) (TP (v:=.int .i64 _) Z) ?_
  replace V:=V.pick (.c .u1 (.k2 .nil))
  exact .inl ⟨hin,Z,(St.pack (L1:=[_,_,_]) (L2:=[]) V)⟩
 ·replace V : St _ _ (RdR 228 22 b ao cp l a :: _) _ _ := V.call1 hp
  refine Q<|zad (v:=.tuple #[.int .u32 _,.int .i64 _]) Z<|Q<|Ex (.int .u32 _) Z Z<|Q<|Ex (.int .i64 _) Z Z<|AU Z<|AI Z<|G<|SQ<|SR<|MI Z<|Q<|zaF Z Z<|G<|zab Z (fun g2=>?_) (fun g2=>?_)
  ·refine SR <| MI Z <| AU Z <| AI Z <| G <| zaq func104 Z (TP (v := .int .u32 _) Z) (TP (v := .int .i64 _) Z) ?_
   replace V:=V.pick (.c .u1 (.k2 .nil))
   exact .inr ⟨hin,Z,(St.pack (L1:=[_,_,_]) (L2:=[]) V)⟩
  exfalso
  exact g2 De
end Go.SK
namespace Go.SK
open Go Go.Proofs Go.Proofs.Tryz
theorem zwk:FldF prog 179 0 0:=FldF.of (n:=7) Kr
theorem zbS:FldF prog 179 3 10:=FldF.of (n:=3) Kr
theorem ent157:zaG prog 157:=⟨f157,_,func157,Kr,rfl⟩
open Go.RowKit
theorem zsc (b:Nat) (ao:Option Addr) (cp:Nat) (l:List Int) (a:Nat) (w:World) (hR:(RdR 228 22 b ao cp l a).holds w) (hl:l.length ≤ 35184372088832) (ha:a < l.length):Ret prog 157 #[.pointer (some ⟨b,0,none⟩)] w (fun v w'=>(∃ (s:List UInt8) (n:Nat),zdH (l.drop a) = (s,(n:Int),0) ∧ 1 ≤ n ∧ a + n ≤ l.length ∧ v = .tuple #[str s,.int .i64 0] ∧ St w (RdR 228 22 b ao cp l a).foot [RdR 228 22 b ao cp l (a + n)] [] w') ∨ (∃ e:Int,zdH (l.drop a) = ([],0,e) ∧ e ≠ 0 ∧ v = .tuple #[str [],.int .i64 e] ∧ St w (RdR 228 22 b ao cp l a).foot [RdR 228 22 b ao cp l a] [] w')):=by
 have hlen:(l.drop a).length = l.length - a:=List.length_drop
 rcases zji (l.drop a) with ⟨e,he,h4⟩ | ⟨s,n,he,h4,h5,h6⟩
 ·exact (zmp b ao cp l a e w hR hl he O O).mono fun v w' hp=>.inr ⟨e,he,by omega,hp⟩
 ·exact (zn5 b ao cp l a s n w hR hl he O).mono fun v w' hp=>.inl ⟨s,n,he,h4,by omega,hp⟩
theorem zqY (bq:Nat) (fm:FormL) (b:Nat) (Y op ty res:Int) (aa:Option Addr) (ca:Nat) (ags:List ArgP) (ao:Option Addr) (cp:Nat) (l:List Int) (a:Nat) (c:Int) (hfm:zaW fm.op = fm) (hc:zaJ fm (ags.length:Int) = c) (w:World) (hR:(RdC 179 228 22 110 bq fm b Y op ty res aa ca ags ao cp l a).holds w) (hl:l.length ≤ 35184372088832) (ha:a ≤ l.length) (hn:ags.length ≤ 1000000):Ret prog 106 #[.pointer (some ⟨bq,0,none⟩)] w (fun v w'=>∃ a' aa' ca' ags',v = .int .i64 (zeL c (l.drop a) Y).2.2 ∧ ((zeL c (l.drop a) Y).2.2 = 0 → a' = a + (zeL c (l.drop a) Y).2.1 ∧ ags' = ags ++ [(zeL c (l.drop a) Y).1]) ∧ a' ≤ l.length ∧ a ≤ a' ∧ ags'.length ≤ ags.length + 1 ∧ St w (RdC 179 228 22 110 bq fm b Y op ty res aa ca ags ao cp l a).foot [RdC 179 228 22 110 bq fm b Y op ty res aa' ca' ags' ao cp l (a')] [] w'):=by
 refine zav (args:=[.pointer (some ⟨bq,0,none⟩)]) func106 Z Z Z ?_
 have V:St w (RdC 179 228 22 110 bq fm b Y op ty res aa ca ags ao cp l a).foot [RdC 179 228 22 110 bq fm b Y op ty res aa ca ags ao cp l a] [] w:=St.enter1 hR (fun d hd=>by cases hd) (fun d hd=>by cases hd)
 replace V:St _ _ [_,_,_] _ _:=V.unpack
 have hf:FOk fm:=hfm ▸ zfd fm.op
 have hop:=hf.op
 have hcb:0 ≤ c ∧ c ≤ 255:=hc ▸ zc1 fm _
 obtain ⟨kd,hkd⟩:∃ kd,zbR c = kd:=⟨_,rfl⟩
 have hlen:(l.drop a).length = l.length - a:=List.length_drop
 refine SR<|AI Z<|G<|SQ<|zaC [] V (bs:=[0,1,3,7,15,0,32,96,224,480,992,2047,4095]) (ds:=[some 6,some 7,some 8,some 9,some 10,some 11,some 12,some 13,some 14,some 15,some 16,some 17,some 3]) ⟨Kr,Kr,Kr⟩ (fun tab1=>?_)
 refine DO tab1 1 (fun _ _ _ hc=>zad (v:=Pp _ _) (hc.old Z Z Z) hc.z)<|DO tab1 2 (fun _ _ _ hc=>zan (hc.d 0 Z Z Z Z) hc.z)<|DO tab1 3 (fun _ _ _ hc=>zaa zwk (hc.d 1 Z Z Z Z) hc.z)<|DO tab1 4 (fun _ _ _ hc=>zaa zgo (hc.d 2 Z Z Z Z) hc.z)<|DO tab1 5 (fun _ _ _ hc=>zae (v:=.int .u16 _) zlC Z (hc.d 3 Z Z Z Z) (hc.st.cellL (Ar Q0) Z) hc.z)<|DO tab1 6 (fun _ _ _ hc=>zad (v:=Pp _ _) (hc.old Z Z Z) hc.z)<|DO tab1 7 (fun _ _ _ hc=>zan (hc.d 5 Z Z Z Z) hc.z)<|DO tab1 8 (fun _ _ _ hc=>zaa zbS (hc.d 6 Z Z Z Z) hc.z)<|DO tab1 9 (fun _ _ _ hc=>zaa zbA (hc.d 7 Z Z Z Z) hc.z)<|DO tab1 10 (fun _ _ _ hc=>zae (v:=.slice _ _ _) zc4 Z (hc.d 8 Z Z Z Z) (hc.st.cellL (Ar Q0) Z) hc.z)<|DO tab1 11 (fun _ _ _ hc=>zaH (rest:=[]) zc4 (hc.d 9 Z Z Z Z) hc.z)<|RunD.fin zaw tab1 V Z (fun f2 w R5 hs3 hd4 hr6 V=>?_)
 obtain ⟨h6_,r0⟩:=hd4 0 6 rfl rfl
 obtain ⟨h7_,r1⟩:=hd4 1 7 rfl rfl
 obtain ⟨h8_,r2⟩:=hd4 2 8 rfl rfl
 obtain ⟨h9_,r3⟩:=hd4 3 9 rfl rfl
 obtain ⟨h10_,r4⟩:=hd4 4 10 rfl rfl
 obtain ⟨h11_,r5⟩:=hd4 5 11 rfl rfl
 obtain ⟨h12_,r6⟩:=hd4 6 12 rfl rfl
 obtain ⟨h13_,r7⟩:=hd4 7 13 rfl rfl
 obtain ⟨h14_,r8⟩:=hd4 8 14 rfl rfl
 obtain ⟨h15_,r9⟩:=hd4 9 15 rfl rfl
 obtain ⟨h16_,r10⟩:=hd4 10 16 rfl rfl
 simp only [rg11,Fc,Fn,Mc,Mn,r0,r1,r2,r3,r4,r5,r6,r7,r8,r9,r10,Na,An,Ca] at V
 refine zaz (sl:=[(0,Pp _ _),(10,.int .u16 _),(16,.int .i64 _)]) ⟨(hs3 0 Z).trans Z,h10_,h16_,trivial⟩ ?_
 clear hs3 hd4 hr6 tab1
 refine Q<|zaE (v1:=.int .u16 _) (v2:=.int .i64 _) zqE Z Z Z<|Ret.det (zir hop.1 hfm hc O _) V fun w V=>AC Z<|NSR<|MC Z<|Q<|zao (v1:=.int .u8 _) zue Z Z<|Ret.det (zlq hkd _) V fun w V=>Q (zaf za1 zeq (.c (v:=.int .u8 _) Z (h:=.nil)) ?_)
 refine Q<|zar V za1 fun w b4 V=>Q (SO (v:=zeK _ _ _) V za1 Z Z .u0 fun w V=>?_)
 refine NSR<|AI Z<|G<|zaj [(0,Pp _ _),(3,.int .u8 _),(4,Pp _ _),(5,.int .i64 _)] E4 fun f=>SQ<|zak<|SR<|MC Z<|Q<|zam Z Z<|MB Z<|zau (d:=33) Z (fun g7=>?_) (fun g7=>?_)
 ·refine OM (t := 33) Z (Vb (Dt g7)) Z <| OM (t := 33) Z (Vb (Dt g7)) Z <| OM (t := 33) Z (Vb (Dt g7)) Z <| OM (t := 33) Z (Vb (Dt g7)) Z <| OM (t := 33) Z (Vb (Dt g7)) Z <| OM (t := 33) Z (Vb (Dt g7)) Z <| Q <| zaB (u := .bool _) (Vb (Dt g7)) Z <| AB Z <| G <| zas (Vb (Z : true = _)) <| SR <| AI Z <| G <| zai func106 Z (TP (v := .int .i64 _) Z) ?_
  replace V:=V.pick (.c .u1 (.c .u1 (.c .u1 .nil)))
  have hE:=zhM (c:=c) (ws:=l.drop a) (b:=Y) (by rw [hlen]; omega)
  rw [hE]
  exact ⟨a,aa,ca,ags,Z,fun h=>(absurd h De),ha,Nat.le_refl _,by omega,(St.pack (L1:=[_,_,_]) (L2:=[]) V)⟩
 refine TK (t:=33) Z (Vb (Df g7))<|zad (v:=Pp _ _) Z<|TK (t:=33) Z (Vb (Df g7))<|zan Z<|TK (t:=33) Z (Vb (Df g7))<|zaa zhy Z<|TK (t:=33) Z (Vb (Df g7))<|zae (v:=Pp _ _) zko Z Z (V.cellL Q1 Z)<|TK (t:=33) Z (Vb (Df g7)) (zao (v1:=Pp _ _) znL Z Z ((zf2 b _ _ l a _ (V.hL _ Q2) O O).mono fun v w hp=>?_))
 obtain ⟨rfl,hp⟩:=hp
 replace V:=V.keepc hp
 refine TK (t:=33) Z (Vb (Df g7))<|zam Z Z<|Q<|zax (u:=.bool _) (Vb (Df g7)) Z<|AB Z<|G<|zab Z (fun g8=>?_) (fun g8=>?_)
 ·refine SR <| AI Z <| G <| zai func106 Z (TP (v := .int .i64 _) Z) ?_
  replace V:=V.pick (.c .u1 (.c .u1 (.c .u1 .nil)))
  have hE:=zhM (c:=c) (ws:=l.drop a) (b:=Y) (by rw [hlen]; omega)
  rw [hE]
  exact ⟨a,aa,ca,ags,Z,fun h=>(absurd h De),ha,Nat.le_refl _,by omega,(St.pack (L1:=[_,_,_]) (L2:=[]) V)⟩
 refine SR<|Q<|zaa zdE Z<|Q<|zae (v:=.int .u8 _) ty5 Z Z (V.cellL Q0 Z)<|Q<|zam Z Z<|AB Z<|G<|zab Z (fun g9=>?_) (fun g9=>?_)
 ·refine RG <| MP Z <| Q <| zan Z <| Q <| zaa zhy Z <| Q (zae (v := Pp _ _) zko Z Z (V.cellL Q1 Z) ?_)
  replace V:=V.pick (.c .u2 (.k3 .nil))
  refine Q (zao (v1:=Pp _ _) ent157 Z Z ((zsc _ _ _ l a _ (V.hL _ Q0) hl O).mono fun v w hp=>?_))
  rcases hp with ⟨s,n,ht,hn1,hn2,rfl,hp⟩ | ⟨e,ht,he0,rfl,hp⟩
  ·replace V : St _ _ (RdR 228 22 b ao cp l (a + n) :: _) _ _ := V.call1 hp
   refine Q<|zad (v:=.tuple #[str _,.int .i64 _]) Z<|Q<|Ex (str _) Z Z<|Q<|Ex (.int .i64 _) Z Z<|Q<|zaa zhB Z<|Q (SO (v:=str _) V ty9 Z Z .u1 fun w V=>?_)
   refine AI Z<|G<|zah<|zaj [(0,Pp _ _),(3,.int .u8 _),(4,Pp _ _),(5,.int .i64 _)] E4 fun f=>SQ<|SR<|Q<|zaa zdE Z<|Q<|zae (v:=.int .u8 _) ty5 Z Z (V.cellL Q1 Z)<|G<|zak<|SR<|Q<|zam Z Z<|AB Z ?_
   refine G<|zab Z (fun g10=>?_) (fun g10=>?_)
   ·exfalso
    omega
   refine SR<|Q<|zam Z Z<|AB Z<|G<|zab Z (fun g11=>?_) (fun g11=>?_)
   ·exfalso
    omega
   refine zag<|zah<|SQ ?_
   replace V:=V.pick (.c .u3 (.k3 .nil))
   apply zaC [(8,Res.sl _ _ _ _ _ _,Res.emp)] V (bs:=[0,0,2,6,14,30,0,64,254,511,1023,2047,4095]) (ds:=[some 71,some 72,some 73,some 74,some 75,some 76,some 77,some 78,some 79,some 80,some 81,some 82,none]) (htab:=⟨Kr,Kr,Kr⟩)
   intro tab12
   refine DO tab12 1 (fun _ _ _ hc=>zad (v:=Pp _ _) (hc.old Z Z Z) hc.z)<|DO tab12 2 (fun _ _ _ hc=>zad (v:=Pp _ _) (hc.old Z Z Z) hc.z)<|DO tab12 3 (fun _ _ _ hc=>zan (hc.d 1 Z Z Z Z) hc.z)<|DO tab12 4 (fun _ _ _ hc=>zaa zbS (hc.d 2 Z Z Z Z) hc.z)<|DO tab12 5 (fun _ _ _ hc=>zaa zbA (hc.d 3 Z Z Z Z) hc.z)<|DO tab12 6 (fun _ _ _ hc=>zae (v:=.slice _ _ _) zc4 Z (hc.d 4 Z Z Z Z) (hc.st.cellL (Ar Q2) Z) hc.z)<|DO tab12 7 (fun _ _ _ hc=>zay (vs:=zgJ _ _ _) za1 Z (hc.old (v:=Pp _ _) Z Z Z) Z (zac (n:=3) (hc.st.objL (Ar Q1)) _ Z) hc.z)<|RunD.op (fun v rs=>∃ b,v = .slice (some ⟨b,0,none⟩) 1 1 ∧ rs = [Res.row b 110 ([.int .u8 kd,.int .u32 0,str s])]) tab12 8 (fun _ _ _ hc=>zaI (z0:=[.int .u8 0,.int .u32 0,str []]) hc.st zc4 za1 Z Z Kr (.c (v:=zeK _ _ _) (hc.d 6 Z Z Z Z) (h:=.nil)) fun w b V=>⟨[_],⟨b,Z,Z⟩,V⟩) ?_
   refine zch (fun g v rs=>∃ ao2 cp2,v = .slice ao2 (ags.length + 1) cp2 ∧ rs = [Res.sl ao2 (ags.length + 1) cp2 110 3 (ags.flatMap zdX ++ [.int .u8 kd,.int .u32 0,str s])]) tab12 9 Q0 (fun f' L' L'' w' hc ⟨X,hrem,hX⟩=>by obtain ⟨_,rs,⟨b78,h78,hrs⟩,_,hm⟩:=hc.dep 7 78 rfl rfl; subst hrs; exact zaP (news:=[.int .u8 kd,.int .u32 0,str s]) hc.st zc4 za1 rfl rfl hrem (hc.d 5 rfl rfl rfl rfl) (evs h78 rfl) rfl (zac (n:=3) (hc.st.objL (Al (hm rfl _ Q0))) _ rfl) rfl rfl O fun w ao2 cp2 V=>⟨[_],fun g hg=>⟨_,_,rfl,rfl⟩,hX _ _ V⟩)<|RunD.fin zaw tab12 V rfl (fun f13 w R16 hs14 hd15 hr17 V=>?_)
   obtain ⟨h71_,r0⟩:=hd15 0 71 rfl rfl
   obtain ⟨h72_,r1⟩:=hd15 1 72 rfl rfl
   obtain ⟨h73_,r2⟩:=hd15 2 73 rfl rfl
   obtain ⟨h74_,r3⟩:=hd15 3 74 rfl rfl
   obtain ⟨h75_,r4⟩:=hd15 4 75 rfl rfl
   obtain ⟨h76_,r5⟩:=hd15 5 76 rfl rfl
   obtain ⟨h77_,r6⟩:=hd15 6 77 rfl rfl
   obtain ⟨b78,h78_,r7⟩:=hd15 7 78 rfl rfl
   obtain ⟨ao2,cp2,h79_,r8⟩:=hd15 8 79 rfl rfl
   simp only [rg9,Fc,Fn,Mc,Mn,r0,r1,r2,r3,r4,r5,r6,r7,r8,Na,An,Ca] at V
   refine zaz (sl:=[(5,.int .i64 _),(71,Pp _ _),(79,.slice _ _ _)]) ⟨(hs14 5 Z).trans Z,h71_,h79_,trivial⟩ ?_
   clear hs14 hd15 hr17 tab12
   refine Q<|zan Z<|Q<|zaa zbS Z<|Q<|zaa zbA Z<|Q (SO (v:=.slice _ _ _) V zc4 Z Z .u5 fun w V=>?_)
   refine NSR<|MI Z<|AI Z<|G<|zai func106 Z (TP (v:=.int .i64 _) Z) ?_
   replace V:=V.pick (.c .u5 (.c .u3 (.c .u1 .nil)))
   have e1:ags.length + 1 = (ags ++ [(⟨kd,0,s⟩:ArgP)]).length:=by simp
   have e2:ags.flatMap zdX ++ [.int .u8 kd,.int .u32 0,str s] = (ags ++ [(⟨kd,0,s⟩:ArgP)]).flatMap zdX:=by simp
   rw [e1,e2] at V
   have hk3:kd = 3:=by omega
   have hE:=zhK (c:=c) (ws:=l.drop a) (b:=Y) (by omega) (by rw [hlen]; omega) (hkd.trans hk3)
   rw [ht] at hE
   rw [hE]
   exact ⟨a + n,ao2,cp2,ags ++ [(⟨kd,0,s⟩:ArgP)],rfl,fun _=>⟨by (try dsimp only); omega,by rw [hk3]⟩,by omega,by omega,by simp,(St.pack (L1:=[_,_,_]) (L2:=[]) V)⟩
  ·replace V : St _ _ (RdR 228 22 b ao cp l a :: _) _ _ := V.call1 hp
   refine Q<|zad (v:=.tuple #[str _,.int .i64 _]) Z<|Q<|Ex (str _) Z Z<|Q<|Ex (.int .i64 _) Z Z<|Q<|zaa zhB Z<|Q (SO (v:=str _) V ty9 Z Z .u1 fun w V=>?_)
   refine AI Z<|G<|zah<|zaj [(0,Pp _ _),(3,.int .u8 _),(4,Pp _ _),(5,.int .i64 _)] E4 fun f=>SQ<|SR<|Q<|zaa zdE Z<|Q<|zae (v:=.int .u8 _) ty5 Z Z (V.cellL Q1 Z)<|G<|zak<|SR<|Q<|zam Z Z<|AB Z ?_
   refine G<|zab Z (fun g18=>?_) (fun g18=>?_)
   ·exfalso
    omega
   refine SR<|Q<|zam Z Z<|AB Z<|G<|zab Z (fun g19=>?_) (fun g19=>?_)
   ·exfalso
    omega
   refine zag<|zah<|SQ ?_
   replace V:=V.pick (.c .u3 (.k3 .nil))
   apply zaC [(8,Res.sl _ _ _ _ _ _,Res.emp)] V (bs:=[0,0,2,6,14,30,0,64,254,511,1023,2047,4095]) (ds:=[some 71,some 72,some 73,some 74,some 75,some 76,some 77,some 78,some 79,some 80,some 81,some 82,none]) (htab:=⟨Kr,Kr,Kr⟩)
   intro tab20
   refine DO tab20 1 (fun _ _ _ hc=>zad (v:=Pp _ _) (hc.old Z Z Z) hc.z)<|DO tab20 2 (fun _ _ _ hc=>zad (v:=Pp _ _) (hc.old Z Z Z) hc.z)<|DO tab20 3 (fun _ _ _ hc=>zan (hc.d 1 Z Z Z Z) hc.z)<|DO tab20 4 (fun _ _ _ hc=>zaa zbS (hc.d 2 Z Z Z Z) hc.z)<|DO tab20 5 (fun _ _ _ hc=>zaa zbA (hc.d 3 Z Z Z Z) hc.z)<|DO tab20 6 (fun _ _ _ hc=>zae (v:=.slice _ _ _) zc4 Z (hc.d 4 Z Z Z Z) (hc.st.cellL (Ar Q2) Z) hc.z)<|DO tab20 7 (fun _ _ _ hc=>zay (vs:=zgJ _ _ _) za1 Z (hc.old (v:=Pp _ _) Z Z Z) Z (zac (n:=3) (hc.st.objL (Ar Q1)) _ Z) hc.z)<|RunD.op (fun v rs=>∃ b,v = .slice (some ⟨b,0,none⟩) 1 1 ∧ rs = [Res.row b 110 ([.int .u8 kd,.int .u32 0,str []])]) tab20 8 (fun _ _ _ hc=>zaI (z0:=[.int .u8 0,.int .u32 0,str []]) hc.st zc4 za1 Z Z Kr (.c (v:=zeK _ _ _) (hc.d 6 Z Z Z Z) (h:=.nil)) fun w b V=>⟨[_],⟨b,Z,Z⟩,V⟩) ?_
   refine zch (fun g v rs=>∃ ao2 cp2,v = .slice ao2 (ags.length + 1) cp2 ∧ rs = [Res.sl ao2 (ags.length + 1) cp2 110 3 (ags.flatMap zdX ++ [.int .u8 kd,.int .u32 0,str []])]) tab20 9 Q0 (fun f' L' L'' w' hc ⟨X,hrem,hX⟩=>by obtain ⟨_,rs,⟨b78,h78,hrs⟩,_,hm⟩:=hc.dep 7 78 rfl rfl; subst hrs; exact zaP (news:=[.int .u8 kd,.int .u32 0,str []]) hc.st zc4 za1 rfl rfl hrem (hc.d 5 rfl rfl rfl rfl) (evs h78 rfl) rfl (zac (n:=3) (hc.st.objL (Al (hm rfl _ Q0))) _ rfl) rfl rfl O fun w ao2 cp2 V=>⟨[_],fun g hg=>⟨_,_,rfl,rfl⟩,hX _ _ V⟩)<|RunD.fin zaw tab20 V rfl (fun f21 w R24 hs22 hd23 hr25 V=>?_)
   obtain ⟨h71_,r0⟩:=hd23 0 71 rfl rfl
   obtain ⟨h72_,r1⟩:=hd23 1 72 rfl rfl
   obtain ⟨h73_,r2⟩:=hd23 2 73 rfl rfl
   obtain ⟨h74_,r3⟩:=hd23 3 74 rfl rfl
   obtain ⟨h75_,r4⟩:=hd23 4 75 rfl rfl
   obtain ⟨h76_,r5⟩:=hd23 5 76 rfl rfl
   obtain ⟨h77_,r6⟩:=hd23 6 77 rfl rfl
   obtain ⟨b78,h78_,r7⟩:=hd23 7 78 rfl rfl
   obtain ⟨ao2,cp2,h79_,r8⟩:=hd23 8 79 rfl rfl
   simp only [rg9,Fc,Fn,Mc,Mn,r0,r1,r2,r3,r4,r5,r6,r7,r8,Na,An,Ca] at V
   refine zaz (sl:=[(5,.int .i64 _),(71,Pp _ _),(79,.slice _ _ _)]) ⟨(hs22 5 Z).trans Z,h71_,h79_,trivial⟩ ?_
   clear hs22 hd23 hr25 tab20
   refine Q<|zan Z<|Q<|zaa zbS Z<|Q<|zaa zbA Z<|Q (SO (v:=.slice _ _ _) V zc4 Z Z .u5 fun w V=>?_)
   refine NSR<|MI Z<|AI Z<|G<|zai func106 Z (TP (v:=.int .i64 _) Z) ?_
   replace V:=V.pick (.c .u5 (.c .u3 (.c .u1 .nil)))
   have e1:ags.length + 1 = (ags ++ [(⟨kd,0,[]⟩:ArgP)]).length:=by simp
   have e2:ags.flatMap zdX ++ [.int .u8 kd,.int .u32 0,str []] = (ags ++ [(⟨kd,0,[]⟩:ArgP)]).flatMap zdX:=by simp
   rw [e1,e2] at V
   have hk3:kd = 3:=by omega
   have hE:=zhK (c:=c) (ws:=l.drop a) (b:=Y) (by omega) (by rw [hlen]; omega) (hkd.trans hk3)
   rw [ht] at hE
   rw [hE]
   exact ⟨a,ao2,cp2,ags ++ [(⟨kd,0,[]⟩:ArgP)],rfl,fun h=>absurd h he0,ha,Nat.le_refl _,by simp,(St.pack (L1:=[_,_,_]) (L2:=[]) V)⟩
 refine RG<|MP Z<|Q<|zan Z<|Q<|zaa zhy Z<|Q (zae (v:=Pp _ _) zko Z Z (V.cellL Q1 Z) ?_)
 replace V:=V.pick (.c .u2 (.k3 .nil))
 refine Q (zao (v1:=Pp _ _) zjR Z Z ((zj4 _ _ _ l a _ (V.hL _ Q0) hl O).mono fun v w hp=>?_))
 obtain ⟨rfl,hp⟩:=hp
 replace V:St _ _ (RdR 228 22 b ao cp l (a + 1) :: _) _ _:=V.call1 hp
 refine Q<|zad (v:=.tuple #[.int .u32 _,.int .i64 _]) Z<|Q<|Ex (.int .u32 _) Z Z<|Q<|Ex (.int .i64 _) Z Z<|Q<|zaa zdD Z<|Q (SO (v:=.int .u32 _) V za9 Z Z .u1 fun w V=>?_)
 refine G<|zah<|zaj [(0,Pp _ _),(3,.int .u8 _),(4,Pp _ _),(5,.int .i64 _)] E4 fun f=>SQ<|SR<|Q<|zaa zdE Z<|Q<|zae (v:=.int .u8 _) ty5 Z Z (V.cellL Q1 Z)<|G<|zak<|SR<|Q<|zam Z Z<|AB Z<|G ?_
 refine zab Z (fun g26=>?_) (fun g26=>?_)
 ·refine zaC [] V (bs := [0, 1, 0, 4, 12, 28, 63, 127]) (ds := [some 58, some 59, some 60, some 61, some 62, some 63, some 64, some 5]) ⟨Kr, Kr, Kr⟩ (fun tab27 => ?_)
  refine DO tab27 1 (fun _ _ _ hc=>zaa zdD (hc.old (v:=Pp _ _) Z Z Z) hc.z)<|DO tab27 2 (fun _ _ _ hc=>zae (v:=.int .u32 _) za9 Z (hc.d 0 Z Z Z Z) (hc.st.cellL (Ar Q1) Z) hc.z)<|DO tab27 3 (fun _ _ _ hc=>zad (v:=Pp _ _) (hc.old Z Z Z) hc.z)<|DO tab27 4 (fun _ _ _ hc=>zan (hc.d 2 Z Z Z Z) hc.z)<|DO tab27 5 (fun _ _ _ hc=>zaa zqu (hc.d 3 Z Z Z Z) hc.z)<|DO tab27 6 (fun _ _ _ hc=>zae (v:=.int .u32 _) za9 Z (hc.d 4 Z Z Z Z) (hc.st.cellL (Ar Q2) Z) hc.z)<|RunD.fin zaw tab27 V Z (fun f28 w R31 hs29 hd30 hr32 V=>?_)
  obtain ⟨h58_,r0⟩:=hd30 0 58 rfl rfl
  obtain ⟨h59_,r1⟩:=hd30 1 59 rfl rfl
  obtain ⟨h60_,r2⟩:=hd30 2 60 rfl rfl
  obtain ⟨h61_,r3⟩:=hd30 3 61 rfl rfl
  obtain ⟨h62_,r4⟩:=hd30 4 62 rfl rfl
  obtain ⟨h63_,r5⟩:=hd30 5 63 rfl rfl
  simp only [rg6,Fc,Fn,Mc,Mn,r0,r1,r2,r3,r4,r5,Na,An,Ca] at V
  refine zaz (sl:=[(0,Pp _ _),(4,Pp _ _),(59,.int .u32 _),(63,.int .u32 _)]) ⟨(hs29 0 Z).trans Z,(hs29 4 Z).trans Z,h59_,h63_,trivial⟩ ?_
  clear hs29 hd30 hr32 tab27
  refine Q<|zaE (v1:=.int .u32 _) (v2:=.int .u32 _) zqD Z Z Z<|Ret.det (zmr _ _ _) V fun w V=>AI Z<|G<|zah<|SQ ?_
  replace V:=V.pick (.c .u3 (.k3 .nil))
  apply zaC [(8,Res.sl _ _ _ _ _ _,Res.emp)] V (bs:=[0,0,2,6,14,30,0,64,254,511,1023,2047,4095]) (ds:=[some 71,some 72,some 73,some 74,some 75,some 76,some 77,some 78,some 79,some 80,some 81,some 82,none]) (htab:=⟨Kr,Kr,Kr⟩)
  intro tab33
  refine DO tab33 1 (fun _ _ _ hc=>zad (v:=Pp _ _) (hc.old Z Z Z) hc.z)<|DO tab33 2 (fun _ _ _ hc=>zad (v:=Pp _ _) (hc.old Z Z Z) hc.z)<|DO tab33 3 (fun _ _ _ hc=>zan (hc.d 1 Z Z Z Z) hc.z)<|DO tab33 4 (fun _ _ _ hc=>zaa zbS (hc.d 2 Z Z Z Z) hc.z)<|DO tab33 5 (fun _ _ _ hc=>zaa zbA (hc.d 3 Z Z Z Z) hc.z)<|DO tab33 6 (fun _ _ _ hc=>zae (v:=.slice _ _ _) zc4 Z (hc.d 4 Z Z Z Z) (hc.st.cellL (Ar Q2) Z) hc.z)<|DO tab33 7 (fun _ _ _ hc=>zay (vs:=zgJ _ _ _) za1 Z (hc.old (v:=Pp _ _) Z Z Z) Z (zac (n:=3) (hc.st.objL (Ar Q1)) _ Z) hc.z)<|RunD.op (fun v rs=>∃ b,v = .slice (some ⟨b,0,none⟩) 1 1 ∧ rs = [Res.row b 110 ([.int .u8 kd,.int .u32 (l.getD a 0),str []])]) tab33 8 (fun _ _ _ hc=>zaI (z0:=[.int .u8 0,.int .u32 0,str []]) hc.st zc4 za1 Z Z Kr (.c (v:=zeK _ _ _) (hc.d 6 Z Z Z Z) (h:=.nil)) fun w b V=>⟨[_],⟨b,Z,Z⟩,V⟩) ?_
  refine zch (fun g v rs=>∃ ao2 cp2,v = .slice ao2 (ags.length + 1) cp2 ∧ rs = [Res.sl ao2 (ags.length + 1) cp2 110 3 (ags.flatMap zdX ++ [.int .u8 kd,.int .u32 (l.getD a 0),str []])]) tab33 9 Q0 (fun f' L' L'' w' hc ⟨X,hrem,hX⟩=>by obtain ⟨_,rs,⟨b78,h78,hrs⟩,_,hm⟩:=hc.dep 7 78 rfl rfl; subst hrs; exact zaP (news:=[.int .u8 kd,.int .u32 (l.getD a 0),str []]) hc.st zc4 za1 rfl rfl hrem (hc.d 5 rfl rfl rfl rfl) (evs h78 rfl) rfl (zac (n:=3) (hc.st.objL (Al (hm rfl _ Q0))) _ rfl) rfl rfl O fun w ao2 cp2 V=>⟨[_],fun g hg=>⟨_,_,rfl,rfl⟩,hX _ _ V⟩)<|RunD.fin zaw tab33 V rfl (fun f34 w R37 hs35 hd36 hr38 V=>?_)
  obtain ⟨h71_,r0⟩:=hd36 0 71 rfl rfl
  obtain ⟨h72_,r1⟩:=hd36 1 72 rfl rfl
  obtain ⟨h73_,r2⟩:=hd36 2 73 rfl rfl
  obtain ⟨h74_,r3⟩:=hd36 3 74 rfl rfl
  obtain ⟨h75_,r4⟩:=hd36 4 75 rfl rfl
  obtain ⟨h76_,r5⟩:=hd36 5 76 rfl rfl
  obtain ⟨h77_,r6⟩:=hd36 6 77 rfl rfl
  obtain ⟨b78,h78_,r7⟩:=hd36 7 78 rfl rfl
  obtain ⟨ao2,cp2,h79_,r8⟩:=hd36 8 79 rfl rfl
  simp only [rg9,Fc,Fn,Mc,Mn,r0,r1,r2,r3,r4,r5,r6,r7,r8,Na,An,Ca] at V
  refine zaz (sl:=[(5,.int .i64 _),(71,Pp _ _),(79,.slice _ _ _)]) ⟨(hs35 5 Z).trans Z,h71_,h79_,trivial⟩ ?_
  clear hs35 hd36 hr38 tab33
  refine Q<|zan Z<|Q<|zaa zbS Z<|Q<|zaa zbA Z<|Q (SO (v:=.slice _ _ _) V zc4 Z Z .u5 fun w V=>?_)
  refine G<|zaj [(5,.int .i64 _)] ⟨Z,trivial⟩ fun f=>SR<|MI Z<|AI Z<|G<|zai func106 Z (TP (v:=.int .i64 _) Z) ?_
  replace V:=V.pick (.c .u5 (.c .u3 (.c .u1 .nil)))
  have e1:ags.length + 1 = (ags ++ [(⟨kd,(l.getD a 0),[]⟩:ArgP)]).length:=by simp
  have e2:ags.flatMap zdX ++ [.int .u8 kd,.int .u32 (l.getD a 0),str []] = (ags ++ [(⟨kd,(l.getD a 0),[]⟩:ArgP)]).flatMap zdX:=by simp
  rw [e1,e2] at V
  have hE:=zhL (c:=c) (ws:=l.drop a) (b:=Y) (by omega) (by rw [hlen]; omega) (by rw [hkd]; omega)
  have hd0:(l.drop a).getD 0 0 = l.getD a 0:=by simp [List.getD]
  rw [hd0,hkd] at hE
  rw [if_pos (by omega)] at hE
  rw [hE]
  exact ⟨a + 1,ao2,cp2,ags ++ [(⟨kd,(l.getD a 0),[]⟩:ArgP)],rfl,fun _=>⟨rfl,rfl⟩,by omega,by omega,by simp,(St.pack (L1:=[_,_,_]) (L2:=[]) V)⟩
 refine SR<|Q<|zam Z Z<|AB Z<|G<|zab Z (fun g39=>?_) (fun g39=>?_)
 ·refine RG <| MC Z <| Q <| zaa zdD Z <| Q <| zae (v := .int .u32 _) za9 Z Z (V.cellL Q1 Z) <| Q <| zaE (v1 := .int .u8 _) (v2 := .int .u32 _) zxA Z Z Z <| Ret.det (zlw _ _ hcb.1 hcb.2 _) V fun w V => AI Z <| G <| zah <| SQ ?_
  replace V:=V.pick (.c .u3 (.k3 .nil))
  apply zaC [(8,Res.sl _ _ _ _ _ _,Res.emp)] V (bs:=[0,0,2,6,14,30,0,64,254,511,1023,2047,4095]) (ds:=[some 71,some 72,some 73,some 74,some 75,some 76,some 77,some 78,some 79,some 80,some 81,some 82,none]) (htab:=⟨Kr,Kr,Kr⟩)
  intro tab40
  refine DO tab40 1 (fun _ _ _ hc=>zad (v:=Pp _ _) (hc.old Z Z Z) hc.z)<|DO tab40 2 (fun _ _ _ hc=>zad (v:=Pp _ _) (hc.old Z Z Z) hc.z)<|DO tab40 3 (fun _ _ _ hc=>zan (hc.d 1 Z Z Z Z) hc.z)<|DO tab40 4 (fun _ _ _ hc=>zaa zbS (hc.d 2 Z Z Z Z) hc.z)<|DO tab40 5 (fun _ _ _ hc=>zaa zbA (hc.d 3 Z Z Z Z) hc.z)<|DO tab40 6 (fun _ _ _ hc=>zae (v:=.slice _ _ _) zc4 Z (hc.d 4 Z Z Z Z) (hc.st.cellL (Ar Q2) Z) hc.z)<|DO tab40 7 (fun _ _ _ hc=>zay (vs:=zgJ _ _ _) za1 Z (hc.old (v:=Pp _ _) Z Z Z) Z (zac (n:=3) (hc.st.objL (Ar Q1)) _ Z) hc.z)<|RunD.op (fun v rs=>∃ b,v = .slice (some ⟨b,0,none⟩) 1 1 ∧ rs = [Res.row b 110 ([.int .u8 kd,.int .u32 (l.getD a 0),str []])]) tab40 8 (fun _ _ _ hc=>zaI (z0:=[.int .u8 0,.int .u32 0,str []]) hc.st zc4 za1 Z Z Kr (.c (v:=zeK _ _ _) (hc.d 6 Z Z Z Z) (h:=.nil)) fun w b V=>⟨[_],⟨b,Z,Z⟩,V⟩) ?_
  refine zch (fun g v rs=>∃ ao2 cp2,v = .slice ao2 (ags.length + 1) cp2 ∧ rs = [Res.sl ao2 (ags.length + 1) cp2 110 3 (ags.flatMap zdX ++ [.int .u8 kd,.int .u32 (l.getD a 0),str []])]) tab40 9 Q0 (fun f' L' L'' w' hc ⟨X,hrem,hX⟩=>by obtain ⟨_,rs,⟨b78,h78,hrs⟩,_,hm⟩:=hc.dep 7 78 rfl rfl; subst hrs; exact zaP (news:=[.int .u8 kd,.int .u32 (l.getD a 0),str []]) hc.st zc4 za1 rfl rfl hrem (hc.d 5 rfl rfl rfl rfl) (evs h78 rfl) rfl (zac (n:=3) (hc.st.objL (Al (hm rfl _ Q0))) _ rfl) rfl rfl O fun w ao2 cp2 V=>⟨[_],fun g hg=>⟨_,_,rfl,rfl⟩,hX _ _ V⟩)<|RunD.fin zaw tab40 V rfl (fun f41 w R44 hs42 hd43 hr45 V=>?_)
  obtain ⟨h71_,r0⟩:=hd43 0 71 rfl rfl
  obtain ⟨h72_,r1⟩:=hd43 1 72 rfl rfl
  obtain ⟨h73_,r2⟩:=hd43 2 73 rfl rfl
  obtain ⟨h74_,r3⟩:=hd43 3 74 rfl rfl
  obtain ⟨h75_,r4⟩:=hd43 4 75 rfl rfl
  obtain ⟨h76_,r5⟩:=hd43 5 76 rfl rfl
  obtain ⟨h77_,r6⟩:=hd43 6 77 rfl rfl
  obtain ⟨b78,h78_,r7⟩:=hd43 7 78 rfl rfl
  obtain ⟨ao2,cp2,h79_,r8⟩:=hd43 8 79 rfl rfl
  simp only [rg9,Fc,Fn,Mc,Mn,r0,r1,r2,r3,r4,r5,r6,r7,r8,Na,An,Ca] at V
  refine zaz (sl:=[(5,.int .i64 _),(71,Pp _ _),(79,.slice _ _ _)]) ⟨(hs42 5 Z).trans Z,h71_,h79_,trivial⟩ ?_
  clear hs42 hd43 hr45 tab40
  refine Q<|zan Z<|Q<|zaa zbS Z<|Q<|zaa zbA Z<|Q (SO (v:=.slice _ _ _) V zc4 Z Z .u5 fun w V=>?_)
  refine G<|zaj [(5,.int .i64 _)] ⟨Z,trivial⟩ fun f=>SR<|MI Z<|AI Z<|G<|zai func106 Z (TP (v:=.int .i64 _) Z) ?_
  replace V:=V.pick (.c .u5 (.c .u3 (.c .u1 .nil)))
  have e1:ags.length + 1 = (ags ++ [(⟨kd,(l.getD a 0),[]⟩:ArgP)]).length:=by simp
  have e2:ags.flatMap zdX ++ [.int .u8 kd,.int .u32 (l.getD a 0),str []] = (ags ++ [(⟨kd,(l.getD a 0),[]⟩:ArgP)]).flatMap zdX:=by simp
  rw [e1,e2] at V
  have hE:=zhL (c:=c) (ws:=l.drop a) (b:=Y) (by omega) (by rw [hlen]; omega) (by rw [hkd]; omega)
  have hd0:(l.drop a).getD 0 0 = l.getD a 0:=by simp [List.getD]
  rw [hd0,hkd] at hE
  rw [if_neg (by omega),if_pos (by omega)] at hE
  rw [hE]
  exact ⟨a + 1,ao2,cp2,ags ++ [(⟨kd,(l.getD a 0),[]⟩:ArgP)],rfl,fun _=>⟨rfl,rfl⟩,by omega,by omega,by simp,(St.pack (L1:=[_,_,_]) (L2:=[]) V)⟩
 refine zag<|zah<|SQ ?_
 replace V:=V.pick (.c .u3 (.k3 .nil))
 apply zaC [(8,Res.sl _ _ _ _ _ _,Res.emp)] V (bs:=[0,0,2,6,14,30,0,64,254,511,1023,2047,4095]) (ds:=[some 71,some 72,some 73,some 74,some 75,some 76,some 77,some 78,some 79,some 80,some 81,some 82,none]) (htab:=⟨Kr,Kr,Kr⟩)
 intro tab46
 refine DO tab46 1 (fun _ _ _ hc=>zad (v:=Pp _ _) (hc.old Z Z Z) hc.z)<|DO tab46 2 (fun _ _ _ hc=>zad (v:=Pp _ _) (hc.old Z Z Z) hc.z)<|DO tab46 3 (fun _ _ _ hc=>zan (hc.d 1 Z Z Z Z) hc.z)<|DO tab46 4 (fun _ _ _ hc=>zaa zbS (hc.d 2 Z Z Z Z) hc.z)<|DO tab46 5 (fun _ _ _ hc=>zaa zbA (hc.d 3 Z Z Z Z) hc.z)<|DO tab46 6 (fun _ _ _ hc=>zae (v:=.slice _ _ _) zc4 Z (hc.d 4 Z Z Z Z) (hc.st.cellL (Ar Q2) Z) hc.z)<|DO tab46 7 (fun _ _ _ hc=>zay (vs:=zgJ _ _ _) za1 Z (hc.old (v:=Pp _ _) Z Z Z) Z (zac (n:=3) (hc.st.objL (Ar Q1)) _ Z) hc.z)<|RunD.op (fun v rs=>∃ b,v = .slice (some ⟨b,0,none⟩) 1 1 ∧ rs = [Res.row b 110 ([.int .u8 kd,.int .u32 (l.getD a 0),str []])]) tab46 8 (fun _ _ _ hc=>zaI (z0:=[.int .u8 0,.int .u32 0,str []]) hc.st zc4 za1 Z Z Kr (.c (v:=zeK _ _ _) (hc.d 6 Z Z Z Z) (h:=.nil)) fun w b V=>⟨[_],⟨b,Z,Z⟩,V⟩) ?_
 refine zch (fun g v rs=>∃ ao2 cp2,v = .slice ao2 (ags.length + 1) cp2 ∧ rs = [Res.sl ao2 (ags.length + 1) cp2 110 3 (ags.flatMap zdX ++ [.int .u8 kd,.int .u32 (l.getD a 0),str []])]) tab46 9 Q0 (fun f' L' L'' w' hc ⟨X,hrem,hX⟩=>by obtain ⟨_,rs,⟨b78,h78,hrs⟩,_,hm⟩:=hc.dep 7 78 rfl rfl; subst hrs; exact zaP (news:=[.int .u8 kd,.int .u32 (l.getD a 0),str []]) hc.st zc4 za1 rfl rfl hrem (hc.d 5 rfl rfl rfl rfl) (evs h78 rfl) rfl (zac (n:=3) (hc.st.objL (Al (hm rfl _ Q0))) _ rfl) rfl rfl O fun w ao2 cp2 V=>⟨[_],fun g hg=>⟨_,_,rfl,rfl⟩,hX _ _ V⟩)<|RunD.fin zaw tab46 V rfl (fun f47 w R50 hs48 hd49 hr51 V=>?_)
 obtain ⟨h71_,r0⟩:=hd49 0 71 rfl rfl
 obtain ⟨h72_,r1⟩:=hd49 1 72 rfl rfl
 obtain ⟨h73_,r2⟩:=hd49 2 73 rfl rfl
 obtain ⟨h74_,r3⟩:=hd49 3 74 rfl rfl
 obtain ⟨h75_,r4⟩:=hd49 4 75 rfl rfl
 obtain ⟨h76_,r5⟩:=hd49 5 76 rfl rfl
 obtain ⟨h77_,r6⟩:=hd49 6 77 rfl rfl
 obtain ⟨b78,h78_,r7⟩:=hd49 7 78 rfl rfl
 obtain ⟨ao2,cp2,h79_,r8⟩:=hd49 8 79 rfl rfl
 simp only [rg9,Fc,Fn,Mc,Mn,r0,r1,r2,r3,r4,r5,r6,r7,r8,Na,An,Ca] at V
 refine zaz (sl:=[(5,.int .i64 _),(71,Pp _ _),(79,.slice _ _ _)]) ⟨(hs48 5 Z).trans Z,h71_,h79_,trivial⟩ ?_
 clear hs48 hd49 hr51 tab46
 refine Q<|zan Z<|Q<|zaa zbS Z<|Q<|zaa zbA Z<|Q (SO (v:=.slice _ _ _) V zc4 Z Z .u5 fun w V=>?_)
 refine NSR<|MI Z<|AI Z<|G<|zai func106 Z (TP (v:=.int .i64 _) Z) ?_
 replace V:=V.pick (.c .u5 (.c .u3 (.c .u1 .nil)))
 have e1:ags.length + 1 = (ags ++ [(⟨kd,(l.getD a 0),[]⟩:ArgP)]).length:=by simp
 have e2:ags.flatMap zdX ++ [.int .u8 kd,.int .u32 (l.getD a 0),str []] = (ags ++ [(⟨kd,(l.getD a 0),[]⟩:ArgP)]).flatMap zdX:=by simp
 rw [e1,e2] at V
 have hE:=zhL (c:=c) (ws:=l.drop a) (b:=Y) (by omega) (by rw [hlen]; omega) (by rw [hkd]; omega)
 have hd0:(l.drop a).getD 0 0 = l.getD a 0:=by simp [List.getD]
 rw [hd0,hkd] at hE
 rw [if_neg (by omega),if_neg (by omega)] at hE
 rw [hE]
 exact ⟨a + 1,ao2,cp2,ags ++ [(⟨kd,(l.getD a 0),[]⟩:ArgP)],rfl,fun _=>⟨rfl,rfl⟩,by omega,by omega,by simp,(St.pack (L1:=[_,_,_]) (L2:=[]) V)⟩
end Go.SK
namespace Go.SK
open Go Go.Proofs Go.Proofs.Tryz
theorem ty179:TyF prog 179 (.struct (zbm prog 179)) 14 136 [.int .u16 0,str [],.bool false,.bool false,str [],str [],.int .i64 0,.int .u8 0,.pointer none,.int .u32 0,.int .u16 0,.int .u32 0,.int .u32 0,.slice none 0 0]:=zbp Kr Kr
theorem stf179:zdm prog 179 [(0,8),(8,1),(9,1),(10,4)]:=⟨zbm prog 179,Kr,fun w=>Kr⟩
theorem zxH:zaG prog 106:=⟨f106,_,func106,Kr,rfl⟩
theorem zxI:zaG prog 104:=⟨f104,_,func104,Kr,rfl⟩
open Go.RowKit
theorem zu0 (op:Int) (l:List Int) (ao:Option Addr) (cp:Nat) (Y:Int) (h0:0 ≤ op) (w:World) (hA:(Res.rs ao l.length 1 (l.flatMap zci)).holds w) (hl:l.length ≤ 35184372088832):Ret prog 54 #[.agg #[.int .u16 op,.slice ao l.length cp],.int .u32 Y] w (fun v w'=>∃ ro rc,v = .tuple #[.agg #[.int .u16 (zb2 Y op l).1.op,.int .u32 (zb2 Y op l).1.ty,.int .u32 (zb2 Y op l).1.res,.slice ro (zb2 Y op l).1.args.length rc],.int .i64 (zb2 Y op l).2] ∧ St w NoM [Res.sl ro (zb2 Y op l).1.args.length rc 110 3 ((zb2 Y op l).1.args.flatMap zdX)] [] w'):=by
 refine zav (args:=[.agg #[.int .u16 op,.slice ao l.length cp],.int .u32 Y]) func54 Z Z Z ?_
 have V:St w NoM [] [Res.rs ao l.length 1 (l.flatMap zci)] w:=St.init_D hA
 clear hA
 obtain ⟨fm,hfm⟩:∃ fm,zaW op = fm:=⟨_,rfl⟩
 obtain ⟨ob,hob⟩:∃ ob,(zc6 op).isSome = ob:=⟨_,rfl⟩
 have hf:FOk fm:=hfm ▸ zfd op
 refine SR<|Q<|zbi (v:=gHL _ _ _ _) V Z Z fun w b2 V=>Q<|zar V zbo fun w b4 V=>AI Z<|G<|SQ<|SR<|Q<|zaa zeb Z<|Q<|zae (v:=.slice _ _ _) zcn Z Z (V.cellL Q1 Z)<|Q<|zaH (rest:=[]) zcn Z<|Q<|zbh Z Z<|G<|zab Z (fun g1=>?_) (fun g1=>?_)
 ·refine SR <| Q (zaf zbo zjj .nil ?_)
  refine Q (SO (v:=zbf _ _ _ _ _ _) V zbo Z Z .u0 fun w V=>?_)
  refine AI Z<|G<|zaq func54 Z (zat (vs:=zbq _ _ _ _ _ _) Z zbo Z Z (zac (n:=4) (V.objL Q0) _ Z)) (TP (v:=.int .i64 _) Z) ?_
  replace V:=V.pick .nil
  have hI:=zo9 (op:=op) (Y:=Y) (l:=l) O
  rw [hI]
  exact ⟨none,0,Z,(V.pushNil 110 3).noD⟩
 refine zag<|SR<|Q<|zaa zpd Z<|Q<|zae (v:=.int .u16 _) zlC Z Z (V.cellL Q1 Z)<|Q<|zao (v1:=.int .u16 _) zr0 Z Z<|Ret.det (zi5 h0 hfm hob _) V fun w V=>Q<|zad (v:=.tuple #[zaO _ _ _ _ _ _ _ _,.bool _]) Z<|Q<|Ex (zaO _ _ _ _ _ _ _ _) Z Z<|Q<|Ex (.bool _) Z Z<|Q<|zar V zb5 fun w b6 V=>Q (SO (v:=zaO _ _ _ _ _ _ _ _) V zb5 Z Z .u0 fun w V=>?_)
 refine AB Z<|G<|SQ<|SR<|MB Z<|Q<|zaU Z<|G<|zaQ Z (fun g2=>?_) (fun g2=>?_)
 ·refine SR <| Q (zaf zbo zjj .nil ?_)
  refine Q (SO (v:=zbf _ _ _ _ _ _) V zbo Z Z .u1 fun w V=>?_)
  refine AI Z<|G<|zaq func54 Z (zat (vs:=zbq _ _ _ _ _ _) Z zbo Z Z (zac (n:=4) (V.objL Q1) _ Z)) (TP (v:=.int .i64 _) Z) ?_
  replace V:=V.pick .nil
  have hI:=zwb (op:=op) (Y:=Y) (l:=l) (by omega) (by rw [hob]; simpa using g2)
  rw [hI]
  exact ⟨none,0,Z,(V.pushNil 110 3).noD⟩
 have hobt:ob = true:=by simpa using g2
 have hfo:fm.op = op:=by rw [← hfm]; exact (zm0 (hob.trans hobt)).2
 have hfm2:zaW fm.op = fm:=by rw [hfo]; exact hfm
 refine zag<|SQ<|zaC [] V (bs:=[0,0,2,6,0,0,32,96,255,511,1023]) (ds:=[some 24,some 25,some 26,some 27,some 28,some 29,some 30,some 31,some 32,some 33,some 8]) ⟨Kr,Kr,Kr⟩ (fun tab3=>?_)
 refine DO tab3 1 (fun _ _ _ hc=>zay (vs:=zbz _ _ _ _ _ _ _ _) zb5 rfl (hc.old (v:=Pp _ _) rfl rfl rfl) rfl (zac (n:=8) (hc.st.objL (Ar Q0)) _ rfl) hc.z)<|DO tab3 2 (fun _ _ _ hc=>zaa zeb (hc.old (v:=Pp _ _) rfl rfl rfl) hc.z)<|DO tab3 3 (fun _ _ _ hc=>zae (v:=.slice _ _ _) zcn rfl (hc.d 1 rfl rfl rfl rfl) (hc.st.cellL (Ar Q2) rfl) hc.z)<|RunD.op (fun v rs=>∃ b ro rc,v = .pointer (some ⟨b,0,none⟩) ∧ rs = [RdR 228 22 b ro rc l 0]) tab3 4 (fun _ _ _ hc=>zao (v1:=.slice _ _ _) zxJ rfl (hc.d 2 rfl rfl rfl rfl) ((zqU l _ _ _ (hc.st.hD _ Q0) hl).mono fun v w hp=>(by obtain ⟨b,ro,rc,rfl,hp⟩:=hp; exact ⟨_,⟨b,ro,rc,rfl,rfl⟩,hc.st.call0 hp⟩)))<|DO tab3 5 (fun _ _ _ hc=>zad (v:=.int .u32 _) (hc.old rfl rfl rfl) hc.z)<|DO tab3 6 (fun _ _ _ hc=>zaa zpd (hc.old (v:=Pp _ _) rfl rfl rfl) hc.z)<|DO tab3 7 (fun _ _ _ hc=>zae (v:=.int .u16 _) zlC rfl (hc.d 5 rfl rfl rfl rfl) (hc.st.cellL (Ar Q2) rfl) hc.z)<|DO tab3 8 (fun _ _ _ hc=>zaf zbo zjj (.c (v:=.int .u16 _) (hc.d 6 rfl rfl rfl rfl) (h:=.nil)) hc.z) ?_
 refine RunD.fin zaw tab3 V Z (fun f4 w R7 hs5 hd6 hr8 V=>?_)
 obtain ⟨h24_,r0⟩:=hd6 0 24 rfl rfl
 obtain ⟨h25_,r1⟩:=hd6 1 25 rfl rfl
 obtain ⟨h26_,r2⟩:=hd6 2 26 rfl rfl
 obtain ⟨bR,aR,cR,h27_,r3⟩:=hd6 3 27 rfl rfl
 obtain ⟨h28_,r4⟩:=hd6 4 28 rfl rfl
 obtain ⟨h29_,r5⟩:=hd6 5 29 rfl rfl
 obtain ⟨h30_,r6⟩:=hd6 6 30 rfl rfl
 obtain ⟨h31_,r7⟩:=hd6 7 31 rfl rfl
 simp only [rg8,Fc,Fn,Mc,Mn,r0,r1,r2,r3,r4,r5,r6,r7,Na,An,Ca] at V
 refine zaz (sl:=[(4,Pp _ _),(6,Pp _ _),(24,zaO _ _ _ _ _ _ _ _),(27,Pp _ _),(28,.int .u32 _),(31,zbf _ _ _ _ _ _)]) ⟨(hs5 4 Z).trans Z,(hs5 6 Z).trans Z,h24_,h27_,h28_,h31_,trivial⟩ ?_
 clear hs5 hd6 hr8 tab3
 refine Q (zaf ty179 stf179 (.c (v:=zaO _ _ _ _ _ _ _ _) Z (h:=(.c (v:=Pp _ _) Z (h:=(.c (v:=.int .u32 _) Z (h:=(.c (v:=zbf _ _ _ _ _ _) Z (h:=.nil)))))))) ?_)
 refine Q<|zbi (v:=.agg #[.int .u16 _,str _,.bool _,.bool _,str _,str _,.int .i64 _,.int .u8 _,.pointer _,.int .u32 _,.int .u16 _,.int .u32 _,.int .u32 _,.slice _ _ _]) V Z Z fun w b33 V=>AP Z<|G<|zaj [(4,Pp _ _),(6,Pp _ _),(8,Pp _ _)] E3 fun f=>SQ ?_
 replace V:=V.pushNil 110 3
 replace V:St _ _ (Res.sl none 0 0 110 3 ([].flatMap zdX) :: _) _ _:=V
 refine RG<|AI Z<|G<|SQ ?_
 replace V:=V.pick (.c .u1 (.c .u1 (.k4 .nil)))
 refine zfr (L1:=[_,_]) [(4,Pp _ _),(6,Pp _ _),(8,Pp _ _)] V E3 (fun (q:Nat × Int × Int)=>[(9,.int .i64 q.2.2)]) (fun (q:Nat × Int × Int)=>[Res.row b33 179 [.int .u16 fm.op,str fm.name,.bool fm.ty,.bool fm.res,str fm.fixed,str fm.rest,.int .i64 fm.most,.int .u8 fm.part,.pointer (some ⟨bR,0,none⟩),.int .u32 Y,.int .u16 op,.int .u32 q.2.1,.int .u32 0,.slice none 0 0],RdR 228 22 bR aR cR l q.1]) (fun (q:Nat × Int × Int)=>H1 fm l Y q.1 q.2.1 q.2.2) (fun ⟨a1,ty1,e1⟩ f w V hJ1=>?_) (fun cut9=>?_)
 replace V:St _ _ ([Res.row b33 179 [.int .u16 fm.op,str fm.name,.bool fm.ty,.bool fm.res,str fm.fixed,str fm.rest,.int .i64 fm.most,.int .u8 fm.part,.pointer (some ⟨bR,0,none⟩),.int .u32 Y,.int .u16 op,.int .u32 ty1,.int .u32 0,.slice none 0 0],RdR 228 22 bR aR cR l a1] ++ [_,_,_,_]) _ _:=V
 replace hJ1:H1 fm l Y a1 ty1 e1:=hJ1
 refine za6 (sl:=[(9,.int .i64 e1)]) ⟨Z,trivial⟩ ?_
 ·refine SQ <| zfr (L1 := [_, _]) [(4, Pp _ _), (6, Pp _ _), (8, Pp _ _)] V E3 (fun (q : Nat × Int × Int) => [(9, .int .i64 q.2.2)]) (fun (q : Nat × Int × Int) => [Res.row b33 179 [.int .u16 fm.op, str fm.name, .bool fm.ty, .bool fm.res, str fm.fixed, str fm.rest, .int .i64 fm.most, .int .u8 fm.part, .pointer (some ⟨bR, 0, none⟩), .int .u32 Y, .int .u16 op, .int .u32 ty1, .int .u32 q.2.1, .slice none 0 0], RdR 228 22 bR aR cR l q.1]) (fun (q : Nat × Int × Int) => H2 fm l Y q.1 ty1 q.2.1 q.2.2) (fun ⟨a3, zrs, e3⟩ f w V hJ2 => ?_) (fun cut11 => ?_)
  replace V:St _ _ ([Res.row b33 179 [.int .u16 fm.op,str fm.name,.bool fm.ty,.bool fm.res,str fm.fixed,str fm.rest,.int .i64 fm.most,.int .u8 fm.part,.pointer (some ⟨bR,0,none⟩),.int .u32 Y,.int .u16 op,.int .u32 ty1,.int .u32 zrs,.slice none 0 0],RdR 228 22 bR aR cR l a3] ++ [_,_,_,_]) _ _:=V
  replace hJ2:H2 fm l Y a3 ty1 zrs e3:=hJ2
  refine za6 (sl:=[(9,.int .i64 e3)]) ⟨Z,trivial⟩ ?_
  ·refine SQ <| zak <| zaY <| zaZ [(4, Pp _ _), (6, Pp _ _), (8, Pp _ _)] E3 (fun (q : Nat × Int × Option Addr × Nat × List ArgP) => [(9, .int .i64 q.2.1)]) (fun (q : Nat × Int × Option Addr × Nat × List ArgP) => [Res.row b33 179 [.int .u16 fm.op, str fm.name, .bool fm.ty, .bool fm.res, str fm.fixed, str fm.rest, .int .i64 fm.most, .int .u8 fm.part, .pointer (some ⟨bR, 0, none⟩), .int .u32 Y, .int .u16 op, .int .u32 ty1, .int .u32 zrs, .slice q.2.2.1 q.2.2.2.2.length q.2.2.2.1], RdR 228 22 bR aR cR l q.1, Res.sl q.2.2.1 q.2.2.2.2.length q.2.2.2.1 110 3 (q.2.2.2.2.flatMap zdX)]) (fun (q : Nat × Int × Option Addr × Nat × List ArgP) => A1 fm l Y q.1 q.2.1 q.2.2.2.2) (fun (q : Nat × Int × Option Addr × Nat × List ArgP) => A1mu l.length q.1 q.2.1) ((a3, e3, none, 0, [])) V (A1.start hJ2) ⟨Z, trivial⟩ ?_
   intro ⟨a,e,aa,ca,ags⟩ f w V hK ih13
   replace V:St _ _ ([Res.row b33 179 [.int .u16 fm.op,str fm.name,.bool fm.ty,.bool fm.res,str fm.fixed,str fm.rest,.int .i64 fm.most,.int .u8 fm.part,.pointer (some ⟨bR,0,none⟩),.int .u32 Y,.int .u16 op,.int .u32 ty1,.int .u32 zrs,.slice aa ags.length ca],RdR 228 22 bR aR cR l a,Res.sl aa ags.length ca 110 3 (ags.flatMap zdX)] ++ [_,_,_]) _ _:=V
   replace hK:A1 fm l Y a e ags:=hK
   refine za6 (sl:=[(9,.int .i64 e)]) ⟨Z,trivial⟩<|SQ<|SQ<|zaC [] V (bs:=[0,1,3,7,15,31,63,127,255,511,1023,2047,4095,8191,16383,32767,1023,66559,197631,524287,1048575,2097151]) (ds:=[some 60,some 61,some 62,some 63,some 64,some 65,some 66,some 67,some 68,some 69,some 70,some 71,some 72,some 73,some 74,some 75,some 76,some 77,some 78,some 79,some 80,some 81]) ⟨Kr,Kr,Kr⟩ (fun tab14=>?_)
   refine DO tab14 1 (fun _ _ _ hc=>zad (v:=.int .i64 _) (hc.old Z Z Z) hc.z)<|DO tab14 2 (fun _ _ _ hc=>zam (hc.d 0 Z Z Z Z) Z hc.z)<|DO tab14 3 (fun _ _ _ hc=>zad (v:=.bool _) (hc.d 1 Z Z Z Z) hc.z)<|zef (j:=2) Z (fun g15=>?_) (fun g15=>?_)
   ·refine RunD.take (det _) tab14 4 Z (fun _ _ _ hc=>(hc.d 2 Z Z Z Z).trans (Vb (Dt g15))) (fun _ _ _ hc=>zad (v := Pp _ _) (hc.old Z Z Z) hc.z) <| RunD.take (det _) tab14 5 Z (fun _ _ _ hc=>(hc.d 2 Z Z Z Z).trans (Vb (Dt g15))) (fun _ _ _ hc=>zan (hc.d 3 Z Z Z Z) hc.z) <| RunD.take (det _) tab14 6 Z (fun _ _ _ hc=>(hc.d 2 Z Z Z Z).trans (Vb (Dt g15))) (fun _ _ _ hc=>zaa zhy (hc.d 4 Z Z Z Z) hc.z) <| RunD.take (det _) tab14 7 Z (fun _ _ _ hc=>(hc.d 2 Z Z Z Z).trans (Vb (Dt g15))) (fun _ _ _ hc=>zae (v := Pp _ _) zko Z (hc.d 5 Z Z Z Z) (hc.st.cellL (Ar Q0) Z) hc.z) <| RunD.take (det _) tab14 8 Z (fun _ _ _ hc=>(hc.d 2 Z Z Z Z).trans (Vb (Dt g15))) (fun _ _ _ hc=>zao (v1 := Pp _ _) znL Z (hc.d 6 Z Z Z Z) ((zf2 bR _ _ l a _ (hc.st.hL _ (Ar Q1)) hl hK.1).mono fun v w hp => ⟨[], ⟨hp.1, Z⟩, hc.st.keepc hp.2⟩)) <| RunD.take (det _) tab14 9 Z (fun _ _ _ hc=>(hc.d 2 Z Z Z Z).trans (Vb (Dt g15))) (fun _ _ _ hc=>zbI (hc.d 7 Z Z Z Z) Z hc.z) <| RunD.take (det _) tab14 10 Z (fun _ _ _ hc=>(hc.d 2 Z Z Z Z).trans (Vb (Dt g15))) (fun _ _ _ hc => zad (v := .bool _) (hc.d 8 Z Z Z Z) hc.z) <| zef (j := 9) Z (fun g16 => ?_) (fun g16 => ?_)
    ·refine zaX tab14 11 Z Z (fun _ _ _ hc=>(hc.d 9 Z Z Z Z).trans (Vb (Dt g16))) <| zaX tab14 12 Z Z (fun _ _ _ hc=>(hc.d 9 Z Z Z Z).trans (Vb (Dt g16))) <| zaX tab14 13 Z Z (fun _ _ _ hc=>(hc.d 9 Z Z Z Z).trans (Vb (Dt g16))) <| zaX tab14 14 Z Z (fun _ _ _ hc=>(hc.d 9 Z Z Z Z).trans (Vb (Dt g16))) <| zaX tab14 15 Z Z (fun _ _ _ hc=>(hc.d 9 Z Z Z Z).trans (Vb (Dt g16))) <| zaX tab14 16 Z Z (fun _ _ _ hc=>(hc.d 9 Z Z Z Z).trans (Vb (Dt g16))) <| zaX tab14 17 Z Z (fun _ _ _ hc=>(hc.d 9 Z Z Z Z).trans (Vb (Dt g16))) <| zaX tab14 18 Z Z (fun _ _ _ hc=>(hc.d 9 Z Z Z Z).trans (Vb (Dt g16))) <| zaX tab14 19 Z Z (fun _ _ _ hc => (hc.d 9 Z Z Z Z).trans (Vb (Dt g16))) <| RunD.fin zaw tab14 V Z (fun f17 w R20 hs18 hd19 hr21 V => ?_)
     obtain ⟨h60_,r0⟩:=hd19 0 60 rfl rfl
     obtain ⟨h61_,r1⟩:=hd19 1 61 rfl rfl
     obtain ⟨h62_,r2⟩:=hd19 2 62 rfl rfl
     obtain ⟨h63_,r3⟩:=hd19 3 63 rfl rfl
     obtain ⟨h64_,r4⟩:=hd19 4 64 rfl rfl
     obtain ⟨h65_,r5⟩:=hd19 5 65 rfl rfl
     obtain ⟨h66_,r6⟩:=hd19 6 66 rfl rfl
     obtain ⟨h67_,r7⟩:=hd19 7 67 rfl rfl
     obtain ⟨h68_,r8⟩:=hd19 8 68 rfl rfl
     obtain ⟨h69_,r9⟩:=hd19 9 69 rfl rfl
     obtain ⟨h70_,r10⟩:=hd19 10 70 rfl rfl
     obtain ⟨h71_,r11⟩:=hd19 11 71 rfl rfl
     obtain ⟨h72_,r12⟩:=hd19 12 72 rfl rfl
     obtain ⟨h73_,r13⟩:=hd19 13 73 rfl rfl
     obtain ⟨h74_,r14⟩:=hd19 14 74 rfl rfl
     obtain ⟨h75_,r15⟩:=hd19 15 75 rfl rfl
     obtain ⟨h76_,r16⟩:=hd19 16 76 rfl rfl
     obtain ⟨h77_,r17⟩:=hd19 17 77 rfl rfl
     obtain ⟨h78_,r18⟩:=hd19 18 78 rfl rfl
     simp only [rg19,Fc,Fn,Mc,Mn,r0,r1,r2,r3,r4,r5,r6,r7,r8,r9,r10,r11,r12,r13,r14,r15,r16,r17,r18,Na,An,Ca] at V
     refine zaz (sl:=[(4,Pp _ _),(6,Pp _ _),(8,Pp _ _),(9,.int .i64 _),(62,.bool _),(69,.bool _),(75,_),(78,_)]) ⟨(hs18 4 Z).trans Z,(hs18 6 Z).trans Z,(hs18 8 Z).trans Z,(hs18 9 Z).trans Z,h62_,h69_,h75_,h78_,trivial⟩ ?_
     clear hs18 hd19 hr21 tab14
     refine OM (t:=69) Z (Vb (Dt g16)) Z<|TK (t:=62) Z (Vb (Dt g15))<|zaB (u:=.bool _) (Vb (Dt g16)) Z<|Q<|zaB (u:=.bool _) (Vb (Dt g15)) Z<|G<|zas (Vb (Z:true = _))<|zag<|zak<|RG<|MP Z ?_
     obtain rfl:e = 0:=by omega
     have hnl:ags.length ≤ 1000000:=by have:=hK.2.1; have:=hK.1; omega
     replace V:=V.pick (.k6 .nil)
     replace V:St _ _ (RdC 179 228 22 110 b33 fm bR Y op ty1 zrs aa ca ags aR cR l a :: _) _ _:=V.pack (L1:=[_,_,_])
     refine Q (zao (v1:=Pp _ _) zxH Z Z ((zqY b33 fm bR Y op ty1 zrs aa ca ags aR cR l a _ hfm2 Z _ (V.hL _ Q0) hl hK.1 hnl).mono fun v w hp=>?_))
     obtain ⟨a2,aa2,ca2,ags2,rfl,hE,ha2,hle,hn2,hp⟩:=hp
     replace V:St _ _ (RdC 179 228 22 110 b33 fm bR Y op ty1 zrs aa2 ca2 ags2 aR cR l a2 :: _) _ _:=V.call1 hp
     replace V:St _ _ (_ :: _ :: _ :: _) _ _:=V.unpack
     refine AI Z<|G<|zah<|zaD ?_
     have hgo:l.length - a > 0 ∨ ags.length < fm.fixed.length:=by omega
     have hst2:=hK.step rfl hgo hE ha2 hn2 (.inl hle)
     exact ih13 ((a2,(zeL (zaJ fm (ags.length:Int)) (l.drop a) Y).2.2,aa2,ca2,ags2)) _ w (A1mu.step fun he=>⟨by (try dsimp only at he); have:=(hE he).1; have:=(zg2 he).1; omega,ha2⟩) V (hst2) E3 ⟨rfl,trivial⟩
    refine RunD.take (det _) tab14 11 Z (fun _ _ _ hc=>(hc.d 9 Z Z Z Z).trans (Vb (Df g16))) (fun _ _ _ hc=>zad (v:=Pp _ _) (hc.old Z Z Z) hc.z)<|RunD.take (det _) tab14 12 Z (fun _ _ _ hc=>(hc.d 9 Z Z Z Z).trans (Vb (Df g16))) (fun _ _ _ hc=>zan (hc.d 10 Z Z Z Z) hc.z)<|RunD.take (det _) tab14 13 Z (fun _ _ _ hc=>(hc.d 9 Z Z Z Z).trans (Vb (Df g16))) (fun _ _ _ hc=>zaa zbS (hc.d 11 Z Z Z Z) hc.z)<|RunD.take (det _) tab14 14 Z (fun _ _ _ hc=>(hc.d 9 Z Z Z Z).trans (Vb (Df g16))) (fun _ _ _ hc=>zaa zbA (hc.d 12 Z Z Z Z) hc.z)<|RunD.take (det _) tab14 15 Z (fun _ _ _ hc=>(hc.d 9 Z Z Z Z).trans (Vb (Df g16))) (fun _ _ _ hc=>zae (v:=.slice _ _ _) zc4 Z (hc.d 13 Z Z Z Z) (hc.st.cellL (Ar Q0) Z) hc.z)<|RunD.take (det _) tab14 16 Z (fun _ _ _ hc=>(hc.d 9 Z Z Z Z).trans (Vb (Df g16))) (fun _ _ _ hc=>zaH (rest:=[]) zc4 (hc.d 14 Z Z Z Z) hc.z)<|RunD.take (det _) tab14 17 Z (fun _ _ _ hc=>(hc.d 9 Z Z Z Z).trans (Vb (Df g16))) (fun _ _ _ hc=>zaa zhA (hc.old (v:=Pp _ _) Z Z Z) hc.z)<|RunD.take (det _) tab14 18 Z (fun _ _ _ hc=>(hc.d 9 Z Z Z Z).trans (Vb (Df g16))) (fun _ _ _ hc=>zae (v:=str _) ty9 Z (hc.d 16 Z Z Z Z) (hc.st.cellL (Ar Q3) Z) hc.z)<|RunD.take (det _) tab14 19 Z (fun _ _ _ hc=>(hc.d 9 Z Z Z Z).trans (Vb (Df g16))) (fun _ _ _ hc=>zbb (rest:=[]) ty9 (hc.d 17 Z Z Z Z) hc.z)<|RunD.fin zaw tab14 V Z (fun f22 w R25 hs23 hd24 hr26 V=>?_)
    obtain ⟨h60_,r0⟩:=hd24 0 60 rfl rfl
    obtain ⟨h61_,r1⟩:=hd24 1 61 rfl rfl
    obtain ⟨h62_,r2⟩:=hd24 2 62 rfl rfl
    obtain ⟨h63_,r3⟩:=hd24 3 63 rfl rfl
    obtain ⟨h64_,r4⟩:=hd24 4 64 rfl rfl
    obtain ⟨h65_,r5⟩:=hd24 5 65 rfl rfl
    obtain ⟨h66_,r6⟩:=hd24 6 66 rfl rfl
    obtain ⟨h67_,r7⟩:=hd24 7 67 rfl rfl
    obtain ⟨h68_,r8⟩:=hd24 8 68 rfl rfl
    obtain ⟨h69_,r9⟩:=hd24 9 69 rfl rfl
    obtain ⟨h70_,r10⟩:=hd24 10 70 rfl rfl
    obtain ⟨h71_,r11⟩:=hd24 11 71 rfl rfl
    obtain ⟨h72_,r12⟩:=hd24 12 72 rfl rfl
    obtain ⟨h73_,r13⟩:=hd24 13 73 rfl rfl
    obtain ⟨h74_,r14⟩:=hd24 14 74 rfl rfl
    obtain ⟨h75_,r15⟩:=hd24 15 75 rfl rfl
    obtain ⟨h76_,r16⟩:=hd24 16 76 rfl rfl
    obtain ⟨h77_,r17⟩:=hd24 17 77 rfl rfl
    obtain ⟨h78_,r18⟩:=hd24 18 78 rfl rfl
    simp only [rg19,Fc,Fn,Mc,Mn,r0,r1,r2,r3,r4,r5,r6,r7,r8,r9,r10,r11,r12,r13,r14,r15,r16,r17,r18,Na,An,Ca] at V
    refine zaz (sl:=[(4,Pp _ _),(6,Pp _ _),(8,Pp _ _),(9,.int .i64 _),(62,.bool _),(69,.bool _),(75,.int .i64 _),(78,.int .i64 _)]) ⟨(hs23 4 Z).trans Z,(hs23 6 Z).trans Z,(hs23 8 Z).trans Z,(hs23 9 Z).trans Z,h62_,h69_,h75_,h78_,trivial⟩ ?_
    clear hs23 hd24 hr26 tab14
    refine TK (t:=69) Z (Vb (Df g16))<|zaN Z Z<|TK (t:=62) Z (Vb (Dt g15))<|zax (u:=.bool _) (Vb (Df g16)) Z<|Q<|zaB (u:=.bool _) (Vb (Dt g15)) Z<|G<|zaj [(4,Pp _ _),(6,Pp _ _),(8,Pp _ _),(9,.int .i64 _),(81,.bool _)] E5 fun f=>zab Z (fun g27=>?_) (fun g27=>?_)
    ·refine zag <| zak <| RG <| MP Z ?_
     obtain rfl:e = 0:=by omega
     have hnl:ags.length ≤ 1000000:=by have:=hK.2.1; have:=hK.1; omega
     replace V:=V.pick (.k6 .nil)
     replace V:St _ _ (RdC 179 228 22 110 b33 fm bR Y op ty1 zrs aa ca ags aR cR l a :: _) _ _:=V.pack (L1:=[_,_,_])
     refine Q (zao (v1:=Pp _ _) zxH Z Z ((zqY b33 fm bR Y op ty1 zrs aa ca ags aR cR l a _ hfm2 Z _ (V.hL _ Q0) hl hK.1 hnl).mono fun v w hp=>?_))
     obtain ⟨a2,aa2,ca2,ags2,rfl,hE,ha2,hle,hn2,hp⟩:=hp
     replace V:St _ _ (RdC 179 228 22 110 b33 fm bR Y op ty1 zrs aa2 ca2 ags2 aR cR l a2 :: _) _ _:=V.call1 hp
     replace V:St _ _ (_ :: _ :: _ :: _) _ _:=V.unpack
     refine AI Z<|G<|zah<|zaD ?_
     have hgo:l.length - a > 0 ∨ ags.length < fm.fixed.length:=by omega
     have hst2:=hK.step rfl hgo hE ha2 hn2 (.inl hle)
     exact ih13 ((a2,(zeL (zaJ fm (ags.length:Int)) (l.drop a) Y).2.2,aa2,ca2,ags2)) _ w (A1mu.step fun he=>⟨by (try dsimp only at he); have:=(hE he).1; have:=(zg2 he).1; omega,ha2⟩) V (hst2) E3 ⟨rfl,trivial⟩
    refine zaK (id:=0) Z<|SQ<|SR<|MI Z<|Q<|zam Z Z<|G<|zab Z (fun g28=>?_) (fun g28=>?_)
    ·obtain rfl : e = 0 := by omega
     have hstop:=hK.stop O O
     have hn9:ags.length ≤ 9000000000000:=by have:=hK.2.1; have:=hK.1; omega
     refine zaC [] V (bs:=[0,0,2,6,14,30,63,127]) (ds:=[some 86,some 87,some 88,some 89,some 90,some 91,some 92,some 9]) ⟨Kr,Kr,Kr⟩ (fun tab29=>?_)
     refine DO tab29 1 (fun _ _ _ hc=>zay (vs:=zbz _ _ _ _ _ _ _ _) zb5 Z (hc.old (v:=Pp _ _) Z Z Z) Z (zac (n:=8) (hc.st.objL (Ar Q3)) _ Z) hc.z)<|DO tab29 2 (fun _ _ _ hc=>zad (v:=Pp _ _) (hc.old Z Z Z) hc.z)<|DO tab29 3 (fun _ _ _ hc=>zan (hc.d 1 Z Z Z Z) hc.z)<|DO tab29 4 (fun _ _ _ hc=>zaa zbS (hc.d 2 Z Z Z Z) hc.z)<|DO tab29 5 (fun _ _ _ hc=>zaa zbA (hc.d 3 Z Z Z Z) hc.z)<|DO tab29 6 (fun _ _ _ hc=>zae (v:=.slice _ _ _) zc4 Z (hc.d 4 Z Z Z Z) (hc.st.cellL (Ar Q0) Z) hc.z)<|RunD.fin zaw tab29 V Z (fun f30 w R33 hs31 hd32 hr34 V=>?_)
     obtain ⟨h86_,r0⟩:=hd32 0 86 rfl rfl
     obtain ⟨h87_,r1⟩:=hd32 1 87 rfl rfl
     obtain ⟨h88_,r2⟩:=hd32 2 88 rfl rfl
     obtain ⟨h89_,r3⟩:=hd32 3 89 rfl rfl
     obtain ⟨h90_,r4⟩:=hd32 4 90 rfl rfl
     obtain ⟨h91_,r5⟩:=hd32 5 91 rfl rfl
     simp only [rg6,Fc,Fn,Mc,Mn,r0,r1,r2,r3,r4,r5,Na,An,Ca] at V
     refine zaz (sl:=[(4,Pp _ _),(8,Pp _ _),(86,zaO _ _ _ _ _ _ _ _),(91,.slice _ _ _)]) ⟨(hs31 4 Z).trans Z,(hs31 8 Z).trans Z,h86_,h91_,trivial⟩ ?_
     clear hs31 hd32 hr34 tab29
     refine Q<|zaE (v1:=zaO _ _ _ _ _ _ _ _) (v2:=.slice _ _ _) zyu Z Z Z<|Ret.det (zih fm hf ags _ _ _ (Res.rs_of_sl (V.hL _ Q2)) hn9) V fun w V=>AI Z<|G<|SQ<|SR<|MI Z<|Q<|zaF Z Z<|G<|zab Z (fun g35=>?_) (fun g35=>?_)
     ·refine SR <| Q (zaf zbo zjj .nil ?_)
      refine MI Z<|Q (SO (v:=zbf _ _ _ _ _ _) V zbo Z Z .u4 fun w V=>?_)
      refine AI Z<|G<|zaq func54 Z (zat (vs:=zbq _ _ _ _ _ _) Z zbo Z Z (zac (n:=4) (V.objL Q4) _ Z)) (TP (v:=.int .i64 _) Z) ?_
      replace V:=V.pick .nil
      have hI:=zjE (op:=op) (Y:=Y) (l:=l) (e:=zdG fm.op ags) (by omega) (by rw [hob]; simpa using g2) (by rw [hfm]; exact hstop.2) (by rw [hfm,← hstop.1,hfo]) g35
      rw [hI]
      exact ⟨none,0,Z,(V.pushNil 110 3).noD⟩
     refine zag<|SR<|MP Z<|Q<|zan Z<|Q<|zaa zbS Z<|Q<|zay (vs:=zbq _ _ _ _ _ _) zbo Z Z Z (zac (n:=4) (V.objL Q0) _ Z)<|Q (SO (v:=zbf _ _ _ _ _ _) V zbo Z Z .u4 fun w V=>?_)
     refine AI Z<|G<|zaq func54 Z (zat (vs:=zbq _ _ _ _ _ _) Z zbo Z Z (zac (n:=4) (V.objL Q4) _ Z)) (TP (v:=.int .i64 _) Z) ?_
     replace V:=V.pick (.c .u2 .nil)
     have hI:=zqr (op:=op) (Y:=Y) (l:=l) (by omega) (by rw [hob]; simpa using g2) (by rw [hfm]; exact hstop.2) (by rw [hfm,← hstop.1,← hfo]; exact Nn g35)
     rw [hfm,← hstop.1] at hI
     rw [hI]
     have hT:=(hJ2.2.1 (hJ2.zero hstop.2)).2.2
     rw [← hT.1,← hT.2]
     exact ⟨aa,ca,Z,V.noD⟩
    refine zag<|SQ<|SR<|MI Z<|Q<|zaF Z Z<|G<|zab Z (fun g36=>?_) (fun g36=>?_)
    ·refine SR <| Q (zaf zbo zjj .nil ?_)
     refine MI Z<|Q (SO (v:=zbf _ _ _ _ _ _) V zbo Z Z .u4 fun w V=>?_)
     refine AI Z<|G<|zaq func54 Z (zat (vs:=zbq _ _ _ _ _ _) Z zbo Z Z (zac (n:=4) (V.objL Q4) _ Z)) (TP (v:=.int .i64 _) Z) ?_
     replace V:=V.pick .nil
     have hI:=znp (op:=op) (Y:=Y) (l:=l) (e:=e) (by omega) (by rw [hob]; simpa using g2) (by rw [hfm]; exact hK.2.2.2 g28) g28
     rw [hI]
     exact ⟨none,0,Z,(V.pushNil 110 3).noD⟩
    exfalso
    omega
   refine zaX tab14 4 Z Z (fun _ _ _ hc=>(hc.d 2 Z Z Z Z).trans (Vb (Df g15)))<|zaX tab14 5 Z Z (fun _ _ _ hc=>(hc.d 2 Z Z Z Z).trans (Vb (Df g15)))<|zaX tab14 6 Z Z (fun _ _ _ hc=>(hc.d 2 Z Z Z Z).trans (Vb (Df g15)))<|zaX tab14 7 Z Z (fun _ _ _ hc=>(hc.d 2 Z Z Z Z).trans (Vb (Df g15)))<|zaX tab14 8 Z Z (fun _ _ _ hc=>(hc.d 2 Z Z Z Z).trans (Vb (Df g15)))<|zaX tab14 9 Z Z (fun _ _ _ hc=>(hc.d 2 Z Z Z Z).trans (Vb (Df g15)))<|zaX tab14 10 Z Z (fun _ _ _ hc=>(hc.d 2 Z Z Z Z).trans (Vb (Df g15)))<|zcE tab14 11 Z (fun _ _ _ hc=>hc.d 9 Z Z Z Z)<|zcE tab14 12 Z (fun _ _ _ hc=>hc.d 9 Z Z Z Z)<|zcE tab14 13 Z (fun _ _ _ hc=>hc.d 9 Z Z Z Z)<|zcE tab14 14 Z (fun _ _ _ hc=>hc.d 9 Z Z Z Z)<|zcE tab14 15 Z (fun _ _ _ hc=>hc.d 9 Z Z Z Z)<|zcE tab14 16 Z (fun _ _ _ hc=>hc.d 9 Z Z Z Z)<|zcE tab14 17 Z (fun _ _ _ hc=>hc.d 9 Z Z Z Z)<|zcE tab14 18 Z (fun _ _ _ hc=>hc.d 9 Z Z Z Z) ?_
   refine zcE tab14 19 Z (fun _ _ _ hc=>hc.d 9 Z Z Z Z)<|RunD.fin zaw tab14 V Z (fun f37 w R40 hs38 hd39 hr41 V=>?_)
   obtain ⟨h60_,r0⟩:=hd39 0 60 rfl rfl
   obtain ⟨h61_,r1⟩:=hd39 1 61 rfl rfl
   obtain ⟨h62_,r2⟩:=hd39 2 62 rfl rfl
   obtain ⟨h63_,r3⟩:=hd39 3 63 rfl rfl
   obtain ⟨h64_,r4⟩:=hd39 4 64 rfl rfl
   obtain ⟨h65_,r5⟩:=hd39 5 65 rfl rfl
   obtain ⟨h66_,r6⟩:=hd39 6 66 rfl rfl
   obtain ⟨h67_,r7⟩:=hd39 7 67 rfl rfl
   obtain ⟨h68_,r8⟩:=hd39 8 68 rfl rfl
   obtain ⟨h69_,r9⟩:=hd39 9 69 rfl rfl
   obtain ⟨h70_,r10⟩:=hd39 10 70 rfl rfl
   obtain ⟨h71_,r11⟩:=hd39 11 71 rfl rfl
   obtain ⟨h72_,r12⟩:=hd39 12 72 rfl rfl
   obtain ⟨h73_,r13⟩:=hd39 13 73 rfl rfl
   obtain ⟨h74_,r14⟩:=hd39 14 74 rfl rfl
   obtain ⟨h75_,r15⟩:=hd39 15 75 rfl rfl
   obtain ⟨h76_,r16⟩:=hd39 16 76 rfl rfl
   obtain ⟨h77_,r17⟩:=hd39 17 77 rfl rfl
   obtain ⟨h78_,r18⟩:=hd39 18 78 rfl rfl
   simp only [rg19,Fc,Fn,Mc,Mn,r0,r1,r2,r3,r4,r5,r6,r7,r8,r9,r10,r11,r12,r13,r14,r15,r16,r17,r18,Na,An,Ca] at V
   refine zaz (sl:=[(4,Pp _ _),(6,Pp _ _),(8,Pp _ _),(9,.int .i64 _),(62,.bool _),(69,_),(75,_),(78,_)]) ⟨(hs38 4 Z).trans Z,(hs38 6 Z).trans Z,(hs38 8 Z).trans Z,(hs38 9 Z).trans Z,h62_,h69_,h75_,h78_,trivial⟩ ?_
   clear hs38 hd39 hr41 tab14
   refine zaL (t:=69) Z Z<|OM (t:=62) Z (Vb (Df g15)) Z<|Q<|zax (u:=.bool _) (Vb (Df g15)) Z<|G<|zal (Vb (Z:false = _))<|zaK (id:=0) Z<|SQ<|SR<|MI Z<|Q<|zam Z Z<|G<|zab Z (fun g42=>?_) (fun g42=>?_)
   ·obtain rfl : e = 0 := by omega
    have hstop:=hK.stop O O
    have hn9:ags.length ≤ 9000000000000:=by have:=hK.2.1; have:=hK.1; omega
    refine zaC [] V (bs:=[0,0,2,6,14,30,63,127]) (ds:=[some 86,some 87,some 88,some 89,some 90,some 91,some 92,some 9]) ⟨Kr,Kr,Kr⟩ (fun tab43=>?_)
    refine DO tab43 1 (fun _ _ _ hc=>zay (vs:=zbz _ _ _ _ _ _ _ _) zb5 Z (hc.old (v:=Pp _ _) Z Z Z) Z (zac (n:=8) (hc.st.objL (Ar Q3)) _ Z) hc.z)<|DO tab43 2 (fun _ _ _ hc=>zad (v:=Pp _ _) (hc.old Z Z Z) hc.z)<|DO tab43 3 (fun _ _ _ hc=>zan (hc.d 1 Z Z Z Z) hc.z)<|DO tab43 4 (fun _ _ _ hc=>zaa zbS (hc.d 2 Z Z Z Z) hc.z)<|DO tab43 5 (fun _ _ _ hc=>zaa zbA (hc.d 3 Z Z Z Z) hc.z)<|DO tab43 6 (fun _ _ _ hc=>zae (v:=.slice _ _ _) zc4 Z (hc.d 4 Z Z Z Z) (hc.st.cellL (Ar Q0) Z) hc.z)<|RunD.fin zaw tab43 V Z (fun f44 w R47 hs45 hd46 hr48 V=>?_)
    obtain ⟨h86_,r0⟩:=hd46 0 86 rfl rfl
    obtain ⟨h87_,r1⟩:=hd46 1 87 rfl rfl
    obtain ⟨h88_,r2⟩:=hd46 2 88 rfl rfl
    obtain ⟨h89_,r3⟩:=hd46 3 89 rfl rfl
    obtain ⟨h90_,r4⟩:=hd46 4 90 rfl rfl
    obtain ⟨h91_,r5⟩:=hd46 5 91 rfl rfl
    simp only [rg6,Fc,Fn,Mc,Mn,r0,r1,r2,r3,r4,r5,Na,An,Ca] at V
    refine zaz (sl:=[(4,Pp _ _),(8,Pp _ _),(86,zaO _ _ _ _ _ _ _ _),(91,.slice _ _ _)]) ⟨(hs45 4 Z).trans Z,(hs45 8 Z).trans Z,h86_,h91_,trivial⟩ ?_
    clear hs45 hd46 hr48 tab43
    refine Q<|zaE (v1:=zaO _ _ _ _ _ _ _ _) (v2:=.slice _ _ _) zyu Z Z Z<|Ret.det (zih fm hf ags _ _ _ (Res.rs_of_sl (V.hL _ Q2)) hn9) V fun w V=>AI Z<|G<|SQ<|SR<|MI Z<|Q<|zaF Z Z<|G<|zab Z (fun g49=>?_) (fun g49=>?_)
    ·refine SR <| Q (zaf zbo zjj .nil ?_)
     refine MI Z<|Q (SO (v:=zbf _ _ _ _ _ _) V zbo Z Z .u4 fun w V=>?_)
     refine AI Z<|G<|zaq func54 Z (zat (vs:=zbq _ _ _ _ _ _) Z zbo Z Z (zac (n:=4) (V.objL Q4) _ Z)) (TP (v:=.int .i64 _) Z) ?_
     replace V:=V.pick .nil
     have hI:=zjE (op:=op) (Y:=Y) (l:=l) (e:=zdG fm.op ags) (by omega) (by rw [hob]; simpa using g2) (by rw [hfm]; exact hstop.2) (by rw [hfm,← hstop.1,hfo]) g49
     rw [hI]
     exact ⟨none,0,Z,(V.pushNil 110 3).noD⟩
    refine zag<|SR<|MP Z<|Q<|zan Z<|Q<|zaa zbS Z<|Q<|zay (vs:=zbq _ _ _ _ _ _) zbo Z Z Z (zac (n:=4) (V.objL Q0) _ Z)<|Q (SO (v:=zbf _ _ _ _ _ _) V zbo Z Z .u4 fun w V=>?_)
    refine AI Z<|G<|zaq func54 Z (zat (vs:=zbq _ _ _ _ _ _) Z zbo Z Z (zac (n:=4) (V.objL Q4) _ Z)) (TP (v:=.int .i64 _) Z) ?_
    replace V:=V.pick (.c .u2 .nil)
    have hI:=zqr (op:=op) (Y:=Y) (l:=l) (by omega) (by rw [hob]; simpa using g2) (by rw [hfm]; exact hstop.2) (by rw [hfm,← hstop.1,← hfo]; exact Nn g49)
    rw [hfm,← hstop.1] at hI
    rw [hI]
    have hT:=(hJ2.2.1 (hJ2.zero hstop.2)).2.2
    rw [← hT.1,← hT.2]
    exact ⟨aa,ca,Z,V.noD⟩
   refine zag<|SQ<|SR<|MI Z<|Q<|zaF Z Z<|G<|zab Z (fun g50=>?_) (fun g50=>?_)
   ·refine SR <| Q (zaf zbo zjj .nil ?_)
    refine MI Z<|Q (SO (v:=zbf _ _ _ _ _ _) V zbo Z Z .u4 fun w V=>?_)
    refine AI Z<|G<|zaq func54 Z (zat (vs:=zbq _ _ _ _ _ _) Z zbo Z Z (zac (n:=4) (V.objL Q4) _ Z)) (TP (v:=.int .i64 _) Z) ?_
    replace V:=V.pick .nil
    have hI:=znp (op:=op) (Y:=Y) (l:=l) (e:=e) (by omega) (by rw [hob]; simpa using g2) (by rw [hfm]; exact hK.2.2.2 g42) g42
    rw [hI]
    exact ⟨none,0,Z,(V.pushNil 110 3).noD⟩
   exfalso
   omega
  ·refine SR <| Q <| zaa zdC Z <| Q <| zae (v := .bool _) ty4 Z Z (V.cellL Q3 Z) <| MB Z <| zcg (d := 47) Z (fun g51 => ?_) (fun g51 => ?_)
   ·refine TK (t := 47) Z (Vb g51) <| zad (v := .int .i64 _) Z <| TK (t := 47) Z (Vb g51) <| zam Z Z <| Q <| zaB (u := .bool _) (Vb g51) Z <| G <| zab Z (fun g52 => ?_) (fun g52 => ?_)
    ·refine RG <| MP Z <| MP Z ?_
     replace V:=V.pick (.k6 .nil)
     replace V:St _ _ (RdC 179 228 22 110 b33 fm bR Y op ty1 0 none 0 [] aR cR l a1 :: _) _ _:=V.pack (L1:=[_,_,_])
     refine Q (zaE (v1:=Pp _ _) (v2:=.int .i64 _) zxI Z Z Z ((zlu b33 fm bR Y op ty1 0 none 0 [] aR cR l a1 _ _ (V.hL _ Q0) hl hJ1.1).mono fun v w hp=>?_))
     rcases hp with ⟨hin,rfl,hp⟩ | ⟨hin,rfl,hp⟩
     ·replace V : St _ _ (RdC 179 228 22 110 b33 fm bR Y op ty1 0 none 0 [] aR cR l (a1 + 1) :: _) _ _ := V.call1 hp
      replace V:St _ _ (_ :: _ :: _ :: _) _ _:=V.unpack
      refine Q<|zad (v:=.tuple #[.int .u32 _,.int .i64 _]) Z<|Q<|Ex (.int .u32 _) Z Z<|Q<|Ex (.int .i64 _) Z Z<|Q<|zan Z<|Q<|zaa zbS Z<|Q<|zaa zfV Z<|Q (SO (v:=.int .u32 _) V za9 Z Z .u0 fun w V=>?_)
      refine AI Z<|G ?_
      have h0:e1 = 0:=by simpa using g52
      subst h0
      exact cut11 ((a1 + 1,l.getD a1 0,idE (l.getD a1 0) Y)) _ w (V) (H2.word hJ1 (by simpa using g51) hin) E3 ⟨rfl,trivial⟩
     ·replace V : St _ _ (RdC 179 228 22 110 b33 fm bR Y op ty1 0 none 0 [] aR cR l a1 :: _) _ _ := V.call1 hp
      replace V:St _ _ (_ :: _ :: _ :: _) _ _:=V.unpack
      refine Q<|zad (v:=.tuple #[.int .u32 _,.int .i64 _]) Z<|Q<|Ex (.int .u32 _) Z Z<|Q<|Ex (.int .i64 _) Z Z<|Q<|zan Z<|Q<|zaa zbS Z<|Q<|zaa zfV Z<|Q (SO (v:=.int .u32 _) V za9 Z Z .u0 fun w V=>?_)
      refine AI Z<|G ?_
      have h0:e1 = 0:=by simpa using g52
      subst h0
      exact cut11 ((a1,0,41)) _ w (V) (H2.lacks hJ1 (by simpa using g51) hin) E3 ⟨rfl,trivial⟩
    refine zag ?_
    exact cut11 ((a1,0,e1)) _ w (V) (H2.err hJ1 (by simpa using g52)) E3 ⟨rfl,trivial⟩
   refine OM (t:=47) Z (Vb g51) Z<|OM (t:=47) Z (Vb g51) Z<|Q<|zax (u:=.bool _) (Vb g51) Z<|G<|zal (Vb (Z:false = _))<|zag ?_
   exact cut11 ((a1,0,e1)) _ w (V) ((if he:e1 = 0 then H2.no hJ1 (by simpa using g51) he else H2.err hJ1 he)) E3 ⟨rfl,trivial⟩
 ·refine SR <| Q <| zaa zfi Z <| Q <| zae (v := .bool _) ty4 Z Z (V.cellL Q3 Z) <| G <| zaQ Z (fun g53 => ?_) (fun g53 => ?_)
  ·refine RG <| MP Z <| MP Z ?_
   replace V:=V.pick (.k6 .nil)
   replace V:St _ _ (RdC 179 228 22 110 b33 fm bR Y op 0 0 none 0 [] aR cR l 0 :: _) _ _:=V.pack (L1:=[_,_,_])
   refine Q (zaE (v1:=Pp _ _) (v2:=.int .i64 _) zxI Z Z Z ((zlu b33 fm bR Y op 0 0 none 0 [] aR cR l 0 _ _ (V.hL _ Q0) hl (Nat.zero_le _)).mono fun v w hp=>?_))
   rcases hp with ⟨hin,rfl,hp⟩ | ⟨hin,rfl,hp⟩
   ·replace V : St _ _ (RdC 179 228 22 110 b33 fm bR Y op 0 0 none 0 [] aR cR l (0 + 1) :: _) _ _ := V.call1 hp
    replace V:St _ _ (_ :: _ :: _ :: _) _ _:=V.unpack
    refine Q<|zad (v:=.tuple #[.int .u32 _,.int .i64 _]) Z<|Q<|Ex (.int .u32 _) Z Z<|Q<|Ex (.int .i64 _) Z Z<|Q<|zan Z<|Q<|zaa zbS Z<|Q<|zaa zeH Z<|Q (SO (v:=.int .u32 _) V za9 Z Z .u0 fun w V=>?_)
    refine AI Z<|G ?_
    exact cut9 ((1,l.getD 0 0,idE (l.getD 0 0) Y)) _ w (V) (H1.word (by simpa using g53) hin) E3 ⟨rfl,trivial⟩
   ·replace V : St _ _ (RdC 179 228 22 110 b33 fm bR Y op 0 0 none 0 [] aR cR l 0 :: _) _ _ := V.call1 hp
    replace V:St _ _ (_ :: _ :: _ :: _) _ _:=V.unpack
    refine Q<|zad (v:=.tuple #[.int .u32 _,.int .i64 _]) Z<|Q<|Ex (.int .u32 _) Z Z<|Q<|Ex (.int .i64 _) Z Z<|Q<|zan Z<|Q<|zaa zbS Z<|Q<|zaa zeH Z<|Q (SO (v:=.int .u32 _) V za9 Z Z .u0 fun w V=>?_)
    refine AI Z<|G ?_
    exact cut9 ((0,0,40)) _ w (V) (H1.lacks (by simpa using g53) hin.symm) E3 ⟨rfl,trivial⟩
  refine zag ?_
  exact cut9 ((0,0,0)) _ w (V) (H1.no (by simpa using g53)) E3 ⟨rfl,trivial⟩
end Go.SK
namespace Go.SK
open Go Go.Proofs Go.Proofs.Tryz
theorem ent55:zaG prog 55:=⟨f55,_,func55,Kr,rfl⟩
theorem ent56:zaG prog 56:=⟨f56,_,func56,Kr,rfl⟩
open Go.RowKit
theorem zpH (gn bd:Int) (done:List RawP) (ao:Option Addr) (cp:Nat) {ws:List Int} (hW:zfx gn bd (done.map RawP.L) = (ws,(0,0))) (w:World) (hA:(Res.rraws ao done).holds w) (hl:done.length ≤ 35184372088832) (hla:∀ r ∈ done,r.ws.length ≤ 35184372088832) (hop:∀ r ∈ done,0 ≤ r.op ∧ r.op < 65536):Ret prog 55 #[.agg #[.int .u32 gn,.int .u32 bd],.slice ao done.length cp] w (fun v w'=>∃ ro rc,v = .tuple #[.slice ro ws.length rc,.agg #[.int .i64 0,.int .i64 0]] ∧ St w NoM [Res.sl ro ws.length rc 22 1 (ws.flatMap zci)] [] w'):=by
 have h:=zsp gn bd done ao cp w hA hl hla hop
 rw [hW] at h; exact h
theorem zpL (gn bd:Int) (l:List InstP) (ao:Option Addr) (cp:Nat) (w:World) (hA:(Res.rmod ao l).holds w) (hl:l.length ≤ 3000000000000) (hop:∀ i ∈ l,0 ≤ i.op) (hsm:∀ i ∈ l,(i.args.map zaT).sum ≤ 900000000) (hla:∀ i ∈ l,∀ a ∈ i.args,a.s.length ≤ 100000000000) (hop2:∀ i ∈ l,i.op < 65536):Ret prog 26 #[.agg #[.int .u32 gn,.int .u32 bd,.slice ao l.length cp]] w (fun v w'=>∃ ro rc,v = .tuple #[.slice ro (zed gn bd (l.map InstP.L)).1.length rc,.agg #[.int .i64 (zed gn bd (l.map InstP.L)).2.1,.int .i64 (zed gn bd (l.map InstP.L)).2.2]] ∧ St w NoM [Res.sl ro (zed gn bd (l.map InstP.L)).1.length rc 5 1 ((zed gn bd (l.map InstP.L)).1.flatMap byC)] [] w'):=by
 refine zav (args:=[.agg #[.int .u32 gn,.int .u32 bd,.slice ao l.length cp]]) func26 Z Z Z ?_
 have V:St w NoM [] [Res.rmod ao l] w:=St.init_D hA
 clear hA
 obtain ⟨se,sa,hS⟩:∃ se sa,zbl bd (l.map InstP.L) = (se,sa):=⟨_,_,rfl⟩
 refine SR<|Q<|zbi (v:=zc7 _ _ _ _ _) V Z Z fun w b1 V=>AL Z<|Q<|zar V zaV fun w b3 V=>NSR<|Q<|zay (vs:=zh8 _ _ _ _ _) zcx Z Z Z (zac (n:=3) (V.objL Q1) _ Z)<|Q (zao (v1:=zc7 _ _ _ _ _) ent46 Z Z ((zlv _ _ _ _ _ hS _ (V.hD _ Q0) hl hop hsm hla).mono fun v w hp=>?_))
 obtain ⟨aR,cR,done,rfl,hd,hp⟩:=hp
 replace V:St _ _ (_ :: _) _ _:=V.call0 hp
 refine Q<|zad (v:=.tuple #[.slice _ _ _,gII _ _]) Z<|Q<|Ex (.slice _ _ _) Z Z<|Q<|Ex (gII _ _) Z Z<|Q<|zar V zaV fun w b5 V=>AL Z<|Q (SO (v:=gII _ _) V zaV Z Z .u0 fun w V=>?_)
 refine G<|SQ<|SR<|Q<|zaa zbB Z<|Q<|zae (v:=.int .i64 _) zdQ Z Z (V.cellL Q0 Z)<|Q<|zaF Z Z<|G<|zab Z (fun g1=>?_) (fun g1=>?_)
 ·refine SQ <| zaC [] V (bs := [0, 0, 3]) (ds := [some 15, some 2, none]) ⟨Kr, Kr, Kr⟩ (fun tab2 => ?_)
  refine DO tab2 1 (fun _ _ _ hc=>zay (vs:=lII _ _) zaV Z (hc.old (v:=Pp _ _) Z Z Z) Z (zac (n:=2) (hc.st.objL (Ar Q0)) _ Z) hc.z)<|DO tab2 2 (fun _ _ _ hc=>zap (v:=.slice _ _ _) Z hc.z)<|RunD.fin zaw tab2 V Z (fun f3 w R6 hs4 hd5 hr7 V=>?_)
  obtain ⟨h15_,r0⟩:=hd5 0 15 rfl rfl
  obtain ⟨h2_,r1⟩:=hd5 1 2 rfl rfl
  simp only [rg2,Fc,Fn,Mc,Mn,r0,r1,Na,An,Ca] at V
  refine zaz (sl:=[(2,.slice _ _ _),(3,Pp _ _),(15,gII _ _)]) ⟨h2_,(hs4 3 Z).trans Z,h15_,trivial⟩ ?_
  clear hs4 hd5 hr7 tab2
  refine Q (SO (v:=gII _ _) V zaV Z Z .u2 fun w V=>?_)
  refine G<|zaq func26 Z (TP (v:=.slice _ _ _) Z) (zat (vs:=lII _ _) Z zaV Z Z (zac (n:=2) (V.objL Q2) _ Z)) ?_
  replace V:=V.pick .nil
  have hE:=zr2 (gn:=gn) (Y:=bd) (l:=(l.map InstP.L)) (by rw [hS]; exact g1)
  rw [hS] at hE
  rw [hE]
  exact ⟨none,0,Z,(V.pushNil 5 1).noD⟩
 have hse0:se = 0:=by omega
 subst hse0
 rw [if_pos rfl] at hd
 have hS1:(zbl bd (l.map InstP.L)).1 = 0:=by rw [hS]
 have hgood:=zgY (gn:=gn) hS1
 have hwl:=zr1 (gn:=gn) hS1
 obtain ⟨ws,hws⟩:∃ ws,zcd gn bd (zd6 bd (l.map InstP.L)) = ws:=⟨_,rfl⟩
 rw [hws] at hgood hwl
 have hdl:=zvU hd
 have hrm:∀ r ∈ done,r.ws.length ≤ 35184372088832 ∧ 0 ≤ r.op ∧ r.op < 65536:=fun r hr=>by
  obtain ⟨i,hi,ho,hlen⟩:=zvT hd hgood.2.2.2.1 hr
  exact ⟨by omega,by rw [ho]; exact hop i hi,by rw [ho]; exact hop2 i hi⟩
 refine zag<|SR<|Q<|zaa zfg Z<|Q<|zae (v:=.int .u32 _) za9 Z Z (V.cellL Q3 Z)<|Q<|zaa zcZ Z<|Q<|zae (v:=.int .u32 _) za9 Z Z (V.cellL Q3 Z)<|Q (zaf zbF zc5 (.c (v:=.int .u32 _) Z (h:=(.c (v:=.int .u32 _) Z (h:=.nil)))) ?_)
 refine ML rfl<|Q (zaE (v1:=gUU _ _) (v2:=.slice _ _ _) ent55 rfl rfl rfl ((zpH gn bd done _ _ (by rw [hd]; exact hgood.2.1) _ (Res.rraws_of_oraws (V.hL _ Q1)) (by omega) (fun r hr=>(hrm r hr).1) (fun r hr=>(hrm r hr).2)).mono fun v w hp=>?_))
 obtain ⟨aW,cW,rfl,hp⟩:=hp
 replace V:St _ _ (_ :: _) _ _:=V.call0 hp
 refine Q<|zad (v:=.tuple #[.slice _ _ _,gII _ _]) Z<|Q<|Ex (.slice _ _ _) Z Z<|Q<|Ex (gII _ _) Z Z<|AL Z<|Q (SO (v:=gII _ _) V zaV Z Z .u1 fun w V=>?_)
 refine G<|zaj [(3,Pp _ _),(5,Pp _ _),(6,.slice _ _ _)] E3 fun f=>SQ<|zaC [] V (bs:=[0,1,0,3,15]) (ds:=[some 26,some 27,some 28,some 2,none]) ⟨Kr,Kr,Kr⟩ (fun tab8=>?_)
 refine DO tab8 1 (fun _ _ _ hc=>zad (v:=.slice _ _ _) (hc.old rfl rfl rfl) hc.z)<|RunD.op (fun v rs=>∃ ro rc,v = .slice ro (zbk ws).length rc ∧ rs = [Res.sl ro (zbk ws).length rc 5 1 ((zbk ws).flatMap byC)]) tab8 2 (fun _ _ _ hc=>zao (v1:=.slice _ _ _) ent56 rfl (hc.d 0 rfl rfl rfl rfl) ((zuH ws _ _ _ (Res.rs_of_sl (hc.st.hL _ (Ar Q0))) O).mono fun v w hp=>(by obtain ⟨ro,rc,rfl,hp⟩:=hp; exact ⟨_,⟨ro,rc,rfl,rfl⟩,hc.st.call0 hp⟩)))<|DO tab8 3 (fun _ _ _ hc=>zay (vs:=lII _ _) zaV rfl (hc.old (v:=Pp _ _) rfl rfl rfl) rfl (zac (n:=2) (hc.st.objL (Ar Q1)) _ rfl) hc.z)<|zfp (fun g v rs=>v = g 27 ∧ rs = []) tab8 4 (fun _ _ _ hc=>zap (evs rfl rfl) ⟨[],fun g hg=>⟨(hg 1 27 rfl rfl).symm,rfl⟩,hc.st⟩)<|RunD.fin zaw tab8 V rfl (fun f9 w R12 hs10 hd11 hr13 V=>?_)
 obtain ⟨h26_,r0⟩:=hd11 0 26 rfl rfl
 obtain ⟨aB,cB,h27_,r1⟩:=hd11 1 27 rfl rfl
 obtain ⟨h28_,r2⟩:=hd11 2 28 rfl rfl
 obtain ⟨h2_,r3⟩:=hd11 3 2 rfl rfl
 rw [DrawTab.mask tab8 _ (j:=3) (l:=1) (t:=27) rfl rfl,h27_] at h2_
 simp only [rg4,Fc,Fn,Mc,Mn,r0,r1,r2,r3,Na,An,Ca] at V
 refine zaz (sl:=[(2,.slice _ _ _),(3,Pp _ _),(28,gII _ _)]) ⟨h2_,(hs10 3 Z).trans Z,h28_,trivial⟩ ?_
 clear hs10 hd11 hr13 tab8
 refine Q (SO (v:=gII _ _) V zaV Z Z .u4 fun w V=>?_)
 refine G<|zaq func26 Z (TP (v:=.slice _ _ _) Z) (zat (vs:=lII _ _) Z zaV Z Z (zac (n:=2) (V.objL Q4) _ Z)) ?_
 replace V:=V.pick (.k1 .nil)
 have hE:=hgood.1
 rw [hE]
 exact ⟨aB,cB,Z,V.noD⟩
end Go.SK
namespace Go.SK
open Go Go.Proofs Go.Proofs.Tryz
theorem ent52:zaG prog 52:=⟨f52,_,func52,Kr,rfl⟩
theorem ent53:zaG prog 53:=⟨f53,_,func53,Kr,rfl⟩
theorem ent54:zaG prog 54:=⟨f54,_,func54,Kr,rfl⟩
open Go.RowKit
theorem zpp (b:List UInt8) (ao:Option Addr) (cp:Nat) {l:List Int} {se:Int} (h1:zeQ b = l) (h2:zcG b = se) (w:World) (hA:(Res.rs ao b.length 1 (b.flatMap byC)).holds w) (hl:b.length ≤ 240000000000000):Ret prog 52 #[.slice ao b.length cp] w (fun v w'=>∃ ro rc,v = .tuple #[.slice ro l.length rc,.int .i64 se] ∧ St w NoM [Res.sl ro l.length rc 22 1 (l.flatMap zci)] [] w'):=by
 subst h1; subst h2; exact zsb b ao cp w hA hl
theorem zsq {l:List Int} {gn bd re ra:Int} {its:List zkn} (hR:zcL l = ((gn,bd),its,(re,ra))) (hw:Wd l) (ao:Option Addr) (cp:Nat) (hcp:l.length ≤ cp) (w:World) (hA:(Res.rs ao l.length 1 (l.flatMap zci)).holds w) (hl:l.length ≤ 35184372088832):Ret prog 53 #[.slice ao l.length cp] w (fun v w'=>∃ ro rc done,v = .tuple #[.agg #[.int .u32 gn,.int .u32 bd],.slice ro done.length rc,.agg #[.int .i64 re,.int .i64 ra]] ∧ done.map RawP.L = its.map (·.2) ∧ St w NoM [Res.oraws 62 22 ro rc done] [] w'):=by
 have h:=zuW l hw ao cp hcp w hA hl
 rw [hR] at h; exact h
theorem zsw {op Y e:Int} {l:List Int} {I:InstL} (hI:zb2 Y op l = (I,e)) (ao:Option Addr) (cp:Nat) (h0:0 ≤ op) (w:World) (hA:(Res.rs ao l.length 1 (l.flatMap zci)).holds w) (hl:l.length ≤ 35184372088832):Ret prog 54 #[.agg #[.int .u16 op,.slice ao l.length cp],.int .u32 Y] w (fun v w'=>∃ ro rc,v = .tuple #[.agg #[.int .u16 I.op,.int .u32 I.ty,.int .u32 I.res,.slice ro I.args.length rc],.int .i64 e] ∧ St w NoM [Res.sl ro I.args.length rc 110 3 (I.args.flatMap zdX)] [] w'):=by
 have h:=zu0 op l ao cp Y h0 w hA hl
 rw [hI] at h; exact h
theorem zpM (b:List UInt8) (ao:Option Addr) (cp:Nat) (w:World) (hA:(Res.rs ao b.length 1 (b.flatMap byC)).holds w) (hb:b.length ≤ 140737488355328):Ret prog 23 #[.slice ao b.length cp] w (fun v w'=>∃ ro rc dm,v = .tuple #[.agg #[.int .u32 (za2 b).1.1,.int .u32 (za2 b).1.2.1,.slice ro dm.length rc],.agg #[.int .i64 (za2 b).2.1,.int .i64 (za2 b).2.2]] ∧ dm.map InstP.L = (za2 b).1.2.2 ∧ St w NoM [Res.omod 44 110 ro rc dm] [] w'):=by
 refine zav (args:=[.slice ao b.length cp]) func23 Z Z Z ?_
 have V:St w NoM [] [Res.rs ao b.length 1 (b.flatMap byC)] w:=St.init_D hA
 clear hA
 obtain ⟨l,hsl⟩:∃ l,zeQ b = l:=⟨_,rfl⟩
 obtain ⟨se,hse⟩:∃ se,zcG b = se:=⟨_,rfl⟩
 obtain ⟨gn,bd,its,re,ra,hR⟩:∃ gn bd its re ra,zcL l = ((gn,bd),its,(re,ra)):=⟨_,_,_,_,_,rfl⟩
 have hwd:Wd l:=hsl ▸ ztd b
 have hll:l.length ≤ 35184372088832:=by have:=zte b; rw [← hsl]; omega
 refine SR<|Q<|zar V zcx fun w b2 V=>Q<|zar V zaV fun w b3 V=>NSR<|ML Z<|Q (zao (v1:=.slice _ _ _) ent52 Z Z ((zpp b _ _ hsl hse _ (V.hD _ Q0) O).mono fun v w hp=>?_))
 obtain ⟨aW,cW,rfl,hp⟩:=hp
 replace V:St _ _ (_ :: _) _ _:=V.call0 hp
 refine Q<|zad (v:=.tuple #[.slice _ _ _,.int .i64 _]) Z<|Q<|Ex (.slice _ _ _) Z Z<|Q<|Ex (.int .i64 _) Z Z<|AL Z<|AI Z<|G<|SQ<|SR<|MI Z<|Q<|zaF Z Z<|G<|zab Z (fun g1=>?_) (fun g1=>?_)
 ·refine SR <| Q (zaf zcx zjk .nil ?_)
  refine MI Z<|Q (zaf zaV zbW (.c (v:=.int .i64 _) Z (h:=.nil)) ?_)
  refine Q (SO (v:=zc7 _ _ _ _ _) V zcx Z Z .u2 fun w V=>?_)
  refine Q (SO (v:=gII _ _) V zaV Z Z .u1 fun w V=>?_)
  refine G<|zaq func23 Z (zat (vs:=zh8 _ _ _ _ _) Z zcx Z Z (zac (n:=3) (V.objL Q2) _ Z)) (zat (vs:=lII _ _) Z zaV Z Z (zac (n:=2) (V.objL Q1) _ Z)) ?_
  replace V:=V.pick .nil
  have hD:=zfl (b:=b) (by rw [hse]; exact g1)
  rw [hse] at hD
  replace V:=St.starCons ((V.starNil).pushNil 44 4)
  rw [hD]
  exact ⟨none,0,[],Z,Z,V.noD⟩
 refine zag<|SR<|ML Z<|Q (zao (v1:=.slice _ _ _) ent53 Z Z ((zsq hR hwd _ _ (Res.sl_cap (V.hL _ Q0)) _ (Res.rs_of_sl (V.hL _ Q0)) hll).mono fun v w hp=>?_))
 obtain ⟨aQ,cQ,done,rfl,hI,hp⟩:=hp
 replace V:St _ _ (_ :: _) _ _:=V.call0 hp
 refine Q<|zad (v:=.tuple #[gUU _ _,.slice _ _ _,gII _ _]) Z<|Q<|Ex (gUU _ _) Z Z<|Q<|Ex (.slice _ _ _) Z Z<|Q<|Ex (gII _ _) Z Z<|Q<|zar V zbF fun w b6 V=>Q<|zar V zaV fun w b8 V=>Q (SO (v:=gUU _ _) V zbF Z Z .u1 fun w V=>?_)
 refine AL Z<|Q (SO (v:=gII _ _) V zaV Z Z .u0 fun w V=>?_)
 refine G<|zaj [(2,Pp _ _),(3,Pp _ _),(4,.slice _ _ _),(6,Pp _ _),(7,.slice _ _ _),(8,Pp _ _)] E6 fun f=>SQ<|SR<|Q<|zaa zbB Z<|Q<|zae (v:=.int .i64 _) zdQ Z Z (V.cellL Q0 Z)<|Q<|zaF Z Z<|G<|zab Z (fun g2=>?_) (fun g2=>?_)
 ·refine SQ ?_
  replace V:=V.pick (.c .u5 (.k5 .nil))
  apply zaC [(2,Res.row b2 25 _,Res.row b2 25 _)] V (bs:=[0,0,1,7]) (ds:=[some 36,some 37,none,none]) (htab:=⟨Kr,Kr,Kr⟩)
  intro tab3
  refine DO tab3 1 (fun _ _ _ hc=>zaf zcx zjk .nil hc.z) ?_
  refine DO tab3 2 (fun _ _ _ hc=>zay (vs:=lII _ _) zaV Z (hc.old (v:=Pp _ _) Z Z Z) Z (zac (n:=2) (hc.st.objL (Ar Q0)) _ Z) hc.z)<|zcb tab3 3 Q0 (fun f' L' L2 w' hc hsel=>zbC (v:=zc7 _ _ _ _ _) hc.st zcx (hc.old (v:=Pp _ _) Z Z Z) (hc.d 0 Z Z Z Z) Z Z Z hsel (by repeat (first | exact Put.nil | apply Put.put | apply Put.skip)) fun w V=>⟨Z,V⟩) ?_
  refine RunD.fin zaw tab3 V Z (fun f4 w R7 hs5 hd6 hr8 V=>?_)
  obtain ⟨h36_,r0⟩:=hd6 0 36 rfl rfl
  obtain ⟨h37_,r1⟩:=hd6 1 37 rfl rfl
  obtain ⟨_,_,r2⟩:=hr8 2 rfl
  simp only [rg3,Fc,Fn,Mc,Mn,r0,r1,r2,Na,An,Ca] at V
  refine zaz (sl:=[(2,Pp _ _),(3,Pp _ _),(37,gII _ _)]) ⟨(hs5 2 Z).trans Z,(hs5 3 Z).trans Z,h37_,trivial⟩ ?_
  clear hs5 hd6 hr8 tab3
  refine Q (SO (v:=gII _ _) V zaV Z Z .u5 fun w V=>?_)
  refine G<|zaq func23 Z (zat (vs:=zh8 _ _ _ _ _) Z zcx Z Z (zac (n:=3) (V.objL Q0) _ Z)) (zat (vs:=lII _ _) Z zaV Z Z (zac (n:=2) (V.objL Q5) _ Z)) ?_
  replace V:=V.pick .nil
  have hse0:zcG b = 0:=by rw [hse]; exact Nn g1
  have hD:=zdk hse0
  rw [hsl] at hD
  rw [zjX (by rw [hR]; exact g2),hR] at hD
  replace V:=St.starCons ((V.starNil).pushNil 44 4)
  rw [hD]
  exact ⟨none,0,[],Z,Z,V.noD⟩
 have hre:re = 0:=by omega
 have hgd:=zh2 (w:=l) (by rw [hR]; exact hre)
 rw [hR] at hgd
 have hits:its = (zcf l 5).1:=congrArg (fun q:(Int × Int) × List zkn × (Int × Int)=>q.2.1) hgd.1
 have hlen5:=(zfS hgd.2.2.1).1
 have hend:=(zic hwd l.length 5 hlen5).1
 have hAN:atI (zcf l 5) its.length = (zcf l 5).2:=by rw [hits]; unfold atI; rw [if_neg (by omega)]
 have hen:(zcf l 5).2 = l.length:=Nat.le_antisymm hend (Nat.not_lt.1 hgd.2.2.2)
 have hdl:done.length = its.length:=by simpa using congrArg List.length hI
 have hnl:its.length + 5 ≤ l.length:=by have h:=(zic hwd l.length 5 hlen5).2; rw [← hen,hits]; exact h
 refine zag<|SR<|Q<|zaa zjI Z<|Q<|zae (v:=.int .u32 _) za9 Z Z (V.cellL Q1 Z)<|Q<|zaa zfU Z<|Q<|zae (v:=.int .u32 _) za9 Z Z (V.cellL Q1 Z)<|Q (zaf zcx zjk (.c (v:=.int .u32 _) Z (h:=(.c (v:=.int .u32 _) Z (h:=.nil)))) ?_)
 refine Q<|zar V zcx fun w b9 V=>Q (SO (v:=zc7 _ _ _ _ _) V zcx Z Z .u0 fun w V=>?_)
 refine NSR<|ML Z<|Q<|zaH (rest:=[]) zcn Z<|AI Z<|G<|SQ<|SR<|ML Z<|Q<|zaH (rest:=[]) zov Z<|MI Z<|G<|zak ?_
 refine zaY<|zaZ [(2,Pp _ _),(3,Pp _ _),(6,Pp _ _),(7,.slice _ _ _),(9,Pp _ _),(45,.slice _ _ _),(46,.int .i64 _)] E7 (fun (i:Nat)=>[(10,.int .i64 ((l.length:Int) + 5 - (atI (zcf l 5) i:Int))),(47,.int .i64 (i:Int))]) (fun (i:Nat)=>[]) (fun (i:Nat)=>i ≤ its.length) (fun (i:Nat)=>its.length - i) (0) V (Nat.zero_le _) ⟨(Vi (by rw [show atI (zcf l 5) 0 = 5 from zi1 _ _]; omega)),rfl,trivial⟩ ?_
 intro i f w V hJ ih9
 refine SR<|Q<|zaN Z Z<|G<|SQ<|zab Z (fun g10=>?_) (fun g10=>?_)
 ·have hch : atI (zcf l 5) i + 1 + (its.getD i zbx).2.2.length = atI (zcf l 5) (i + 1) ∧ (its.getD i zbx).1 = atI (zcf l 5) i := by rw [hits]; exact zhv hwd _ 5 i (by rw [← hits]; omega)
  have hgt:=zm2 hI (i:=i) O
  have hidx:done.getD ((i:Int)).toNat zbG = (done.getD i zbG):=rfl
  have hidx2:(done.getD ((i:Int)).toNat zbG).ws.length = (its.getD i zbx).2.2.length:=by rw [← hgt.2]; rfl
  have hidx3:(done.getD i zbG).ws.length = (its.getD i zbx).2.2.length:=by rw [hgt.2]
  have hbl:atI (zcf l 5) (i + 1) ≤ l.length:=zqO hwd l.length 5 (i + 1) hlen5
  refine zag<|SQ<|zak<|SR<|Q<|zaR zov zcK (Res.rraws_raws (Res.rraws_of_oraws (V.hL _ Q3))) Z Z O O<|Q<|zay (vs:=lHL _ _ _ _) zcK Z Z Z (Res.rs2_cells (m:=2) (Res.rraws_raws (Res.rraws_of_oraws (V.hL _ Q3))) _ (zbO (g:=zkW) (d:=zbG) ziL _ _ O))<|Q<|zar V zcK fun w b12 V=>Q (SO (v:=gHL _ _ _ _) V zcK Z Z .u0 fun w V=>?_)
  refine NR<|MI Z<|Q<|zaa zeb Z<|Q<|zae (v:=.slice _ _ _) zcn Z Z (V.cellL Q0 Z)<|Q<|zaH (rest:=[]) zcn Z<|Q<|zaA Z Z Z zbt<|Q<|zbu Z Z Z zbt<|AI Z<|G<|zah<|RG<|Q<|zaA Z Z Z zbt<|MI Z<|G ?_
  refine zaD ?_
  replace V:=V.pick (.c .u1 (.c .u1 (.c .u1 (.c .u1 (.c .u1 (.c .u1 (.c .u1 .nil)))))))
  exact ih9 (i + 1) _ w O V O E7 ⟨(Vi O),(Vi O),trivial⟩
 obtain rfl:i = its.length:=by omega
 refine zaK (id:=0) Z<|SQ<|SQ ?_
 replace V:=V.pushNil 44 4
 replace V:=V.starNil
 refine RG<|ML rfl<|Q<|zaH (rest:=[]) zov rfl<|MI rfl<|G<|zak<|zaY<|zaZ [(2,Pp _ _),(3,Pp _ _),(6,Pp _ _),(9,Pp _ _),(58,.slice _ _ _),(59,.int .i64 _)] E6 (fun (q:Nat × Option Addr × Nat × List InstP)=>[(10,.int .i64 (atI (zcf l 5) q.1:Int)),(60,.int .i64 (q.1:Int))]) (fun (q:Nat × Option Addr × Nat × List InstP)=>[Res.star (q.2.2.2.map (Res.oargs 110)),Res.sl q.2.1 q.2.2.2.length q.2.2.1 44 4 (q.2.2.2.flatMap zdK),Res.row b9 25 [.int .u32 gn,.int .u32 bd,.slice q.2.1 q.2.2.2.length q.2.2.1]]) (fun (q:Nat × Option Addr × Nat × List InstP)=>q.1 ≤ its.length ∧ (∀ j,j < q.1 → (zb2 bd (its.getD j zbx).2.1 (its.getD j zbx).2.2).2 = 0) ∧ q.2.2.2.map InstP.L = (its.take q.1).map (fun p=>(zb2 bd p.2.1 p.2.2).1)) (fun (q:Nat × Option Addr × Nat × List InstP)=>its.length - q.1) ((0,none,0,[])) V ⟨Nat.zero_le _,no_lt,rfl⟩ ⟨(Vi (by rw [show atI (zcf l 5) 0 = 5 from zi1 _ _,hAN,hen]; omega)),rfl,trivial⟩ ?_
 intro ⟨i,aq,cq,dm⟩ f w V hK ih11
 replace V:St _ _ ([Res.star (dm.map (Res.oargs 110)),Res.sl aq dm.length cq 44 4 (dm.flatMap zdK),Res.row b9 25 [.int .u32 gn,.int .u32 bd,.slice aq dm.length cq]] ++ [_,_,_,_,_,_]) _ _:=V
 replace hK:i ≤ its.length ∧ (∀ j,j < i → (zb2 bd (its.getD j zbx).2.1 (its.getD j zbx).2.2).2 = 0) ∧ dm.map InstP.L = (its.take i).map (fun p=>(zb2 bd p.2.1 p.2.2).1):=hK
 refine za6 (sl:=[(10,.int .i64 (atI (zcf l 5) i:Int)),(60,.int .i64 (i:Int))]) E2<|SR<|Q<|zaN Z Z<|G<|SQ<|zab Z (fun g12=>?_) (fun g12=>?_)
 ·have hch : atI (zcf l 5) i + 1 + (its.getD i zbx).2.2.length = atI (zcf l 5) (i + 1) ∧ (its.getD i zbx).1 = atI (zcf l 5) i := by rw [hits]; exact zhv hwd _ 5 i (by rw [← hits]; omega)
  have hgt:=zm2 hI (i:=i) O
  have hidx:done.getD ((i:Int)).toNat zbG = (done.getD i zbG):=rfl
  have hidx2:(done.getD ((i:Int)).toNat zbG).ws.length = (its.getD i zbx).2.2.length:=by rw [← hgt.2]; rfl
  have hidx3:(done.getD i zbG).ws.length = (its.getD i zbx).2.2.length:=by rw [hgt.2]
  have hbl:atI (zcf l 5) (i + 1) ≤ l.length:=zqO hwd l.length 5 (i + 1) hlen5
  obtain ⟨I,ie,hIF⟩:∃ I ie,zb2 bd (done.getD i zbG).op (done.getD i zbG).ws = (I,ie):=⟨_,_,rfl⟩
  have hIW:=hIF
  rw [hgt.1,hgt.2] at hIW
  have hsub:=zyj hwd hits (i:=i) O
  have hmem:(done.getD i zbG) ∈ done:=zbJ O
  have hdml:dm.length ≤ i:=by have:=congrArg List.length hK.2.2; simp only [List.length_map,List.length_take] at this; omega
  refine zag<|SQ<|zak<|SR<|Q<|zaR zov zcK (Res.rraws_raws (Res.rraws_of_oraws (V.hL _ Q5))) Z Z O O<|Q<|zay (vs:=lHL _ _ _ _) zcK Z Z Z (Res.rs2_cells (m:=2) (Res.rraws_raws (Res.rraws_of_oraws (V.hL _ Q5))) _ (zbO (g:=zkW) (d:=zbG) ziL _ _ O))<|Q<|zar V zcK fun w b14 V=>Q (SO (v:=gHL _ _ _ _) V zcK Z Z .u0 fun w V=>?_)
  refine NSR<|Q<|zay (vs:=lHL _ _ _ _) zcK rfl rfl rfl (zac (n:=2) (V.objL Q0) _ rfl)<|Q<|zaa zfU rfl<|Q<|zae (v:=.int .u32 _) za9 rfl rfl (V.cellL Q5 rfl)<|Q (zaE (v1:=gHL _ _ _ _) (v2:=.int .u32 _) ent54 rfl rfl rfl ((zsw hIF _ _ (by rw [hgt.1]; exact hsub.2.1) _ (Res.rraws_wsI (Res.rraws_of_oraws (V.hL _ Q6)) (i:=i) (by omega)) (by rw [hgt.2]; omega)).mono fun v w hp=>?_))
  obtain ⟨ro,rc,rfl,hp⟩:=hp
  replace V:St _ _ (_ :: _) _ _:=V.call0 hp
  refine Q<|zad (v:=.tuple #[zbf _ _ _ _ _ _,.int .i64 _]) Z<|Q<|Ex (zbf _ _ _ _ _ _) Z Z<|Q<|Ex (.int .i64 _) Z Z<|Q<|zar V zbo fun w b15 V=>Q (SO (v:=zbf _ _ _ _ _ _) V zbo Z Z .u0 fun w V=>?_)
  refine AI Z<|G<|SQ<|SR<|MI Z<|Q<|zaF Z Z<|G<|zab Z (fun g13=>?_) (fun g13=>?_)
  ·refine SR <| Q (zaf zcx zjk .nil ?_)
   refine MI Z<|MI Z<|Q (zaf zaV zbW (.c (v:=.int .i64 _) Z (h:=(.c (v:=.int .i64 _) Z (h:=.nil)))) ?_)
   refine Q (SO (v:=zc7 _ _ _ _ _) V zcx Z Z .u11 fun w V=>?_)
   refine Q (SO (v:=gII _ _) V zaV Z Z .u10 fun w V=>?_)
   refine G<|zaq func23 Z (zat (vs:=zh8 _ _ _ _ _) Z zcx Z Z (zac (n:=3) (V.objL Q11) _ Z)) (zat (vs:=lII _ _) Z zaV Z Z (zac (n:=2) (V.objL Q10) _ Z)) ?_
   replace V:=V.pick .nil
   have hse0:zcG b = 0:=by rw [hse]; exact Nn g1
   have hD:=zdk hse0
   rw [hsl] at hD
   have hde:=zqJ (Y:=bd) (ps:=its) (i:=i) (by omega) hK.2.1 (by rw [hIW]; exact g13)
   rw [hIW,hch.2] at hde
   rw [zum hR hre hde g13] at hD
   replace V:=St.starCons ((V.starNil).pushNil 44 4)
   rw [hD]
   exact ⟨none,0,[],Z,Z,V.noD⟩
  refine zag<|SR<|Q<|zaa zbX Z<|Q<|zae (v:=.slice _ _ _) zdO Z Z (V.cellL Q5 Z)<|Q<|zay (vs:=zbq _ _ _ _ _ _) zbo Z Z Z (zac (n:=4) (V.objL Q0) _ Z)<|Q (zaI (z0:=[.int .u16 0,.int .u32 0,.int .u32 0,.slice none 0 0]) V zdO zbo Z Z Kr (.c (v:=zbf _ _ _ _ _ _) Z (h:=.nil)) fun w b80 V=>?_)
  refine Q (zaP (news:=(zbq _ _ _ _ _ _)) V zdO zbo Z Z .u5 Z Z Z (zac (n:=4) (V.objL Q0) _ Z) Z Z O fun w ao14 cp15 V=>?_)
  replace V:=V.drop .u1
  refine Q<|zaa zbX Z<|Q (SO (v:=.slice _ _ _) V zdO Z Z .u5 fun w V=>?_)
  refine G<|zaj [(2,Pp _ _),(3,Pp _ _),(6,Pp _ _),(9,Pp _ _),(10,.int .i64 _),(14,Pp _ _),(58,.slice _ _ _),(59,.int .i64 _),(60,.int .i64 _)] E9 fun f=>RG<|MI Z<|Q<|zaa zeb Z<|Q<|zae (v:=.slice _ _ _) zcn Z Z (V.cellL Q3 Z)<|Q<|zaH (rest:=[]) zcn Z<|Q<|zaA Z Z Z zbt<|Q<|zaA Z Z Z zbt<|AI Z<|G<|zah<|RG<|Q<|zaA Z Z Z zbt<|MI Z ?_
  refine G<|zaD ?_
  replace V:=V.pick (.c .u2 (.c .u3 (.k10 .nil)))
  replace V:=V.starSnoc
  have e1:dm.length + 1 = (dm ++ [(⟨I.op,I.ty,I.res,ro,rc,I.args⟩:InstP)]).length:=by simp
  have e2:dm.flatMap zdK ++ [.int .u16 I.op,.int .u32 I.ty,.int .u32 I.res,.slice ro I.args.length rc] = (dm ++ [(⟨I.op,I.ty,I.res,ro,rc,I.args⟩:InstP)]).flatMap zdK:=by simp
  have e3:dm.map (Res.oargs 110) ++ [Res.sl ro I.args.length rc 110 3 (I.args.flatMap zdX)] = (dm ++ [(⟨I.op,I.ty,I.res,ro,rc,I.args⟩:InstP)]).map (Res.oargs 110):=by simp
  rw [e1,e2,e3] at V
  have hie:ie = 0:=Nn g13
  have hI2:(dm ++ [(⟨I.op,I.ty,I.res,ro,rc,I.args⟩:InstP)]).map InstP.L = (its.take (i + 1)).map (fun p=>(zb2 bd p.2.1 p.2.2).1):=by rw [List.map_append,hK.2.2,zv9 (by omega),hIW]; rfl
  replace V:=V.pick (.k2 (.c .u2 (.c .u2 (.c .u2 (.c .u2 (.c .u2 (.c .u2 (.c .u2 .nil))))))))
  exact ih11 ((i + 1,ao14,cp15,dm ++ [(⟨I.op,I.ty,I.res,ro,rc,I.args⟩:InstP)])) _ w (by (try dsimp only); omega) V (⟨by (try dsimp only); omega,zdS hK.2.1 (by rw [hIW]; exact hie),hI2⟩) E6 ⟨(Vi (by (try dsimp only); omega)),(Vi (by (try dsimp only); omega)),trivial⟩
 obtain rfl:i = its.length:=by omega
 have hK3:=hK.2.2
 rw [List.take_length] at hK3
 refine zaK (id:=2) Z<|SR<|Q<|zay (vs:=zh8 _ _ _ _ _) zcx Z Z Z (zac (n:=3) (V.objL Q2) _ Z)<|Q (zaf zaV zbW .nil ?_)
 refine Q (SO (v:=zc7 _ _ _ _ _) V zcx Z Z .u8 fun w V=>?_)
 refine Q (SO (v:=gII _ _) V zaV Z Z .u7 fun w V=>?_)
 refine G<|zaq func23 Z (zat (vs:=zh8 _ _ _ _ _) Z zcx Z Z (zac (n:=3) (V.objL Q8) _ Z)) (zat (vs:=lII _ _) Z zaV Z Z (zac (n:=2) (V.objL Q7) _ Z)) ?_
 replace V:=V.pick (.c .u1 (.k1 .nil))
 have hse0:zcG b = 0:=by rw [hse]; exact Nn g1
 have hD:=zdk hse0
 rw [hsl] at hD
 have hdo:=zmj (Y:=bd) (ps:=its) hK.2.1
 rw [zpg hR hre hdo] at hD
 rw [hD]
 exact ⟨aq,cq,dm,Z,hK3,(St.starCons V).noD⟩
end Go.SK
namespace Go.SK
open Go Go.Proofs Go.Proofs.Tryz
theorem zwz:zaG prog 23:=⟨f23,_,func23,Kr,rfl⟩
open Go.RowKit
theorem zhN {b:List UInt8} {gn bd e a:Int} {il:List InstL} (hD:za2 b = ((gn,bd,il),(e,a))) (ao:Option Addr) (cp:Nat) (w:World) (hA:(Res.rs ao b.length 1 (b.flatMap byC)).holds w) (hb:b.length ≤ 140737488355328):Ret prog 23 #[.slice ao b.length cp] w (fun v w'=>∃ ro rc dm,v = .tuple #[.agg #[.int .u32 gn,.int .u32 bd,.slice ro dm.length rc],.agg #[.int .i64 e,.int .i64 a]] ∧ dm.map InstP.L = il ∧ St w NoM [Res.omod 44 110 ro rc dm] [] w'):=by
 have h:=zpM b ao cp w hA hb
 rw [hD] at h; exact h
theorem zj9 {gn bd se sa:Int} {l:List InstP} {bs:List UInt8} (hE:zed gn bd (l.map InstP.L) = (bs,(se,sa))) (ao:Option Addr) (cp:Nat) (w:World) (hA:(Res.rmod ao l).holds w) (hs:Small l):Ret prog 26 #[.agg #[.int .u32 gn,.int .u32 bd,.slice ao l.length cp]] w (fun v w'=>∃ ro rc,v = .tuple #[.slice ro bs.length rc,.agg #[.int .i64 se,.int .i64 sa]] ∧ St w NoM [Res.sl ro bs.length rc 5 1 (bs.flatMap byC)] [] w'):=by
 have h:=zpL gn bd l ao cp w hA hs.len hs.op hs.sum hs.txt hs.op2
 rw [hE] at h; exact h
theorem zse (b:List UInt8) (ao:Option Addr) (cp:Nat) (w:World) (hG:LxG.holds w) (hA0:(Res.rs ao b.length 1 (b.flatMap byC)).holds w) (hb:b.length ≤ 140737488355328):Ret prog 28 #[.slice ao b.length cp] w (fun v w'=>v = .tuple #[str (zfB b).1,.agg #[.int .i64 (zfB b).2.1,.int .i64 (zfB b).2.2]] ∧ St w NoM [] [] w'):=by
 refine zav (args:=[.slice ao b.length cp]) func28 Z Z Z ?_
 have V:St w NoM [] [LxG,Res.rs ao b.length 1 (b.flatMap byC)] w:=St.init_Ds (by simp only [List.forall_mem_cons]; exact ⟨hG,hA0,fun _ h=>absurd h List.not_mem_nil⟩)
 refine SR<|AS Z<|Q<|zar V zaV fun w b3 V=>NSR<|ML Z ?_
 obtain ⟨gn,bd,il,e,a,hD⟩:∃ gn bd il e a,za2 b = ((gn,bd,il),(e,a)):=⟨_,_,_,_,_,rfl⟩
 refine Q (zao (v1:=.slice _ _ _) zwz Z Z ((zhN hD _ _ _ (V.hD _ Q1) hb).mono fun v w hp=>?_))
 obtain ⟨aO1,cO1,dO1,rfl,hdO1,hp⟩:=hp
 replace V:St _ _ (_ :: _) _ _:=V.call0 hp
 refine Q<|zad (v:=.tuple #[zc7 _ _ _ _ _,gII _ _]) Z<|Q<|Ex (zc7 _ _ _ _ _) Z Z<|Q<|Ex (gII _ _) Z Z<|Q<|zar V zcx fun w b4 V=>Q<|zar V zaV fun w b5 V=>Q (SO (v:=zc7 _ _ _ _ _) V zcx Z Z .u1 fun w V=>?_)
 refine Q (SO (v:=gII _ _) V zaV Z Z .u0 fun w V=>?_)
 refine G<|SQ<|SR<|Q<|zaa zbB Z<|Q<|zae (v:=.int .i64 _) zdQ Z Z (V.cellL Q0 Z)<|Q<|zaF Z Z<|G<|zab Z (fun g1=>?_) (fun g1=>?_)
 ·refine SQ <| zaC [] V (bs := [0, 0, 3]) (ds := [some 14, some 2, none]) ⟨Kr, Kr, Kr⟩ (fun tab2 => ?_)
  refine DO tab2 1 (fun _ _ _ hc=>zay (vs:=lII _ _) zaV Z (hc.old (v:=Pp _ _) Z Z Z) Z (zac (n:=2) (hc.st.objL (Ar Q0)) _ Z) hc.z)<|DO tab2 2 (fun _ _ _ hc=>zap (v:=str _) Z hc.z)<|RunD.fin zaw tab2 V Z (fun f3 w R6 hs4 hd5 hr7 V=>?_)
  obtain ⟨h14_,r0⟩:=hd5 0 14 rfl rfl
  obtain ⟨h2_,r1⟩:=hd5 1 2 rfl rfl
  simp only [rg2,Fc,Fn,Mc,Mn,r0,r1,Na,An,Ca] at V
  refine zaz (sl:=[(2,str _),(3,Pp _ _),(14,gII _ _)]) ⟨h2_,(hs4 3 Z).trans Z,h14_,trivial⟩ ?_
  clear hs4 hd5 hr7 tab2
  refine Q (SO (v:=gII _ _) V zaV Z Z .u3 fun w V=>?_)
  refine G<|zaq func28 Z (TP (v:=str _) Z) (zat (vs:=lII _ _) Z zaV Z Z (zac (n:=2) (V.objL Q3) _ Z)) ?_
  rw [zlg hD g1]
  exact ⟨Z,V.pure⟩
 have he0:e = 0:=Nn g1
 obtain ⟨hE,hSh,hbd0,hbd1⟩:=(zf1 hD).2 he0
 have hs2:=zhG hD hdO1
 have hdu:=zld (b:=b) (by rw [hD]; exact he0)
 rw [hD] at hdu
 have hu2:∀ x ∈ dO1,x.L.U32:=fun x hx=>hdu.2.2 _ (by rw [← hdO1]; exact List.mem_map_of_mem hx)
 refine zag<|SR<|Q (zay (vs:=zh8 _ _ _ _ _) zcx Z Z Z (zac (n:=3) (V.objL Q1) _ Z) ?_)
 obtain ⟨tx,se,sa,hT⟩:∃ tx se sa,zcV gn bd (dO1.map InstP.L) = (tx,(se,sa)):=⟨_,_,_,rfl⟩
 refine Q<|zao (v1:=zc7 _ _ _ _ _) zwA Z Z<|Ret.det (zgu hT _ _ _ (V.hD _ Q0) (Res.rmod_of_omod (V.hL _ Q2)) hs2 hu2 hdu.1 hdu.2.1) V fun w V=>Q<|Ex (str _) Z Z<|Q<|Ex (gII _ _) Z Z<|AS Z<|Q (SO (v:=gII _ _) V zaV Z Z .u3 fun w V=>?_)
 refine G<|zaq func28 Z (TP (v:=str _) Z) (zat (vs:=lII _ _) Z zaV Z Z (zac (n:=2) (V.objL Q3) _ Z)) ?_
 rw [znV hD he0,← hdO1,hT]
 exact ⟨Z,V.pure⟩
theorem zbE (bq:Nat) (s:Tx) (ao:Option Addr) (cp:Nat) (l:List TokL) (a:Nat) (Y e p:Int) (e2 p2:Int) (w:World) (hB:(AR 130 bq s ao cp l (a:Int) Y e p).holds w):Ret prog 128 #[.pointer (some ⟨bq,0,none⟩),.int .i64 e2,.int .i64 p2] w (fun v w'=>v = .bool false ∧ St w (AR 130 bq s ao cp l (a:Int) Y e p).foot [AR 130 bq s ao cp l (a:Int) Y e2 p2] [] w'):=by
 refine zav (args:=[.pointer (some ⟨bq,0,none⟩),.int .i64 e2,.int .i64 p2]) func128 Z Z Z ?_
 have V:St w (AR 130 bq s ao cp l (a:Int) Y e p).foot [AR 130 bq s ao cp l (a:Int) Y e p] [] w:=St.enter1 hB (fun d hd=>by cases hd) (fun d hd=>by cases hd)
 refine SR<|AB Z<|NSR<|MP Z<|MI Z<|MI Z<|Q (zaf zaV zbW (.c (v:=.int .i64 _) Z (h:=(.c (v:=.int .i64 _) Z (h:=.nil)))) ?_)
 refine Q<|zan Z<|Q<|zaa zl6 Z<|Q (SO (v:=gII _ _) V zaV Z Z .u0 fun w V=>?_)
 refine NSR<|AB Z<|G<|zai func128 Z (TP (v:=.bool _) Z) ?_
 exact ⟨Z,V⟩
theorem zf4 (bq:Nat) (s:Tx) (ao:Option Addr) (cp:Nat) (l:List TokL) (a:Nat) (Y e p:Int) (w:World) (hB:(AR 130 bq s ao cp l (a:Int) Y e p).holds w):Ret prog 73 #[.pointer (some ⟨bq,0,none⟩)] w (fun v w'=>v = .bool (decide (a < l.length)) ∧ St w (AR 130 bq s ao cp l (a:Int) Y e p).foot [AR 130 bq s ao cp l (a:Int) Y e p] [] w'):=by
 refine zav (args:=[.pointer (some ⟨bq,0,none⟩)]) func73 Z Z Z ?_
 have V:St w (AR 130 bq s ao cp l (a:Int) Y e p).foot [AR 130 bq s ao cp l (a:Int) Y e p] [] w:=St.enter1 hB (fun d hd=>by cases hd) (fun d hd=>by cases hd)
 refine SR<|AB Z<|G<|SQ<|zaC [] V (bs:=[0,1,3,7,0,16,48,112,240,511,1023]) (ds:=[some 3,some 4,some 5,some 6,some 7,some 8,some 9,some 10,some 11,some 12,some 2]) ⟨Kr,Kr,Kr⟩ (fun tab1=>?_)
 refine DO tab1 1 (fun _ _ _ hc=>zad (v:=Pp _ _) (hc.old Z Z Z) hc.z)<|DO tab1 2 (fun _ _ _ hc=>zan (hc.d 0 Z Z Z Z) hc.z)<|DO tab1 3 (fun _ _ _ hc=>zaa zdh (hc.d 1 Z Z Z Z) hc.z)<|DO tab1 4 (fun _ _ _ hc=>zae (v:=.int .i64 _) ty3 Z (hc.d 2 Z Z Z Z) (hc.st.cellL (Ar Q0) Z) hc.z)<|DO tab1 5 (fun _ _ _ hc=>zad (v:=Pp _ _) (hc.old Z Z Z) hc.z)<|DO tab1 6 (fun _ _ _ hc=>zan (hc.d 4 Z Z Z Z) hc.z)<|DO tab1 7 (fun _ _ _ hc=>zaa zex (hc.d 5 Z Z Z Z) hc.z)<|DO tab1 8 (fun _ _ _ hc=>zae (v:=.slice _ _ _) zfI Z (hc.d 6 Z Z Z Z) (hc.st.cellL (Ar Q0) Z) hc.z)<|DO tab1 9 (fun _ _ _ hc=>zaH (rest:=[]) zfI (hc.d 7 Z Z Z Z) hc.z)<|RunD.fin zaw tab1 V Z (fun f2 w R5 hs3 hd4 hr6 V=>?_)
 obtain ⟨h3_,r0⟩:=hd4 0 3 rfl rfl
 obtain ⟨h4_,r1⟩:=hd4 1 4 rfl rfl
 obtain ⟨h5_,r2⟩:=hd4 2 5 rfl rfl
 obtain ⟨h6_,r3⟩:=hd4 3 6 rfl rfl
 obtain ⟨h7_,r4⟩:=hd4 4 7 rfl rfl
 obtain ⟨h8_,r5⟩:=hd4 5 8 rfl rfl
 obtain ⟨h9_,r6⟩:=hd4 6 9 rfl rfl
 obtain ⟨h10_,r7⟩:=hd4 7 10 rfl rfl
 obtain ⟨h11_,r8⟩:=hd4 8 11 rfl rfl
 simp only [rg9,Fc,Fn,Mc,Mn,r0,r1,r2,r3,r4,r5,r6,r7,r8,Na,An,Ca] at V
 refine zaz (sl:=[(6,.int .i64 _),(11,.int .i64 _)]) ⟨h6_,h11_,trivial⟩ ?_
 clear hs3 hd4 hr6 tab1
 refine Q<|zaN Z Z<|AB Z<|G<|zai func73 Z (TP (v:=.bool _) Z) ?_
 exact ⟨Vb (by first | rfl | (rw [decide_eq_decide]; omega)),V⟩
theorem zeh (bq:Nat) (s:Tx) (ao:Option Addr) (cp:Nat) (l:List TokL) (a:Nat) (Y e p:Int) (kd:Int) (w:World) (hB:(AR 130 bq s ao cp l (a:Int) Y e p).holds w) (hT:(AT 72 ao cp l).holds w) (hTA:Apart (AR 130 bq s ao cp l (a:Int) Y e p) (AT 72 ao cp l)) (hl:s.length ≤ 1099511627776) (hll:l.length ≤ s.length) (hts:wsz l ≤ 7 * s.length):Ret prog 126 #[.pointer (some ⟨bq,0,none⟩),.int .u8 kd] w (fun v w'=>(l.length ≤ a ∧ v = .tuple #[.agg #[.int .u8 0,str [],.int .i64 0],.bool false] ∧ St w (AR 130 bq s ao cp l (a:Int) Y e p).foot [AR 130 bq s ao cp l (a:Int) Y 72 (s.length)] [] w') ∨ (a < l.length ∧ (l.getD a zaM).kind ≠ kd ∧ v = .tuple #[.agg #[.int .u8 0,str [],.int .i64 0],.bool false] ∧ St w (AR 130 bq s ao cp l (a:Int) Y e p).foot [AR 130 bq s ao cp l (a:Int) Y 70 ((l.getD a zaM).at_)] [] w') ∨ (a < l.length ∧ (l.getD a zaM).kind = kd ∧ v = .tuple #[.agg #[.int .u8 (l.getD a zaM).kind,str (l.getD a zaM).text,.int .i64 (l.getD a zaM).at_],.bool true] ∧ St w (AR 130 bq s ao cp l (a:Int) Y e p).foot [AR 130 bq s ao cp l (a + 1:Int) Y e p] [] w')):=by
 refine zav (args:=[.pointer (some ⟨bq,0,none⟩),.int .u8 kd]) func126 Z Z Z ?_
 have V:St w (AR 130 bq s ao cp l (a:Int) Y e p).foot [AR 130 bq s ao cp l (a:Int) Y e p] [AT 72 ao cp l] w:=St.enter1 hB (by simp only [List.forall_mem_cons]; exact ⟨hT,fun _ h=>absurd h List.not_mem_nil⟩) (by simp only [List.forall_mem_cons]; exact ⟨hTA,fun _ h=>absurd h List.not_mem_nil⟩)
 have hidx:(l.getD ((a:Int).toNat) zaM).kind = (l.getD a zaM).kind:=rfl
 refine SR<|Q<|zar V zbw fun w b4 V=>AB Z<|G<|SQ<|zak<|SR<|MP Z ?_
 replace V:=V.pick (.c .u1 (.k1 .nil))
 refine Q (zao (v1:=Pp _ _) zuc Z Z ((zf4 _ _ _ _ _ a _ _ _ _ (V.hL _ Q0)).mono fun v w hp=>?_))
 obtain ⟨rfl,hp⟩:=hp
 replace V:=V.call1 hp
 refine Q<|zhP Z<|AB Z<|G<|zab Z (fun g1=>?_) (fun g1=>?_)
 ·refine SR <| Q (zaf zbw zgA .nil ?_)
  refine MP Z<|MP Z<|Q<|zan Z<|Q<|zaa zl7 Z<|Q<|zae (v:=str _) ty9 Z Z (V.cellL Q0 Z)<|Q<|zbb (rest:=[]) ty9 Z<|Q (zbj (v1:=Pp _ _) (v2:=.int .i64 _) (v3:=.int .i64 _) zdR Z Z Z Z ((zbE _ _ _ _ _ a _ e p _ _ _ (V.hL _ Q0)).mono fun v w hp=>?_))
  obtain ⟨rfl,hp⟩:=hp
  replace V:=V.call1 hp
  refine Q (SO (v:=zbZ _ _ _) V zbw Z Z .u1 fun w V=>?_)
  refine AB Z<|G<|zaq func126 Z (zat (vs:=ziS _ _ _) Z zbw Z Z (zac (n:=3) (V.objL Q1) _ Z)) (TP (v:=.bool _) Z) ?_
  replace V:=V.pick (.k1 .nil)
  exact .inl ⟨by omega,Z,V.noD⟩
 refine SQ ?_
 obtain ⟨bs2,rfl⟩:=Res.sl_some (V.hD _ Q0) O
 refine zaC [] V (bs:=[0,1,3,7,0,16,48,112,255,511,1023,0,4095,8191]) (ds:=[some 19,some 20,some 21,some 22,some 23,some 24,some 25,some 26,some 27,some 28,some 29,some 30,some 31,some 18]) ⟨Kr,Kr,Kr⟩ (fun tab3=>?_)
 refine DO tab3 1 (fun _ _ _ hc=>zad (v:=Pp _ _) (hc.old Z Z Z) hc.z)<|DO tab3 2 (fun _ _ _ hc=>zan (hc.d 0 Z Z Z Z) hc.z)<|DO tab3 3 (fun _ _ _ hc=>zaa zex (hc.d 1 Z Z Z Z) hc.z)<|DO tab3 4 (fun _ _ _ hc=>zae (v:=.slice _ _ _) zfI Z (hc.d 2 Z Z Z Z) (hc.st.cellL (Ar Q0) Z) hc.z)<|DO tab3 5 (fun _ _ _ hc=>zad (v:=Pp _ _) (hc.old Z Z Z) hc.z)<|DO tab3 6 (fun _ _ _ hc=>zan (hc.d 4 Z Z Z Z) hc.z)<|DO tab3 7 (fun _ _ _ hc=>zaa zdh (hc.d 5 Z Z Z Z) hc.z)<|DO tab3 8 (fun _ _ _ hc=>zae (v:=.int .i64 _) ty3 Z (hc.d 6 Z Z Z Z) (hc.st.cellL (Ar Q0) Z) hc.z)<|DO tab3 9 (fun _ _ _ hc=>zbd zfI zbw (hc.d 3 Z Z Z Z) (hc.d 7 Z Z Z Z) O O hc.z)<|DO tab3 10 (fun _ _ _ hc=>zaa zpc (hc.d 8 Z Z Z Z) hc.z)<|DO tab3 11 (fun _ _ _ hc=>zae (v:=.int .u8 _) ty5 Z (hc.d 9 Z Z Z Z) (Res.sl_cell (hc.st.hD _ Q0) (zcO (g:=zeJ) (d:=zaM) zcP Z O)) hc.z)<|DO tab3 12 (fun _ _ _ hc=>zad (v:=.int .u8 _) (hc.old Z Z Z) hc.z)<|RunD.fin zaw tab3 V Z (fun f4 w R7 hs5 hd6 hr8 V=>?_)
 obtain ⟨h19_,r0⟩:=hd6 0 19 rfl rfl
 obtain ⟨h20_,r1⟩:=hd6 1 20 rfl rfl
 obtain ⟨h21_,r2⟩:=hd6 2 21 rfl rfl
 obtain ⟨h22_,r3⟩:=hd6 3 22 rfl rfl
 obtain ⟨h23_,r4⟩:=hd6 4 23 rfl rfl
 obtain ⟨h24_,r5⟩:=hd6 5 24 rfl rfl
 obtain ⟨h25_,r6⟩:=hd6 6 25 rfl rfl
 obtain ⟨h26_,r7⟩:=hd6 7 26 rfl rfl
 obtain ⟨h27_,r8⟩:=hd6 8 27 rfl rfl
 obtain ⟨h28_,r9⟩:=hd6 9 28 rfl rfl
 obtain ⟨h29_,r10⟩:=hd6 10 29 rfl rfl
 obtain ⟨h30_,r11⟩:=hd6 11 30 rfl rfl
 simp only [rg12,Fc,Fn,Mc,Mn,r0,r1,r2,r3,r4,r5,r6,r7,r8,r9,r10,r11,Na,An,Ca] at V
 refine zaz (sl:=[(0,Pp _ _),(4,Pp _ _),(29,.int .u8 _),(30,.int .u8 _)]) ⟨(hs5 0 Z).trans Z,(hs5 4 Z).trans Z,h29_,h30_,trivial⟩ ?_
 clear hs5 hd6 hr8 tab3
 refine Q<|zaF Z Z<|AB Z<|G<|zaj [(0,Pp _ _),(4,Pp _ _),(18,.bool _)] E3 fun f=>zab Z (fun g9=>?_) (fun g9=>?_)
 ·refine SQ ?_
  apply zaC [(13,Res.row bq 130 _,Res.emp)] V (bs:=[0,0,0,4,12,28,0,64,192,448,1020,2044,4092,8190,16383,32767]) (ds:=[some 32,some 33,some 34,some 35,some 36,some 37,some 38,some 39,some 40,some 41,some 42,some 43,some 44,some 45,none,some 5]) (htab:=⟨Kr,Kr,Kr⟩)
  intro tab10
  refine DO tab10 1 (fun _ _ _ hc=>zaf zbw zgA .nil hc.z) ?_
  refine DO tab10 2 (fun _ _ _ hc=>zad (v:=Pp _ _) (hc.old Z Z Z) hc.z)<|DO tab10 3 (fun _ _ _ hc=>zad (v:=Pp _ _) (hc.old Z Z Z) hc.z)<|DO tab10 4 (fun _ _ _ hc=>zan (hc.d 2 Z Z Z Z) hc.z)<|DO tab10 5 (fun _ _ _ hc=>zaa zex (hc.d 3 Z Z Z Z) hc.z)<|zfq (det _) tab10 6 (fun f' L' w' hc hlate=>zae (v:=.slice _ _ _) zfI Z (hc.d 4 Z Z Z Z) (hc.st.cellL (Al (hlate _ _ _ Q0 Z)) Z) hc.z)<|DO tab10 7 (fun _ _ _ hc=>zad (v:=Pp _ _) (hc.old Z Z Z) hc.z)<|DO tab10 8 (fun _ _ _ hc=>zan (hc.d 6 Z Z Z Z) hc.z)<|DO tab10 9 (fun _ _ _ hc=>zaa zdh (hc.d 7 Z Z Z Z) hc.z)<|zfq (det _) tab10 10 (fun f' L' w' hc hlate=>zae (v:=.int .i64 _) ty3 Z (hc.d 8 Z Z Z Z) (hc.st.cellL (Al (hlate _ _ _ Q0 Z)) Z) hc.z)<|DO tab10 11 (fun _ _ _ hc=>zbd zfI zbw (hc.d 5 Z Z Z Z) (hc.d 9 Z Z Z Z) O O hc.z)<|DO tab10 12 (fun _ _ _ hc=>zaa zdv (hc.d 10 Z Z Z Z) hc.z)<|DO tab10 13 (fun _ _ _ hc=>zae (v:=.int .i64 _) ty3 Z (hc.d 11 Z Z Z Z) (Res.sl_cell (hc.st.hD _ Q0) (zcO (g:=zeJ) (d:=zaM) zcP Z O)) hc.z)<|zch (fun g v rs=>v = .bool false ∧ rs = [AR 130 bq s (some ⟨bs2,0,none⟩) cp l (((a:Nat):Int):Int) Y 70 ((l.getD a zaM).at_)]) tab10 14 Q0 (fun f' L' L'' w' hc ⟨X,hrem,hX⟩=>zbj (v1:=Pp _ _) (v2:=.int .i64 _) (v3:=.int .i64 _) zdR Z (hc.d 1 Z Z Z Z) Z (hc.d 12 Z Z Z Z) ((zbE bq s _ cp l (a) Y e p 70 ((l.getD a zaM).at_) _ (hc.st.hL _ hrem.mem2)).mono fun v w hp=>⟨[_],fun g hg=>⟨hp.1,Z⟩,hX _ _ (St.callRem hc.st hrem hp.2)⟩))<|RunD.fin zaw tab10 V Z (fun f11 w R14 hs12 hd13 hr15 V=>?_)
  obtain ⟨h32_,r0⟩:=hd13 0 32 rfl rfl
  obtain ⟨h33_,r1⟩:=hd13 1 33 rfl rfl
  obtain ⟨h34_,r2⟩:=hd13 2 34 rfl rfl
  obtain ⟨h35_,r3⟩:=hd13 3 35 rfl rfl
  obtain ⟨h36_,r4⟩:=hd13 4 36 rfl rfl
  obtain ⟨h37_,r5⟩:=hd13 5 37 rfl rfl
  obtain ⟨h38_,r6⟩:=hd13 6 38 rfl rfl
  obtain ⟨h39_,r7⟩:=hd13 7 39 rfl rfl
  obtain ⟨h40_,r8⟩:=hd13 8 40 rfl rfl
  obtain ⟨h41_,r9⟩:=hd13 9 41 rfl rfl
  obtain ⟨h42_,r10⟩:=hd13 10 42 rfl rfl
  obtain ⟨h43_,r11⟩:=hd13 11 43 rfl rfl
  obtain ⟨h44_,r12⟩:=hd13 12 44 rfl rfl
  obtain ⟨h45_,r13⟩:=hd13 13 45 rfl rfl
  simp only [zyR,Fc,Fn,Mc,Mn,r0,r1,r2,r3,r4,r5,r6,r7,r8,r9,r10,r11,r12,r13,Na,An,Ca] at V
  refine zaz (sl:=[(4,Pp _ _),(32,zbZ _ _ _),(45,.bool _)]) ⟨(hs12 4 Z).trans Z,h32_,h45_,trivial⟩ ?_
  clear hs12 hd13 hr15 tab10
  refine Q (SO (v:=zbZ _ _ _) V zbw Z Z .u2 fun w V=>?_)
  refine AB Z<|G<|zaq func126 Z (zat (vs:=ziS _ _ _) Z zbw Z Z (zac (n:=3) (V.objL Q2) _ Z)) (TP (v:=.bool _) Z) ?_
  replace V:=V.pick (.k1 .nil)
  exact .inr (.inl ⟨by omega,by omega,Z,V.noD⟩)
 refine zag<|zah<|SR<|MP Z<|Q<|zan Z<|Q<|zaa zdh Z<|Q<|zae (v:=.int .i64 _) ty3 Z Z (V.cellL Q0 Z)<|Q<|zaA Z Z Z zbt<|Q<|zan Z<|Q<|zaa zdh Z<|Q (SO (v:=.int .i64 _) V ty3 Z Z .u0 fun w V=>?_)
 refine G<|SQ<|zaC [] V (bs:=[0,1,3,7,0,16,48,112,240,511,1023,2047,4095]) (ds:=[some 53,some 54,some 55,some 56,some 57,some 58,some 59,some 60,some 61,some 62,some 63,none,some 5]) ⟨Kr,Kr,Kr⟩ (fun tab16=>?_)
 refine DO tab16 1 (fun _ _ _ hc=>zad (v:=Pp _ _) (hc.old Z Z Z) hc.z)<|DO tab16 2 (fun _ _ _ hc=>zan (hc.d 0 Z Z Z Z) hc.z)<|DO tab16 3 (fun _ _ _ hc=>zaa zex (hc.d 1 Z Z Z Z) hc.z)<|DO tab16 4 (fun _ _ _ hc=>zae (v:=.slice _ _ _) zfI Z (hc.d 2 Z Z Z Z) (hc.st.cellL (Ar Q0) Z) hc.z)<|DO tab16 5 (fun _ _ _ hc=>zad (v:=Pp _ _) (hc.old Z Z Z) hc.z)<|DO tab16 6 (fun _ _ _ hc=>zan (hc.d 4 Z Z Z Z) hc.z)<|DO tab16 7 (fun _ _ _ hc=>zaa zdh (hc.d 5 Z Z Z Z) hc.z)<|DO tab16 8 (fun _ _ _ hc=>zae (v:=.int .i64 _) ty3 Z (hc.d 6 Z Z Z Z) (hc.st.cellL (Ar Q0) Z) hc.z)<|DO tab16 9 (fun _ _ _ hc=>zbu (hc.d 7 Z Z Z Z) Z Z zbt hc.z)<|RunD.fin zaw tab16 V Z (fun f17 w R20 hs18 hd19 hr21 V=>?_)
 obtain ⟨h53_,r0⟩:=hd19 0 53 rfl rfl
 obtain ⟨h54_,r1⟩:=hd19 1 54 rfl rfl
 obtain ⟨h55_,r2⟩:=hd19 2 55 rfl rfl
 obtain ⟨h56_,r3⟩:=hd19 3 56 rfl rfl
 obtain ⟨h57_,r4⟩:=hd19 4 57 rfl rfl
 obtain ⟨h58_,r5⟩:=hd19 5 58 rfl rfl
 obtain ⟨h59_,r6⟩:=hd19 6 59 rfl rfl
 obtain ⟨h60_,r7⟩:=hd19 7 60 rfl rfl
 obtain ⟨h61_,r8⟩:=hd19 8 61 rfl rfl
 simp only [rg9,Fc,Fn,Mc,Mn,r0,r1,r2,r3,r4,r5,r6,r7,r8,Na,An,Ca] at V
 refine zaz (sl:=[(4,Pp _ _),(56,.slice _ _ _),(61,.int .i64 _)]) ⟨(hs18 4 Z).trans Z,h56_,h61_,trivial⟩ ?_
 clear hs18 hd19 hr21 tab16
 refine Q<|zbd zfI zbw Z Z O O<|Q<|zay (vs:=ziS _ _ _) zbw Z Z Z (Res.sl_cells (k:=3) (V.hD _ Q0) _ (zbO (g:=zeJ) (d:=zaM) zcP _ _ O))<|Q (SO (v:=zbZ _ _ _) V zbw Z Z .u1 fun w V=>?_)
 refine AB Z<|G<|zaq func126 Z (zat (vs:=ziS _ _ _) Z zbw Z Z (zac (n:=3) (V.objL Q1) _ Z)) (TP (v:=.bool _) Z) ?_
 replace V:=V.pick (.k1 .nil)
 rw [show ((a:Int) + 1 - 1).toNat = a by omega]
 exact .inr (.inr ⟨by omega,by omega,Z,V.noD⟩)
theorem zfu (bq:Nat) (s:Tx) (ao:Option Addr) (cp:Nat) (l:List TokL) (a:Nat) (Y e p:Int) (w:World) (hB:(AR 130 bq s ao cp l (a:Int) Y e p).holds w) (hT:(AT 72 ao cp l).holds w) (hTA:Apart (AR 130 bq s ao cp l (a:Int) Y e p) (AT 72 ao cp l)) (hl:s.length ≤ 1099511627776) (hll:l.length ≤ s.length) (hts:wsz l ≤ 7 * s.length) (hG:LxG.holds w) (hGA:Apart (AR 130 bq s ao cp l (a:Int) Y e p) LxG):Ret prog 149 #[.pointer (some ⟨bq,0,none⟩)] w (fun v w'=>(l.length ≤ a ∧ v = .tuple #[.int .u32 0,.bool false] ∧ St w (AR 130 bq s ao cp l (a:Int) Y e p).foot [AR 130 bq s ao cp l (a:Int) Y 72 (s.length)] [] w') ∨ (a < l.length ∧ (l.getD a zaM).kind ≠ 3 ∧ v = .tuple #[.int .u32 0,.bool false] ∧ St w (AR 130 bq s ao cp l (a:Int) Y e p).foot [AR 130 bq s ao cp l (a:Int) Y 70 ((l.getD a zaM).at_)] [] w') ∨ (a < l.length ∧ (l.getD a zaM).kind = 3 ∧ (za3 (l.getD a zaM).text).2 ≠ 0 ∧ v = .tuple #[.int .u32 0,.bool false] ∧ St w (AR 130 bq s ao cp l (a:Int) Y e p).foot [AR 130 bq s ao cp l (a + 1:Int) Y ((za3 (l.getD a zaM).text).2) ((l.getD a zaM).at_)] [] w') ∨ (a < l.length ∧ (l.getD a zaM).kind = 3 ∧ (za3 (l.getD a zaM).text).2 = 0 ∧ v = .tuple #[.int .u32 (za3 (l.getD a zaM).text).1,.bool true] ∧ St w (AR 130 bq s ao cp l (a:Int) Y e p).foot [AR 130 bq s ao cp l (a + 1:Int) Y e p] [] w')):=by
 refine zav (args:=[.pointer (some ⟨bq,0,none⟩)]) func149 Z Z Z ?_
 have V:St w (AR 130 bq s ao cp l (a:Int) Y e p).foot [AR 130 bq s ao cp l (a:Int) Y e p] [AT 72 ao cp l,LxG] w:=St.enter1 hB (by simp only [List.forall_mem_cons]; exact ⟨hT,hG,fun _ h=>absurd h List.not_mem_nil⟩) (by simp only [List.forall_mem_cons]; exact ⟨hTA,hGA,fun _ h=>absurd h List.not_mem_nil⟩)
 refine SR<|AU Z<|AB Z<|NSR<|MP Z<|Q (zaE (v1:=Pp _ _) (v2:=.int .u8 _) zjS Z Z Z ((zeh _ _ _ _ l a _ _ _ 3 _ (V.hL _ Q0) (V.hD _ Q0) (V.sepD _ Q0 _ Q0) hl hll hts).mono fun v w hp=>?_))
 rcases hp with ⟨hk10,rfl,hp⟩ | ⟨hk10,hd10,rfl,hp⟩ | ⟨hk10,hd10,rfl,hp⟩
 ·replace V := V.call1 hp
  refine Q<|zad (v:=.tuple #[zbZ _ _ _,.bool _]) Z<|Q<|Ex (zbZ _ _ _) Z Z<|Q<|Ex (.bool _) Z Z<|Q<|zar V zbw fun w b4 V=>Q (SO (v:=zbZ _ _ _) V zbw Z Z .u0 fun w V=>?_)
  refine AB Z<|G<|SQ<|SR<|MB Z<|Q<|zaU Z<|G<|zas (Vb (congrArg not (Z:false = _)))<|SR<|AU Z<|AB Z<|G<|zaq func149 Z (TP (v:=.int .u32 _) Z) (TP (v:=.bool _) Z) ?_
  replace V:=V.pick (.c .u1 .nil)
  exact .inl ⟨hk10,Z,V.noD⟩
 ·replace V := V.call1 hp
  refine Q<|zad (v:=.tuple #[zbZ _ _ _,.bool _]) Z<|Q<|Ex (zbZ _ _ _) Z Z<|Q<|Ex (.bool _) Z Z<|Q<|zar V zbw fun w b4 V=>Q (SO (v:=zbZ _ _ _) V zbw Z Z .u0 fun w V=>?_)
  refine AB Z<|G<|SQ<|SR<|MB Z<|Q<|zaU Z<|G<|zas (Vb (congrArg not (Z:false = _)))<|SR<|AU Z<|AB Z<|G<|zaq func149 Z (TP (v:=.int .u32 _) Z) (TP (v:=.bool _) Z) ?_
  replace V:=V.pick (.c .u1 .nil)
  exact .inr (.inl ⟨hk10,hd10,Z,V.noD⟩)
 ·replace V := V.call1 hp
  refine Q<|zad (v:=.tuple #[zbZ _ _ _,.bool _]) Z<|Q<|Ex (zbZ _ _ _) Z Z<|Q<|Ex (.bool _) Z Z<|Q<|zar V zbw fun w b4 V=>Q (SO (v:=zbZ _ _ _) V zbw Z Z .u0 fun w V=>?_)
  refine AB Z<|G<|SQ<|SR<|MB Z<|Q<|zaU Z<|G<|zal (Vb (congrArg not (Z:true = _)))<|zag<|SR<|Q<|zaa zbP Z<|Q<|zae (v:=str _) ty9 Z Z (V.cellL Q0 Z)<|Q<|zao (v1:=str _) zpe Z Z<|Ret.det (zc2 (l.getD a zaM).text _ (V.hD _ Q1) (by have:=zja (l:=l) (i:=a) O; omega)) V fun w V=>?_
  refine Q<|zad (v:=.tuple #[.int .u32 _,.int .i64 _]) Z<|Q<|Ex (.int .u32 _) Z Z<|Q<|Ex (.int .i64 _) Z Z<|AU Z<|AI Z<|G<|zaj [(0,Pp _ _),(4,Pp _ _),(6,.int .u32 _),(7,.int .i64 _)] E4 fun f=>SQ<|SR<|MI Z<|Q<|zaF Z Z<|G<|zab Z (fun g1=>?_) (fun g1=>?_)
  ·refine SR <| MP Z <| MI Z <| Q <| zaa zdv Z <| Q (zae (v := .int .i64 _) ty3 Z Z (V.cellL Q0 Z) ?_)
   replace V:=V.pick (.c .u1 (.k1 .nil))
   refine Q (zbj (v1:=Pp _ _) (v2:=.int .i64 _) (v3:=.int .i64 _) zdR Z Z Z Z ((zbE _ _ _ _ _ _ _ e p _ _ _ (V.hL _ Q0)).mono fun v w hp=>?_))
   obtain ⟨rfl,hp⟩:=hp
   replace V:=V.call1 hp
   refine AU Z<|AB Z<|G<|zaq func149 Z (TP (v:=.int .u32 _) Z) (TP (v:=.bool _) Z) ?_
   replace V:=V.pick (.k1 .nil)
   exact .inr (.inr (.inl ⟨hk10,hd10,g1,Z,V.noD⟩))
  refine zag<|SR<|MU Z<|AU Z<|AB Z<|G<|zaq func149 Z (TP (v:=.int .u32 _) Z) (TP (v:=.bool _) Z) ?_
  replace V:=V.pick (.c .u1 .nil)
  exact .inr (.inr (.inr ⟨hk10,hd10,Nn g1,Z,V.noD⟩))
theorem zu4 (bq:Nat) (s:Tx) (ao:Option Addr) (cp:Nat) (l:List TokL) (Y e p:Int) (w:World) (hB:(AR 130 bq s ao cp l ((0:Nat):Int) Y e p).holds w) (hT:(AT 72 ao cp l).holds w) (hTA:Apart (AR 130 bq s ao cp l ((0:Nat):Int) Y e p) (AT 72 ao cp l)) (hl:s.length ≤ 1099511627776) (hll:l.length ≤ s.length) (hts:wsz l ≤ 7 * s.length) (hG:LxG.holds w) (hGA:Apart (AR 130 bq s ao cp l ((0:Nat):Int) Y e p) LxG):Ret prog 93 #[.pointer (some ⟨bq,0,none⟩)] w (fun v w'=>(∃ q:Int × Int,zeY s.length l = ((0,0),q) ∧ q.1 ≠ 0 ∧ v = .tuple #[.agg #[.int .u32 0,.int .u32 0],.bool false] ∧ ∃ a':Int,St w (AR 130 bq s ao cp l ((0:Nat):Int) Y e p).foot [Res.row bq 130 [str s,.slice ao l.length cp,.int .i64 (a':Int),.int .u32 Y,.int .i64 q.1,.int .i64 q.2]] [] w') ∨ (∃ gn bd:Int,zeY s.length l = ((gn,bd),(0,0)) ∧ v = .tuple #[.agg #[.int .u32 gn,.int .u32 bd],.bool true] ∧ ∃ a':Int,St w (AR 130 bq s ao cp l ((0:Nat):Int) Y e p).foot [AR 130 bq s ao cp l (a':Int) Y e p] [] w')):=by
 refine zav (args:=[.pointer (some ⟨bq,0,none⟩)]) func93 Z Z Z ?_
 have V:St w (AR 130 bq s ao cp l ((0:Nat):Int) Y e p).foot [AR 130 bq s ao cp l ((0:Nat):Int) Y e p] [AT 72 ao cp l,LxG] w:=St.enter1 hB (by simp only [List.forall_mem_cons]; exact ⟨hT,hG,fun _ h=>absurd h List.not_mem_nil⟩) (by simp only [List.forall_mem_cons]; exact ⟨hTA,hGA,fun _ h=>absurd h List.not_mem_nil⟩)
 have hnu:=zjv (l.getD 2 zaM).text
 refine SR<|Q<|zar V zbF fun w b2 V=>AB Z<|NSR<|MP Z ?_
 replace V:=V.pick (.c .u1 (.k1 .nil))
 refine Q (zaE (v1:=Pp _ _) (v2:=.int .u8 _) zjS Z Z Z ((zeh _ _ _ _ l 0 _ _ _ 1 _ (V.hL _ Q0) (V.hD _ Q0) (V.sepD _ Q0 _ Q0) hl hll hts).mono fun v w hp=>?_))
 rcases hp with ⟨hk11,rfl,hp⟩ | ⟨hk11,hd11,rfl,hp⟩ | ⟨hk11,hd11,rfl,hp⟩
 ·replace V := V.call1 hp
  refine Q<|zad (v:=.tuple #[zbZ _ _ _,.bool _]) Z<|Q<|Ex (zbZ _ _ _) Z Z<|Q<|Ex (.bool _) Z Z<|Q<|zar V zbw fun w b4 V=>Q (SO (v:=zbZ _ _ _) V zbw Z Z .u0 fun w V=>?_)
  refine AB Z<|G<|SQ<|SR<|MB Z<|Q<|zaU Z<|G<|zas (Vb (congrArg not (Z:false = _)))<|SR<|Q (zaf zbF zc5 .nil ?_)
  refine Q (SO (v:=gUU _ _) V zbF Z Z .u2 fun w V=>?_)
  refine AB Z<|G<|zaq func93 Z (zat (vs:=lUU _ _) Z zbF Z Z (zac (n:=2) (V.objL Q2) _ Z)) (TP (v:=.bool _) Z) ?_
  replace V:=V.pick (.c .u1 .nil)
  refine .inl ⟨(72,s.length),head0 O,(show (72:Int) ≠ 0 by decide),Z,_,V.noD⟩
 ·replace V := V.call1 hp
  refine Q<|zad (v:=.tuple #[zbZ _ _ _,.bool _]) Z<|Q<|Ex (zbZ _ _ _) Z Z<|Q<|Ex (.bool _) Z Z<|Q<|zar V zbw fun w b4 V=>Q (SO (v:=zbZ _ _ _) V zbw Z Z .u0 fun w V=>?_)
  refine AB Z<|G<|SQ<|SR<|MB Z<|Q<|zaU Z<|G<|zas (Vb (congrArg not (Z:false = _)))<|SR<|Q (zaf zbF zc5 .nil ?_)
  refine Q (SO (v:=gUU _ _) V zbF Z Z .u2 fun w V=>?_)
  refine AB Z<|G<|zaq func93 Z (zat (vs:=lUU _ _) Z zbF Z Z (zac (n:=2) (V.objL Q2) _ Z)) (TP (v:=.bool _) Z) ?_
  replace V:=V.pick (.c .u1 .nil)
  refine .inl ⟨(70,(l.getD 0 zaM).at_),head1 O (.inl hd11),(show (70:Int) ≠ 0 by decide),Z,_,V.noD⟩
 ·replace V := V.call1 hp
  refine Q<|zad (v:=.tuple #[zbZ _ _ _,.bool _]) Z<|Q<|Ex (zbZ _ _ _) Z Z<|Q<|Ex (.bool _) Z Z<|Q<|zar V zbw fun w b4 V=>Q (SO (v:=zbZ _ _ _) V zbw Z Z .u0 fun w V=>?_)
  refine AB Z<|G<|SQ<|SR<|MB Z<|Q<|zaU Z<|G<|zal (Vb (congrArg not (Z:true = _)))<|zag<|SQ<|SR<|Q<|zaa zbP Z<|Q (zae (v:=str _) ty9 Z Z (V.cellL Q0 Z) ?_)
  refine Q<|zdo Z Z<|G<|zab Z (fun g1=>?_) (fun g1=>?_)
  ·refine SR <| Q (zaf zbF zc5 .nil ?_)
   refine MP Z<|Q<|zaa zdv Z<|Q (zae (v:=.int .i64 _) ty3 Z Z (V.cellL Q0 Z) ?_)
   replace V:=V.pick (.c .u1 (.k2 .nil))
   refine Q (zbj (v1:=Pp _ _) (v2:=.int .i64 _) (v3:=.int .i64 _) zdR Z Z Z Z ((zbE _ _ _ _ _ _ _ e p _ _ _ (V.hL _ Q0)).mono fun v w hp=>?_))
   obtain ⟨rfl,hp⟩:=hp
   replace V:=V.call1 hp
   refine Q (SO (v:=gUU _ _) V zbF Z Z .u2 fun w V=>?_)
   refine AB Z<|G<|zaq func93 Z (zat (vs:=lUU _ _) Z zbF Z Z (zac (n:=2) (V.objL Q2) _ Z)) (TP (v:=.bool _) Z) ?_
   replace V:=V.pick (.k1 .nil)
   refine .inl ⟨(70,(l.getD 0 zaM).at_),head1 O (.inr g1),(show (70:Int) ≠ 0 by decide),Z,_,V.noD⟩
  refine zag<|SR<|MP Z ?_
  replace V:=V.pick (.c .u1 (.k2 .nil))
  refine Q (zao (v1:=Pp _ _) zqC Z Z ((zfu _ _ _ _ l 1 _ _ _ _ (V.hL _ Q0) (V.hD _ Q0) (V.sepD _ Q0 _ Q0) hl hll hts (V.hD _ Q1) (V.sepD _ Q0 _ Q1)).mono fun v w hp=>?_))
  rcases hp with ⟨hk27,rfl,hp⟩ | ⟨hk27,hd27,rfl,hp⟩ | ⟨hk27,hd27,he27,rfl,hp⟩ | ⟨hk27,hd27,he27,rfl,hp⟩
  ·replace V := V.call1 hp
   refine Q<|zad (v:=.tuple #[.int .u32 _,.bool _]) Z<|Q<|Ex (.int .u32 _) Z Z<|Q<|Ex (.bool _) Z Z<|AU Z<|AB Z<|G<|zaj [(0,Pp _ _),(2,Pp _ _),(5,.bool _),(6,.int .u32 _)] E4 fun f=>SQ<|SR<|MB Z<|Q<|zaU Z<|G<|zas (Vb (congrArg not (Z:false = _)))<|SQ ?_
   refine RG<|Q (zaf zbF zc5 .nil ?_)
   refine Q (SO (v:=gUU _ _) V zbF Z Z .u2 fun w V=>?_)
   refine AB Z<|G<|zaq func93 Z (zat (vs:=lUU _ _) Z zbF Z Z (zac (n:=2) (V.objL Q2) _ Z)) (TP (v:=.bool _) Z) ?_
   replace V:=V.pick (.k1 .nil)
   refine .inl ⟨(72,s.length),head2 hd11 (Nn g1) O,(show (72:Int) ≠ 0 by decide),Z,_,V.noD⟩
  ·replace V := V.call1 hp
   refine Q<|zad (v:=.tuple #[.int .u32 _,.bool _]) Z<|Q<|Ex (.int .u32 _) Z Z<|Q<|Ex (.bool _) Z Z<|AU Z<|AB Z<|G<|zaj [(0,Pp _ _),(2,Pp _ _),(5,.bool _),(6,.int .u32 _)] E4 fun f=>SQ<|SR<|MB Z<|Q<|zaU Z<|G<|zas (Vb (congrArg not (Z:false = _)))<|SQ ?_
   refine RG<|Q (zaf zbF zc5 .nil ?_)
   refine Q (SO (v:=gUU _ _) V zbF Z Z .u2 fun w V=>?_)
   refine AB Z<|G<|zaq func93 Z (zat (vs:=lUU _ _) Z zbF Z Z (zac (n:=2) (V.objL Q2) _ Z)) (TP (v:=.bool _) Z) ?_
   replace V:=V.pick (.k1 .nil)
   refine .inl ⟨(70,(l.getD 1 zaM).at_),(by rw [zky hd11 (Nn g1) (by omega),if_pos hd27]),(show (70:Int) ≠ 0 by decide),rfl,_,V.noD⟩
  ·replace V := V.call1 hp
   refine Q<|zad (v:=.tuple #[.int .u32 _,.bool _]) Z<|Q<|Ex (.int .u32 _) Z Z<|Q<|Ex (.bool _) Z Z<|AU Z<|AB Z<|G<|zaj [(0,Pp _ _),(2,Pp _ _),(5,.bool _),(6,.int .u32 _)] E4 fun f=>SQ<|SR<|MB Z<|Q<|zaU Z<|G<|zas (Vb (congrArg not (Z:false = _)))<|SQ ?_
   refine RG<|Q (zaf zbF zc5 .nil ?_)
   refine Q (SO (v:=gUU _ _) V zbF Z Z .u2 fun w V=>?_)
   refine AB Z<|G<|zaq func93 Z (zat (vs:=lUU _ _) Z zbF Z Z (zac (n:=2) (V.objL Q2) _ Z)) (TP (v:=.bool _) Z) ?_
   replace V:=V.pick (.k1 .nil)
   refine .inl ⟨((za3 (l.getD 1 zaM).text).2,(l.getD 1 zaM).at_),(by rw [zky hd11 (Nn g1) (by omega),if_neg (fun q=>q hd27),if_pos he27]),he27,rfl,_,V.noD⟩
  ·replace V := V.call1 hp
   refine Q<|zad (v:=.tuple #[.int .u32 _,.bool _]) Z<|Q<|Ex (.int .u32 _) Z Z<|Q<|Ex (.bool _) Z Z<|AU Z<|AB Z<|G<|zaj [(0,Pp _ _),(2,Pp _ _),(5,.bool _),(6,.int .u32 _)] E4 fun f=>SQ<|SR<|MB Z<|Q<|zaU Z<|G<|zal (Vb (congrArg not (Z:true = _)))<|zag ?_
   refine SR<|MP Z<|Q<|zan Z<|Q<|zaa zl7 Z<|Q<|zae (v:=str _) ty9 Z Z (V.cellL Q0 Z)<|Q<|zbb (rest:=[]) ty9 Z<|AI Z<|G<|SQ<|SR<|MP Z<|Q (zao (v1:=Pp _ _) zuc Z Z ((zf4 _ _ _ _ _ 2 _ _ _ _ (V.hL _ Q0)).mono fun v w hp=>?_))
   obtain ⟨rfl,hp⟩:=hp
   replace V:=V.call1 hp
   refine G<|zab Z (fun g2=>?_) (fun g2=>?_)
   ·obtain ⟨bs3, rfl⟩ := Res.sl_some (V.hD _ Q0) O
    refine zaC [] V (bs:=[0,1,3,7,0,16,48,112,255,511,1023,2047]) (ds:=[some 40,some 41,some 42,some 43,some 44,some 45,some 46,some 47,some 48,some 49,some 50,some 7]) ⟨Kr,Kr,Kr⟩ (fun tab4=>?_)
    refine DO tab4 1 (fun _ _ _ hc=>zad (v:=Pp _ _) (hc.old Z Z Z) hc.z)<|DO tab4 2 (fun _ _ _ hc=>zan (hc.d 0 Z Z Z Z) hc.z)<|DO tab4 3 (fun _ _ _ hc=>zaa zex (hc.d 1 Z Z Z Z) hc.z)<|DO tab4 4 (fun _ _ _ hc=>zae (v:=.slice _ _ _) zfI Z (hc.d 2 Z Z Z Z) (hc.st.cellL (Ar Q0) Z) hc.z)<|DO tab4 5 (fun _ _ _ hc=>zad (v:=Pp _ _) (hc.old Z Z Z) hc.z)<|DO tab4 6 (fun _ _ _ hc=>zan (hc.d 4 Z Z Z Z) hc.z)<|DO tab4 7 (fun _ _ _ hc=>zaa zdh (hc.d 5 Z Z Z Z) hc.z)<|DO tab4 8 (fun _ _ _ hc=>zae (v:=.int .i64 _) ty3 Z (hc.d 6 Z Z Z Z) (hc.st.cellL (Ar Q0) Z) hc.z)<|RunD.fin zaw tab4 V Z (fun f5 w R8 hs6 hd7 hr9 V=>?_)
    obtain ⟨h40_,r0⟩:=hd7 0 40 rfl rfl
    obtain ⟨h41_,r1⟩:=hd7 1 41 rfl rfl
    obtain ⟨h42_,r2⟩:=hd7 2 42 rfl rfl
    obtain ⟨h43_,r3⟩:=hd7 3 43 rfl rfl
    obtain ⟨h44_,r4⟩:=hd7 4 44 rfl rfl
    obtain ⟨h45_,r5⟩:=hd7 5 45 rfl rfl
    obtain ⟨h46_,r6⟩:=hd7 6 46 rfl rfl
    obtain ⟨h47_,r7⟩:=hd7 7 47 rfl rfl
    simp only [rg8,Fc,Fn,Mc,Mn,r0,r1,r2,r3,r4,r5,r6,r7,Na,An,Ca] at V
    refine zaz (sl:=[(0,Pp _ _),(2,Pp _ _),(6,.int .u32 _),(43,.slice _ _ _),(47,.int .i64 _)]) ⟨(hs6 0 Z).trans Z,(hs6 2 Z).trans Z,(hs6 6 Z).trans Z,h43_,h47_,trivial⟩ ?_
    clear hs6 hd7 hr9 tab4
    refine Q<|zbd zfI zbw Z Z O O<|Q<|zaa zdv Z<|Q<|zae (v:=.int .i64 _) ty3 Z Z (Res.sl_cell (V.hD _ Q0) (zcO (g:=zeJ) (d:=zaM) zcP Z O))<|AI Z<|G<|zaj [(0,Pp _ _),(2,Pp _ _),(6,.int .u32 _),(7,.int .i64 _)] E4 fun f=>SR<|MP Z<|Q (zao (v1:=Pp _ _) zqC Z Z ((zfu _ _ _ _ l 2 _ _ _ _ (V.hL _ Q0) (V.hD _ Q0) (V.sepD _ Q0 _ Q0) hl hll hts (V.hD _ Q1) (V.sepD _ Q0 _ Q1)).mono fun v w hp=>?_))
    rcases hp with ⟨hk53,rfl,hp⟩ | ⟨hk53,hd53,rfl,hp⟩ | ⟨hk53,hd53,he53,rfl,hp⟩ | ⟨hk53,hd53,he53,rfl,hp⟩
    ·exfalso; omega
    ·replace V := V.call1 hp
     refine Q<|zad (v:=.tuple #[.int .u32 _,.bool _]) Z<|Q<|Ex (.int .u32 _) Z Z<|Q<|Ex (.bool _) Z Z<|AU Z<|AB Z<|G<|SQ<|zak<|SR<|MB Z<|Q<|zaU Z<|AB Z<|G<|zas (Vb (congrArg not (Z:false = _))) ?_
     refine SR<|Q (zaf zbF zc5 .nil ?_)
     refine Q (SO (v:=gUU _ _) V zbF Z Z .u2 fun w V=>?_)
     refine AB Z<|G<|zaq func93 Z (zat (vs:=lUU _ _) Z zbF Z Z (zac (n:=2) (V.objL Q2) _ Z)) (TP (v:=.bool _) Z) ?_
     replace V:=V.pick (.k1 .nil)
     refine .inl ⟨(70,(l.getD 2 zaM).at_),(by rw [zky hd11 (Nn g1) (by omega),if_neg (fun q=>q hd27),if_neg (fun q=>q he27),if_neg (by omega),if_pos hd53]),(show (70:Int) ≠ 0 by decide),rfl,_,V.noD⟩
    ·replace V := V.call1 hp
     refine Q<|zad (v:=.tuple #[.int .u32 _,.bool _]) Z<|Q<|Ex (.int .u32 _) Z Z<|Q<|Ex (.bool _) Z Z<|AU Z<|AB Z<|G<|SQ<|zak<|SR<|MB Z<|Q<|zaU Z<|AB Z<|G<|zas (Vb (congrArg not (Z:false = _))) ?_
     refine SR<|Q (zaf zbF zc5 .nil ?_)
     refine Q (SO (v:=gUU _ _) V zbF Z Z .u2 fun w V=>?_)
     refine AB Z<|G<|zaq func93 Z (zat (vs:=lUU _ _) Z zbF Z Z (zac (n:=2) (V.objL Q2) _ Z)) (TP (v:=.bool _) Z) ?_
     replace V:=V.pick (.k1 .nil)
     refine .inl ⟨((za3 (l.getD 2 zaM).text).2,(l.getD 2 zaM).at_),(by rw [zky hd11 (Nn g1) (by omega),if_neg (fun q=>q hd27),if_neg (fun q=>q he27),if_neg (by omega),if_neg (fun q=>q hd53),if_pos he53]),he53,rfl,_,V.noD⟩
    ·replace V := V.call1 hp
     refine Q<|zad (v:=.tuple #[.int .u32 _,.bool _]) Z<|Q<|Ex (.int .u32 _) Z Z<|Q<|Ex (.bool _) Z Z<|AU Z<|AB Z<|G<|SQ<|zak<|SR<|MB Z<|Q<|zaU Z<|AB Z<|G<|zal (Vb (congrArg not (Z:true = _))) ?_
     refine SR<|MU Z<|Q<|zam Z Z<|MB Z<|zau (d:=63) Z (fun g10=>?_) (fun g10=>?_)
     ·refine OM (t := 63) Z (Vb (Dt g10)) Z <| OM (t := 63) Z (Vb (Dt g10)) Z <| Q <| zaB (u := .bool _) (Vb (Dt g10)) Z <| AB Z <| G <| zas (Vb (Z : true = _)) <| SR <| Q (zaf zbF zc5 .nil ?_)
      refine MP Z<|MI Z<|Q (zbj (v1:=Pp _ _) (v2:=.int .i64 _) (v3:=.int .i64 _) zdR Z Z Z Z ((zbE _ _ _ _ _ _ _ e p _ _ _ (V.hL _ Q0)).mono fun v w hp=>?_))
      obtain ⟨rfl,hp⟩:=hp
      replace V:=V.call1 hp
      refine Q (SO (v:=gUU _ _) V zbF Z Z .u2 fun w V=>?_)
      refine AB Z<|G<|zaq func93 Z (zat (vs:=lUU _ _) Z zbF Z Z (zac (n:=2) (V.objL Q2) _ Z)) (TP (v:=.bool _) Z) ?_
      replace V:=V.pick (.k1 .nil)
      refine .inl ⟨(24,(l.getD 2 zaM).at_),(by rw [zky hd11 (Nn g1) (by omega),if_neg (fun q=>q hd27),if_neg (fun q=>q he27),if_neg (by omega),if_neg (fun q=>q hd53),if_neg (fun q=>q he53),if_pos (by omega)]),(show (24:Int) ≠ 0 by decide),rfl,_,V.noD⟩
     refine TK (t:=63) Z (Vb (Df g10))<|zad (v:=.int .u32 _) Z<|TK (t:=63) Z (Vb (Df g10))<|zbI Z Z<|Q<|zax (u:=.bool _) (Vb (Df g10)) Z<|AB Z<|G<|zab Z (fun g11=>?_) (fun g11=>?_)
     ·refine SR <| Q (zaf zbF zc5 .nil ?_)
      refine MP Z<|MI Z<|Q (zbj (v1:=Pp _ _) (v2:=.int .i64 _) (v3:=.int .i64 _) zdR Z Z Z Z ((zbE _ _ _ _ _ _ _ e p _ _ _ (V.hL _ Q0)).mono fun v w hp=>?_))
      obtain ⟨rfl,hp⟩:=hp
      replace V:=V.call1 hp
      refine Q (SO (v:=gUU _ _) V zbF Z Z .u2 fun w V=>?_)
      refine AB Z<|G<|zaq func93 Z (zat (vs:=lUU _ _) Z zbF Z Z (zac (n:=2) (V.objL Q2) _ Z)) (TP (v:=.bool _) Z) ?_
      replace V:=V.pick (.k1 .nil)
      refine .inl ⟨(24,(l.getD 2 zaM).at_),(by rw [zky hd11 (Nn g1) (by omega),if_neg (fun q=>q hd27),if_neg (fun q=>q he27),if_neg (by omega),if_neg (fun q=>q hd53),if_neg (fun q=>q he53),if_pos (by omega)]),(show (24:Int) ≠ 0 by decide),rfl,_,V.noD⟩
     refine SR<|MP Z<|Q (zao (v1:=Pp _ _) zuc Z Z ((zf4 _ _ _ _ _ 3 _ _ _ _ (V.hL _ Q0)).mono fun v w hp=>?_))
     obtain ⟨rfl,hp⟩:=hp
     replace V:=V.call1 hp
     refine AB Z<|G<|zaj [(0,Pp _ _),(2,Pp _ _),(6,.int .u32 _),(8,.int .u32 _),(71,.bool _)] E5 fun f=>zab Z (fun g12=>?_) (fun g12=>?_)
     ·refine SQ ?_
      apply zaC [(13,Res.row bq 130 _,Res.emp)] V (bs:=[0,0,0,4,12,28,0,64,192,448,1020,2044,4092,8190,16383,32767]) (ds:=[some 74,some 75,some 76,some 77,some 78,some 79,some 80,some 81,some 82,some 83,some 84,some 85,some 86,some 87,none,some 3]) (htab:=⟨Kr,Kr,Kr⟩)
      intro tab13
      refine DO tab13 1 (fun _ _ _ hc=>zaf zbF zc5 .nil hc.z) ?_
      refine DO tab13 2 (fun _ _ _ hc=>zad (v:=Pp _ _) (hc.old Z Z Z) hc.z)<|DO tab13 3 (fun _ _ _ hc=>zad (v:=Pp _ _) (hc.old Z Z Z) hc.z)<|DO tab13 4 (fun _ _ _ hc=>zan (hc.d 2 Z Z Z Z) hc.z)<|DO tab13 5 (fun _ _ _ hc=>zaa zex (hc.d 3 Z Z Z Z) hc.z)<|zfq (det _) tab13 6 (fun f' L' w' hc hlate=>zae (v:=.slice _ _ _) zfI Z (hc.d 4 Z Z Z Z) (hc.st.cellL (Al (hlate _ _ _ Q0 Z)) Z) hc.z)<|DO tab13 7 (fun _ _ _ hc=>zad (v:=Pp _ _) (hc.old Z Z Z) hc.z)<|DO tab13 8 (fun _ _ _ hc=>zan (hc.d 6 Z Z Z Z) hc.z)<|DO tab13 9 (fun _ _ _ hc=>zaa zdh (hc.d 7 Z Z Z Z) hc.z)<|zfq (det _) tab13 10 (fun f' L' w' hc hlate=>zae (v:=.int .i64 _) ty3 Z (hc.d 8 Z Z Z Z) (hc.st.cellL (Al (hlate _ _ _ Q0 Z)) Z) hc.z)<|DO tab13 11 (fun _ _ _ hc=>zbd zfI zbw (hc.d 5 Z Z Z Z) (hc.d 9 Z Z Z Z) O O hc.z)<|DO tab13 12 (fun _ _ _ hc=>zaa zdv (hc.d 10 Z Z Z Z) hc.z)<|DO tab13 13 (fun _ _ _ hc=>zae (v:=.int .i64 _) ty3 Z (hc.d 11 Z Z Z Z) (Res.sl_cell (hc.st.hD _ Q0) (zcO (g:=zeJ) (d:=zaM) zcP Z O)) hc.z)<|zch (fun g v rs=>v = .bool false ∧ rs = [AR 130 bq s (some ⟨bs3,0,none⟩) cp l (((3:Nat):Int):Int) Y 70 ((l.getD 3 zaM).at_)]) tab13 14 Q0 (fun f' L' L'' w' hc ⟨X,hrem,hX⟩=>zbj (v1:=Pp _ _) (v2:=.int .i64 _) (v3:=.int .i64 _) zdR Z (hc.d 1 Z Z Z Z) Z (hc.d 12 Z Z Z Z) ((zbE bq s _ cp l (3) Y e p 70 ((l.getD 3 zaM).at_) _ (hc.st.hL _ hrem.mem2)).mono fun v w hp=>⟨[_],fun g hg=>⟨hp.1,Z⟩,hX _ _ (St.callRem hc.st hrem hp.2)⟩))<|RunD.fin zaw tab13 V Z (fun f14 w R17 hs15 hd16 hr18 V=>?_)
      obtain ⟨h74_,r0⟩:=hd16 0 74 rfl rfl
      obtain ⟨h75_,r1⟩:=hd16 1 75 rfl rfl
      obtain ⟨h76_,r2⟩:=hd16 2 76 rfl rfl
      obtain ⟨h77_,r3⟩:=hd16 3 77 rfl rfl
      obtain ⟨h78_,r4⟩:=hd16 4 78 rfl rfl
      obtain ⟨h79_,r5⟩:=hd16 5 79 rfl rfl
      obtain ⟨h80_,r6⟩:=hd16 6 80 rfl rfl
      obtain ⟨h81_,r7⟩:=hd16 7 81 rfl rfl
      obtain ⟨h82_,r8⟩:=hd16 8 82 rfl rfl
      obtain ⟨h83_,r9⟩:=hd16 9 83 rfl rfl
      obtain ⟨h84_,r10⟩:=hd16 10 84 rfl rfl
      obtain ⟨h85_,r11⟩:=hd16 11 85 rfl rfl
      obtain ⟨h86_,r12⟩:=hd16 12 86 rfl rfl
      obtain ⟨h87_,r13⟩:=hd16 13 87 rfl rfl
      simp only [zyR,Fc,Fn,Mc,Mn,r0,r1,r2,r3,r4,r5,r6,r7,r8,r9,r10,r11,r12,r13,Na,An,Ca] at V
      refine zaz (sl:=[(2,Pp _ _),(74,gUU _ _),(87,.bool _)]) ⟨(hs15 2 Z).trans Z,h74_,h87_,trivial⟩ ?_
      clear hs15 hd16 hr18 tab13
      refine Q (SO (v:=gUU _ _) V zbF Z Z .u3 fun w V=>?_)
      refine AB Z<|G<|zaq func93 Z (zat (vs:=lUU _ _) Z zbF Z Z (zac (n:=2) (V.objL Q3) _ Z)) (TP (v:=.bool _) Z) ?_
      replace V:=V.pick (.k1 .nil)
      refine .inl ⟨(70,(l.getD 3 zaM).at_),(by rw [zky hd11 (Nn g1) (by omega),if_neg (fun q=>q hd27),if_neg (fun q=>q he27),if_neg (by omega),if_neg (fun q=>q hd53),if_neg (fun q=>q he53),if_neg (by omega),if_pos (by omega)]),(show (70:Int) ≠ 0 by decide),rfl,_,V.noD⟩
     refine zag<|zah<|SR<|MU Z<|MU Z<|Q (zaf zbF zc5 (.c (v:=.int .u32 _) Z (h:=(.c (v:=.int .u32 _) Z (h:=.nil)))) ?_)
     refine Q (SO (v:=gUU _ _) V zbF Z Z .u2 fun w V=>?_)
     refine AB Z<|G<|zaq func93 Z (zat (vs:=lUU _ _) Z zbF Z Z (zac (n:=2) (V.objL Q2) _ Z)) (TP (v:=.bool _) Z) ?_
     replace V:=V.pick (.k1 .nil)
     refine .inr ⟨_,_,(by rw [zky hd11 (Nn g1) (by omega),if_neg (fun q=>q hd27),if_neg (fun q=>q he27),if_neg (by omega),if_neg (fun q=>q hd53),if_neg (fun q=>q he53),if_neg (by omega),if_neg (by omega)]),rfl,_,V.noD⟩
   refine zag<|SR<|MP Z<|Q (zao (v1:=Pp _ _) zqC Z Z ((zfu _ _ _ _ l 2 _ _ _ _ (V.hL _ Q0) (V.hD _ Q0) (V.sepD _ Q0 _ Q0) hl hll hts (V.hD _ Q1) (V.sepD _ Q0 _ Q1)).mono fun v w hp=>?_))
   rcases hp with ⟨hk53,rfl,hp⟩ | ⟨hk53,hd53,rfl,hp⟩ | ⟨hk53,hd53,he53,rfl,hp⟩ | ⟨hk53,hd53,he53,rfl,hp⟩
   ·replace V := V.call1 hp
    refine Q<|zad (v:=.tuple #[.int .u32 _,.bool _]) Z<|Q<|Ex (.int .u32 _) Z Z<|Q<|Ex (.bool _) Z Z<|AU Z<|AB Z<|G<|SQ<|zak<|SR<|MB Z<|Q<|zaU Z<|AB Z<|G<|zaj [(0,Pp _ _),(2,Pp _ _),(6,.int .u32 _),(7,.int .i64 _),(8,.int .u32 _),(56,.bool _)] E6 (fun f=>?_)
    refine zas (Vb (congrArg not (Z:false = _)))<|SR<|Q (zaf zbF zc5 .nil ?_)
    refine Q (SO (v:=gUU _ _) V zbF Z Z .u2 fun w V=>?_)
    refine AB Z<|G<|zaq func93 Z (zat (vs:=lUU _ _) Z zbF Z Z (zac (n:=2) (V.objL Q2) _ Z)) (TP (v:=.bool _) Z) ?_
    replace V:=V.pick (.k1 .nil)
    refine .inl ⟨(72,s.length),(by rw [zky hd11 (Nn g1) (by omega),if_neg (fun q=>q hd27),if_neg (fun q=>q he27),if_pos (by omega)]),(show (72:Int) ≠ 0 by decide),rfl,_,V.noD⟩
   ·exfalso; omega
   ·exfalso; omega
   ·exfalso; omega
theorem zog (s:Tx) (Y:Int) (w:World) (hG:LxG.holds w) (hl:s.length ≤ 1099511627776):Ret prog 72 #[str s,.int .u32 Y] w (fun v w'=>∃ bq ao cp,v = .tuple #[.pointer (some ⟨bq,0,none⟩),.agg #[.int .i64 (zbn s).2.1,.int .i64 (zbn s).2.2]] ∧ St w NoM [Res.row bq 130 [str s,.slice ao (zbn s).1.length cp,.int .i64 ((0:Nat):Int),.int .u32 Y,.int .i64 0,.int .i64 0],Res.sl ao (zbn s).1.length cp 72 3 ((zbn s).1.flatMap zeJ)] [] w'):=by
 refine zav (args:=[str s,.int .u32 Y]) func72 Z Z Z ?_
 have V:St w NoM [] [LxG] w:=St.init_Ds (by simp only [List.forall_mem_cons]; exact ⟨hG,fun _ h=>absurd h List.not_mem_nil⟩)
 refine SR<|Q<|zap (v:=_) Z<|Q<|zar V zaV fun w b5 V=>NSR<|MS Z<|Q (zao (v1:=str _) zyx Z Z ((zf3 s _ (V.hD _ Q0) hl).mono fun v w hp=>?_))
 obtain ⟨ao,cp,rfl,hp⟩:=hp
 replace V:=V.call0 hp
 refine Q<|zad (v:=.tuple #[.slice _ _ _,gII _ _]) Z<|Q<|Ex (.slice _ _ _) Z Z<|Q<|Ex (gII _ _) Z Z<|Q<|zar V zaV fun w b7 V=>AL Z<|Q (SO (v:=gII _ _) V zaV Z Z .u0 fun w V=>?_)
 refine G<|SQ<|zaC [] V (bs:=[0,0,0,7,15,0,31,127]) (ds:=[some 13,some 14,some 15,some 16,some 17,some 18,some 4,none]) ⟨Kr,Kr,Kr⟩ (fun tab1=>?_)
 refine DO tab1 1 (fun _ _ _ hc=>zad (v:=str _) (hc.old Z Z Z) hc.z)<|DO tab1 2 (fun _ _ _ hc=>zad (v:=.slice _ _ _) (hc.old Z Z Z) hc.z)<|DO tab1 3 (fun _ _ _ hc=>zad (v:=.int .u32 _) (hc.old Z Z Z) hc.z)<|DO tab1 4 (fun _ _ _ hc=>zaf ty130 stf130 (.c (v:=str _) (hc.d 0 Z Z Z Z) (h:=(.c (v:=.slice _ _ _) (hc.d 1 Z Z Z Z) (h:=(.c (v:=.int .u32 _) (hc.d 2 Z Z Z Z) (h:=.nil)))))) hc.z) ?_
 refine RunD.op (fun v rs=>∃ b,v = .pointer (some ⟨b,0,none⟩) ∧ rs = [Res.row b 130 [str s,.slice ao (zbn s).1.length cp,.int .i64 ((0:Nat):Int),.int .u32 Y,.int .i64 0,.int .i64 0]]) tab1 5 (fun _ _ _ hc=>zbi (vs:=[str s,.slice ao (zbn s).1.length cp,.int .i64 ((0:Nat):Int),.int .u32 Y,.int .i64 0,.int .i64 0]) hc.st (hc.d 3 Z Z Z Z) Z fun w b V=>⟨[_],⟨b,Z,Z⟩,V⟩)<|DO tab1 6 (fun _ _ _ hc=>zay (vs:=lII _ _) zaV Z (hc.old (v:=Pp _ _) Z Z Z) Z (zac (n:=2) (hc.st.objL (Ar Q0)) _ Z) hc.z)<|zfp (fun g v rs=>v = g 17 ∧ rs = []) tab1 7 (fun f' L' w' hc=> zap (v:=f' 17) (evs Z Z) ⟨[],fun g hg=>⟨(hg 4 17 Z Z).symm,Z⟩,hc.st⟩)<|RunD.fin zaw tab1 V Z (fun f2 w R5 hs3 hd4 hr6 V=>?_)
 obtain ⟨h13_,r0⟩:=hd4 0 13 rfl rfl
 obtain ⟨h14_,r1⟩:=hd4 1 14 rfl rfl
 obtain ⟨h15_,r2⟩:=hd4 2 15 rfl rfl
 obtain ⟨h16_,r3⟩:=hd4 3 16 rfl rfl
 obtain ⟨b17,h17_,r4⟩:=hd4 4 17 rfl rfl
 obtain ⟨h18_,r5⟩:=hd4 5 18 rfl rfl
 obtain ⟨h4_,r6⟩:=hd4 6 4 rfl rfl
 rw [DrawTab.mask tab1 _ (j:=6) (l:=4) (t:=17) rfl rfl,h17_] at h4_
 simp only [rg7,Fc,Fn,Mc,Mn,r0,r1,r2,r3,r4,r5,r6,Na,An,Ca] at V
 refine zaz (sl:=[(4,Pp _ _),(5,Pp _ _),(18,gII _ _)]) ⟨h4_,(hs3 5 Z).trans Z,h18_,trivial⟩ ?_
 clear hs3 hd4 hr6 tab1
 refine Q (SO (v:=gII _ _) V zaV Z Z .u3 fun w V=>?_)
 refine G<|zaq func72 Z (TP (v:=Pp _ _) Z) (zat (vs:=lII _ _) Z zaV Z Z (zac (n:=2) (V.objL Q3) _ Z)) ?_
 replace V:=V.pick (.k1 (.c .u1 .nil))
 exact ⟨_,_,_,Z,V.noD⟩
theorem zoi (s:Tx) (w:World) (hG:LxG.holds w) (hl:s.length ≤ 1099511627776):Ret prog 44 #[str s] w (fun v w'=>v = .tuple #[.agg #[.int .u32 (zcY s).1.1,.int .u32 (zcY s).1.2],.agg #[.int .i64 (zcY s).2.1,.int .i64 (zcY s).2.2]] ∧ St w NoM [] [] w'):=by
 refine zav (args:=[str s]) func44 Z Z Z ?_
 have V:St w NoM [] [LxG] w:=St.init_Ds (by simp only [List.forall_mem_cons]; exact ⟨hG,fun _ h=>absurd h List.not_mem_nil⟩)
 refine SR<|Q<|zar V zbF fun w b2 V=>Q<|zar V zaV fun w b3 V=>NSR<|MS Z<|Q (zaE (v1:=str _) (v2:=.int .u32 _) ent72 Z Z Z ((zog s 0 _ (V.hD _ Q0) hl).mono fun v w hp=>?_))
 obtain ⟨bq,ao,cp,rfl,hp⟩:=hp
 replace V:=V.call0 hp
 refine Q<|zad (v:=.tuple #[Pp _ _,gII _ _]) Z<|Q<|Ex (Pp _ _) Z Z<|Q<|Ex (gII _ _) Z Z<|Q<|zar V zaV fun w b5 V=>AP Z<|Q (SO (v:=gII _ _) V zaV Z Z .u0 fun w V=>?_)
 refine G<|SQ<|SR<|Q<|zaa zbB Z<|Q<|zae (v:=.int .i64 _) zdQ Z Z (V.cellL Q0 Z)<|Q<|zaF Z Z<|G<|zab Z (fun g1=>?_) (fun g1=>?_)
 ·refine SQ ?_
  replace V:=V.pick (.c .u4 (.k4 .nil))
  apply zaC [(2,Res.row b2 81 _,Res.row b2 81 _)] V (bs:=[0,0,1,7]) (ds:=[some 16,some 17,none,none]) (htab:=⟨Kr,Kr,Kr⟩)
  intro tab2
  refine DO tab2 1 (fun _ _ _ hc=>zaf zbF zc5 .nil hc.z) ?_
  refine DO tab2 2 (fun _ _ _ hc=>zay (vs:=lII _ _) zaV Z (hc.old (v:=Pp _ _) Z Z Z) Z (zac (n:=2) (hc.st.objL (Ar Q0)) _ Z) hc.z)<|zcb tab2 3 Q0 (fun f' L' L2 w' hc hsel=>zbC (v:=gUU _ _) hc.st zbF (hc.old (v:=Pp _ _) Z Z Z) (hc.d 0 Z Z Z Z) Z Z Z hsel (by repeat (first | exact Put.nil | apply Put.put | apply Put.skip)) fun w V=>⟨Z,V⟩) ?_
  refine RunD.fin zaw tab2 V Z (fun f3 w R6 hs4 hd5 hr7 V=>?_)
  obtain ⟨h16_,r0⟩:=hd5 0 16 rfl rfl
  obtain ⟨h17_,r1⟩:=hd5 1 17 rfl rfl
  obtain ⟨_,_,r2⟩:=hr7 2 rfl
  simp only [rg3,Fc,Fn,Mc,Mn,r0,r1,r2,Na,An,Ca] at V
  refine zaz (sl:=[(2,Pp _ _),(3,Pp _ _),(17,gII _ _)]) ⟨(hs4 2 Z).trans Z,(hs4 3 Z).trans Z,h17_,trivial⟩ ?_
  clear hs4 hd5 hr7 tab2
  refine Q (SO (v:=gII _ _) V zaV Z Z .u4 fun w V=>?_)
  refine G<|zaq func44 Z (zat (vs:=lUU _ _) Z zbF Z Z (zac (n:=2) (V.objL Q0) _ Z)) (zat (vs:=lII _ _) Z zaV Z Z (zac (n:=2) (V.objL Q4) _ Z)) ?_
  have he:zcY s = ((0,0),(zbn s).2):=if_pos g1
  rw [he]
  exact ⟨Z,V.pure⟩
 refine zag<|SQ ?_
 replace V:=V.pick (.k2 (.c .u1 (.c .u1 (.k1 .nil))))
 replace V:=V.toD (L1:=[_,_,_,_]) (L2:=[_])
 refine RG<|MP Z ?_
 replace V:=V.pick (.c .u1 (.k3 .nil))
 refine Q (zao (v1:=Pp _ _) ent93 Z Z ((zu4 _ s _ _ (zbn s).1 _ _ _ _ (V.hL _ Q0) (V.hD _ Q0) (V.sepD _ Q0 _ Q0) hl (zmG s) (zje s) (V.hD _ Q1) (V.sepD _ Q0 _ Q1)).mono fun v w hp=>?_))
 rcases hp with ⟨q,hq,hq0,rfl,a2,hp⟩ | ⟨gn,bd,hq,rfl,a2,hp⟩
 ·replace V := V.call1 hp
  refine Q<|zad (v:=.tuple #[gUU _ _,.bool _]) Z<|Q<|Ex (gUU _ _) Z Z<|Q<|Ex (.bool _) Z Z<|Q<|zar V zbF fun w b6 V=>Q (SO (v:=gUU _ _) V zbF Z Z .u0 fun w V=>?_)
  refine AB Z<|G<|zaj [(2,Pp _ _),(3,Pp _ _),(4,Pp _ _),(6,Pp _ _),(7,.bool _)] E5 fun f=>SQ<|SR<|MB Z<|Q<|zaU Z<|G<|zas (Vb (congrArg not (Z:false = _)))<|SQ ?_
  replace V:=V.pick (.c .u4 (.k4 .nil))
  apply zaC [(5,Res.row b2 81 _,Res.row b2 81 _)] V (bs:=[0,0,2,6,14,1,63]) (ds:=[some 25,some 26,some 27,some 28,some 29,none,none]) (htab:=⟨Kr,Kr,Kr⟩)
  intro tab8
  refine DO tab8 1 (fun _ _ _ hc=>zaf zbF zc5 .nil hc.z) ?_
  refine DO tab8 2 (fun _ _ _ hc=>zad (v:=Pp _ _) (hc.old Z Z Z) hc.z)<|DO tab8 3 (fun _ _ _ hc=>zan (hc.d 1 Z Z Z Z) hc.z)<|DO tab8 4 (fun _ _ _ hc=>zaa zl6 (hc.d 2 Z Z Z Z) hc.z)<|DO tab8 5 (fun _ _ _ hc=>zay (vs:=lII _ _) zaV Z (hc.d 3 Z Z Z Z) Z (zac (n:=2) (hc.st.objL (Ar Q1)) _ Z) hc.z)<|zcb tab8 6 Q0 (fun f' L' L2 w' hc hsel=>zbC (v:=gUU _ _) hc.st zbF (hc.old (v:=Pp _ _) Z Z Z) (hc.d 0 Z Z Z Z) Z Z Z hsel (by repeat (first | exact Put.nil | apply Put.put | apply Put.skip)) fun w V=>⟨Z,V⟩) ?_
  refine RunD.fin zaw tab8 V Z (fun f9 w R12 hs10 hd11 hr13 V=>?_)
  obtain ⟨h25_,r0⟩:=hd11 0 25 rfl rfl
  obtain ⟨h26_,r1⟩:=hd11 1 26 rfl rfl
  obtain ⟨h27_,r2⟩:=hd11 2 27 rfl rfl
  obtain ⟨h28_,r3⟩:=hd11 3 28 rfl rfl
  obtain ⟨h29_,r4⟩:=hd11 4 29 rfl rfl
  obtain ⟨_,_,r5⟩:=hr13 5 rfl
  simp only [rg6,Fc,Fn,Mc,Mn,r0,r1,r2,r3,r4,r5,Na,An,Ca] at V
  refine zaz (sl:=[(2,Pp _ _),(3,Pp _ _),(29,gII _ _)]) ⟨(hs10 2 Z).trans Z,(hs10 3 Z).trans Z,h29_,trivial⟩ ?_
  clear hs10 hd11 hr13 tab8
  refine Q (SO (v:=gII _ _) V zaV Z Z .u4 fun w V=>?_)
  refine G<|zaq func44 Z (zat (vs:=lUU _ _) Z zbF Z Z (zac (n:=2) (V.objL Q0) _ Z)) (zat (vs:=lII _ _) Z zaV Z Z (zac (n:=2) (V.objL Q4) _ Z)) ?_
  have he:zcY s = zeY s.length (zbn s).1:=if_neg g1
  rw [he,hq]
  exact ⟨Z,V.pure⟩
 ·replace V := V.call1 hp
  refine Q<|zad (v:=.tuple #[gUU _ _,.bool _]) Z<|Q<|Ex (gUU _ _) Z Z<|Q<|Ex (.bool _) Z Z<|Q<|zar V zbF fun w b6 V=>Q (SO (v:=gUU _ _) V zbF Z Z .u0 fun w V=>?_)
  refine AB Z<|G<|zaj [(2,Pp _ _),(3,Pp _ _),(4,Pp _ _),(6,Pp _ _),(7,.bool _)] E5 fun f=>SQ<|SR<|MB Z<|Q<|zaU Z<|G<|zal (Vb (congrArg not (Z:true = _)))<|zag<|SR<|Q<|zay (vs:=lUU _ _) zbF Z Z Z (zac (n:=2) (V.objL Q0) _ Z)<|Q (zaf zaV zbW .nil ?_)
  refine Q (SO (v:=gUU _ _) V zbF Z Z .u4 fun w V=>?_)
  refine Q (SO (v:=gII _ _) V zaV Z Z .u3 fun w V=>?_)
  refine G<|zaq func44 Z (zat (vs:=lUU _ _) Z zbF Z Z (zac (n:=2) (V.objL Q4) _ Z)) (zat (vs:=lII _ _) Z zaV Z Z (zac (n:=2) (V.objL Q3) _ Z)) ?_
  have he:zcY s = zeY s.length (zbn s).1:=if_neg g1
  rw [he,hq]
  exact ⟨Z,V.pure⟩
theorem zlx (bq:Nat) (s:Tx) (ao:Option Addr) (cp:Nat) (l:List TokL) (a:Nat) (Y e p:Int) (t:Tx) (m:Nat) (ht:zba t = some m) (w:World) (hB:(AR 130 bq s ao cp l (a:Int) Y e p).holds w) (hbd:0 ≤ Y ∧ Y < 4294967296):Ret prog 129 #[.pointer (some ⟨bq,0,none⟩),str t] w (fun v w'=>v = .int .u32 (idL t Y) ∧ St w (AR 130 bq s ao cp l (a:Int) Y e p).foot [AR 130 bq s ao cp l (a:Int) Y e p] [] w'):=by
 refine zav (args:=[.pointer (some ⟨bq,0,none⟩),str t]) func129 Z Z Z ?_
 have V:St w (AR 130 bq s ao cp l (a:Int) Y e p).foot [AR 130 bq s ao cp l (a:Int) Y e p] [] w:=St.enter1 hB (fun d hd=>by cases hd) (fun d hd=>by cases hd)
 refine SR<|AU Z<|NSR<|Q<|zap (v:=.int .u64 _) Z<|G<|SQ<|SR<|MS Z<|Q<|zbb (rest:=[]) ty9 Z<|MI Z<|G ?_
 refine zak<|zaY<|zaZ [(0,Pp _ _),(1,str _),(8,.int .i64 _)] E3 (fun (qq:Nat × Nat)=>[(5,.int .u64 (qq.2:Int)),(9,.int .i64 (qq.1:Int))]) (fun (qq:Nat × Nat)=>[]) (fun (qq:Nat × Nat)=>dgI t m qq.1 qq.2) (fun (qq:Nat × Nat)=>t.length - qq.1) ((0,0)) V (zuk ht) E2 ?_
 intro ⟨i,n⟩ f w V hJ ih1
 replace V:St _ _ ([] ++ [_]) _ _:=V
 replace hJ:dgI t m i n:=hJ
 refine za6 (sl:=[(5,.int .u64 (n:Int)),(9,.int .i64 (i:Int))]) E2 ?_
 have hj1:=hJ.le
 have hj2:=hJ.lt
 have hj3:=hJ.small
 have hj5:=hJ.len
 refine SR<|Q<|zaN Z Z<|G<|SQ<|zab Z (fun g2=>?_) (fun g2=>?_)
 ·have hb := zwI hJ O
  have hbn:=zwH hJ O
  have hidx:(t.getD ((i:Int).toNat) 0).toNat = (t.getD i 0).toNat:=rfl
  refine zag<|SQ<|zak<|SR<|MI Z<|AI Z<|NR<|Q<|zad (v:=.int .u64 _) Z<|Q<|zdp Z Z Z zgL<|MS Z<|MI Z<|Q<|za5 ty9 Z Z O O<|Q (zbu Z Z Z Wu8 ?_)
  first | refine Q (zaS ty5 zca rfl zgL ?_) | refine Q (za0 ty5 zca rfl ?_)
  refine Q<|zaA Z Z Z zgL<|Q<|zap (v:=.int .u64 _) Z<|G<|zah<|RG<|Q<|zaA Z Z Z zbt<|MI Z<|G<|zaD ?_
  exact ih1 ((i + 1,10 * n + ((t.getD i 0).toNat - 48))) _ w (Od) V ((zqI hJ O)) E3 ⟨(congrArg (Value.int .u64) Od),(Vi Od),trivial⟩
 refine zaK (id:=0) Z<|SQ<|SR<|Q<|zad (v:=.int .u64 _) Z<|MP Z<|Q<|zan Z<|Q<|zaa zqw Z<|Q (zae (v:=.int .u32 _) za9 Z Z (V.cellL Q0 Z) ?_)
 first | refine Q (zaS za9 zca rfl zgL ?_) | refine Q (za0 za9 zca rfl ?_)
 refine Q<|zbh Z Z<|G<|zab Z (fun g3=>?_) (fun g3=>?_)
 ·refine SR <| AU Z <| G <| zai func129 Z (TP (v := .int .u32 _) Z) ?_
  have hi:t.length ≤ i:=by omega
  rw [zyC hJ hi g3]
  exact ⟨Z,V⟩
 refine zag<|SR<|Q (zad (v:=.int .u64 _) Z ?_)
 first | refine Q (zaS zca za9 rfl zsa ?_) | refine Q (za0 zca za9 rfl ?_)
 refine AU Z<|G<|zai func129 Z (TP (v:=.int .u32 _) Z) ?_
 have hi:t.length ≤ i:=by omega
 rw [dgI_ok hJ hi g3]
 exact ⟨Z,V⟩
theorem zu3 (bq:Nat) (s:Tx) (ao:Option Addr) (cp:Nat) (l:List TokL) (a:Nat) (Y e p:Int) (w:World) (hB:(AR 130 bq s ao cp l (a:Int) Y e p).holds w) (hT:(AT 72 ao cp l).holds w) (hTA:Apart (AR 130 bq s ao cp l (a:Int) Y e p) (AT 72 ao cp l)) (hl:s.length ≤ 1099511627776) (hll:l.length ≤ s.length) (hts:wsz l ≤ 7 * s.length) (hbd:0 ≤ Y ∧ Y < 4294967296) (hpl:∀ i,i < l.length → (l.getD i zaM).kind = 2 → ∃ m,zba (l.getD i zaM).text = some m):Ret prog 130 #[.pointer (some ⟨bq,0,none⟩)] w (fun v w'=>(l.length ≤ a ∧ v = .tuple #[.int .u32 0,.bool false] ∧ St w (AR 130 bq s ao cp l (a:Int) Y e p).foot [AR 130 bq s ao cp l (a:Int) Y 72 (s.length)] [] w') ∨ (a < l.length ∧ (l.getD a zaM).kind ≠ 2 ∧ v = .tuple #[.int .u32 0,.bool false] ∧ St w (AR 130 bq s ao cp l (a:Int) Y e p).foot [AR 130 bq s ao cp l (a:Int) Y 70 ((l.getD a zaM).at_)] [] w') ∨ (a < l.length ∧ (l.getD a zaM).kind = 2 ∧ idL (l.getD a zaM).text Y = 0 ∧ v = .tuple #[.int .u32 0,.bool false] ∧ St w (AR 130 bq s ao cp l (a:Int) Y e p).foot [AR 130 bq s ao cp l (a + 1:Int) Y 43 ((l.getD a zaM).at_)] [] w') ∨ (a < l.length ∧ (l.getD a zaM).kind = 2 ∧ idL (l.getD a zaM).text Y ≠ 0 ∧ v = .tuple #[.int .u32 (idL (l.getD a zaM).text Y),.bool true] ∧ St w (AR 130 bq s ao cp l (a:Int) Y e p).foot [AR 130 bq s ao cp l (a + 1:Int) Y e p] [] w')):=by
 refine zav (args:=[.pointer (some ⟨bq,0,none⟩)]) func130 Z Z Z ?_
 have V:St w (AR 130 bq s ao cp l (a:Int) Y e p).foot [AR 130 bq s ao cp l (a:Int) Y e p] [AT 72 ao cp l] w:=St.enter1 hB (by simp only [List.forall_mem_cons]; exact ⟨hT,fun _ h=>absurd h List.not_mem_nil⟩) (by simp only [List.forall_mem_cons]; exact ⟨hTA,fun _ h=>absurd h List.not_mem_nil⟩)
 refine SR<|AU Z<|AB Z<|NSR<|MP Z<|Q (zaE (v1:=Pp _ _) (v2:=.int .u8 _) zjS Z Z Z ((zeh _ _ _ _ l a _ _ _ 2 _ (V.hL _ Q0) (V.hD _ Q0) (V.sepD _ Q0 _ Q0) hl hll hts).mono fun v w hp=>?_))
 rcases hp with ⟨hk9,rfl,hp⟩ | ⟨hk9,hd9,rfl,hp⟩ | ⟨hk9,hd9,rfl,hp⟩
 ·replace V := V.call1 hp
  refine Q<|zad (v:=.tuple #[zbZ _ _ _,.bool _]) Z<|Q<|Ex (zbZ _ _ _) Z Z<|Q<|Ex (.bool _) Z Z<|Q<|zar V zbw fun w b4 V=>Q (SO (v:=zbZ _ _ _) V zbw Z Z .u0 fun w V=>?_)
  refine AB Z<|G<|SQ<|SR<|MB Z<|Q<|zaU Z<|G<|zas (Vb (congrArg not (Z:false = _)))<|SR<|AU Z<|AB Z<|G<|zaq func130 Z (TP (v:=.int .u32 _) Z) (TP (v:=.bool _) Z) ?_
  replace V:=V.pick (.c .u1 .nil)
  exact .inl ⟨hk9,Z,V.noD⟩
 ·replace V := V.call1 hp
  refine Q<|zad (v:=.tuple #[zbZ _ _ _,.bool _]) Z<|Q<|Ex (zbZ _ _ _) Z Z<|Q<|Ex (.bool _) Z Z<|Q<|zar V zbw fun w b4 V=>Q (SO (v:=zbZ _ _ _) V zbw Z Z .u0 fun w V=>?_)
  refine AB Z<|G<|SQ<|SR<|MB Z<|Q<|zaU Z<|G<|zas (Vb (congrArg not (Z:false = _)))<|SR<|AU Z<|AB Z<|G<|zaq func130 Z (TP (v:=.int .u32 _) Z) (TP (v:=.bool _) Z) ?_
  replace V:=V.pick (.c .u1 .nil)
  exact .inr (.inl ⟨hk9,hd9,Z,V.noD⟩)
 ·replace V := V.call1 hp
  refine Q<|zad (v:=.tuple #[zbZ _ _ _,.bool _]) Z<|Q<|Ex (zbZ _ _ _) Z Z<|Q<|Ex (.bool _) Z Z<|Q<|zar V zbw fun w b4 V=>Q (SO (v:=zbZ _ _ _) V zbw Z Z .u0 fun w V=>?_)
  refine AB Z<|G<|SQ<|SR<|MB Z<|Q<|zaU Z<|G<|zal (Vb (congrArg not (Z:true = _)))<|zag<|SR<|MP Z<|Q<|zaa zbP Z<|Q (zae (v:=str _) ty9 Z Z (V.cellL Q0 Z) ?_)
  obtain ⟨m,hm⟩:=hpl a hk9 hd9
  replace V:=V.pick (.c .u1 (.k1 .nil))
  refine Q (zaE (v1:=Pp _ _) (v2:=str _) zxE Z Z Z ((zlx _ _ _ _ _ _ _ _ _ _ m hm _ (V.hL _ Q0) hbd).mono fun v w hp=>?_))
  obtain ⟨rfl,hp⟩:=hp
  replace V:=V.call1 hp
  refine AU Z<|G<|SQ<|SR<|MU Z<|Q<|zam Z Z<|G<|zab Z (fun g1=>?_) (fun g1=>?_)
  ·refine SR <| MP Z <| Q <| zaa zdv Z <| Q <| zae (v := .int .i64 _) ty3 Z Z (V.cellL Q1 Z) <| Q (zbj (v1 := Pp _ _) (v2 := .int .i64 _) (v3 := .int .i64 _) zdR Z Z Z Z ((zbE _ _ _ _ _ _ _ e p _ _ _ (V.hL _ Q0)).mono fun v w hp => ?_))
   obtain ⟨rfl,hp⟩:=hp
   replace V:=V.call1 hp
   refine AU Z<|AB Z<|G<|zaq func130 Z (TP (v:=.int .u32 _) Z) (TP (v:=.bool _) Z) ?_
   replace V:=V.pick (.k1 .nil)
   exact .inr (.inr (.inl ⟨hk9,hd9,g1,Z,V.noD⟩))
  refine zag<|SR<|MU Z<|AU Z<|AB Z<|G<|zaq func130 Z (TP (v:=.int .u32 _) Z) (TP (v:=.bool _) Z) ?_
  replace V:=V.pick (.k1 .nil)
  exact .inr (.inr (.inr ⟨hk9,hd9,g1,Z,V.noD⟩))
theorem zsx (bq:Nat) (s:Tx) (ao:Option Addr) (cp:Nat) (l:List TokL) (a:Nat) (Y e p:Int) (w:World) (ha:a < l.length) (hB:(AR 130 bq s ao cp l (a:Int) Y e p).holds w) (hT:(AT 72 ao cp l).holds w) (hTA:Apart (AR 130 bq s ao cp l (a:Int) Y e p) (AT 72 ao cp l)) (hl:s.length ≤ 1099511627776) (hll:l.length ≤ s.length) (hts:wsz l ≤ 7 * s.length) (hbd:0 ≤ Y ∧ Y < 4294967296) (hpl:∀ i,i < l.length → (l.getD i zaM).kind = 2 → ∃ m,zba (l.getD i zaM).text = some m):Ret prog 173 #[.pointer (some ⟨bq,0,none⟩)] w (fun v w'=>(∃ (z1 z2:Int) (z3:Tx) (a':Int),(zb4 105 (l.getD a zaM) Y).2 ≠ 0 ∧ v = .tuple #[.agg #[.int .u8 z1,.int .u32 z2,str z3],.bool false] ∧ St w (AR 130 bq s ao cp l (a:Int) Y e p).foot [Res.row bq 130 [str s,.slice ao l.length cp,.int .i64 (a':Int),.int .u32 Y,.int .i64 (zb4 105 (l.getD a zaM) Y).2,.int .i64 ((l.getD a zaM).at_)]] [] w') ∨ ((zb4 105 (l.getD a zaM) Y).2 = 0 ∧ v = .tuple #[.agg #[.int .u8 (zb4 105 (l.getD a zaM) Y).1.kind,.int .u32 (zb4 105 (l.getD a zaM) Y).1.n,str (zb4 105 (l.getD a zaM) Y).1.s],.bool true] ∧ St w (AR 130 bq s ao cp l (a:Int) Y e p).foot [AR 130 bq s ao cp l (a + 1:Int) Y e p] [] w')):=by
 refine zav (args:=[.pointer (some ⟨bq,0,none⟩)]) func173 Z Z Z ?_
 have V:St w (AR 130 bq s ao cp l (a:Int) Y e p).foot [AR 130 bq s ao cp l (a:Int) Y e p] [AT 72 ao cp l] w:=St.enter1 hB (by simp only [List.forall_mem_cons]; exact ⟨hT,fun _ h=>absurd h List.not_mem_nil⟩) (by simp only [List.forall_mem_cons]; exact ⟨hTA,fun _ h=>absurd h List.not_mem_nil⟩)
 refine SR<|Q<|zar V za1 fun w b2 V=>AB Z<|NSR<|MP Z ?_
 replace V:=V.pick (.c .u1 (.k1 .nil))
 refine Q (zao (v1:=Pp _ _) zxD Z Z ((zu3 _ _ _ _ l a _ _ _ _ (V.hL _ Q0) (V.hD _ Q0) (V.sepD _ Q0 _ Q0) hl hll hts hbd hpl).mono fun v w hp=>?_))
 rcases hp with ⟨hk8,rfl,hp⟩ | ⟨hk8,hd8,rfl,hp⟩ | ⟨hk8,hd8,he8,rfl,hp⟩ | ⟨hk8,hd8,he8,rfl,hp⟩
 ·exfalso; omega
 ·replace V := V.call1 hp
  refine Q<|zad (v:=.tuple #[.int .u32 _,.bool _]) Z<|Q<|Ex (.int .u32 _) Z Z<|Q<|Ex (.bool _) Z Z<|AU Z<|AB Z<|NSR<|MU Z<|Q (zaf za1 zeq (.c (v:=.int .u8 _) Z (h:=(.c (v:=.int .u32 _) Z (h:=.nil)))) ?_)
  refine MB Z<|Q (SO (v:=zeK _ _ _) V za1 Z Z .u1 fun w V=>?_)
  refine AB Z<|G<|zaq func173 Z (zat (vs:=zgJ _ _ _) Z za1 Z Z (zac (n:=3) (V.objL Q1) _ Z)) (TP (v:=.bool _) Z) ?_
  replace V:=V.pick (.k1 .nil)
  rw [zhJ (c:=105) (by decide) (show (l.getD a zaM).kind ≠ zfC 105 from hd8)]
  exact .inl ⟨_,_,_,_,(show (70:Int) ≠ 0 by decide),Z,V.noD⟩
 ·replace V := V.call1 hp
  refine Q<|zad (v:=.tuple #[.int .u32 _,.bool _]) Z<|Q<|Ex (.int .u32 _) Z Z<|Q<|Ex (.bool _) Z Z<|AU Z<|AB Z<|NSR<|MU Z<|Q (zaf za1 zeq (.c (v:=.int .u8 _) Z (h:=(.c (v:=.int .u32 _) Z (h:=.nil)))) ?_)
  refine MB Z<|Q (SO (v:=zeK _ _ _) V za1 Z Z .u1 fun w V=>?_)
  refine AB Z<|G<|zaq func173 Z (zat (vs:=zgJ _ _ _) Z za1 Z Z (zac (n:=3) (V.objL Q1) _ Z)) (TP (v:=.bool _) Z) ?_
  replace V:=V.pick (.k1 .nil)
  rw [zwT hd8 he8]
  exact .inl ⟨_,_,_,_,(show (43:Int) ≠ 0 by decide),Z,V.noD⟩
 ·replace V := V.call1 hp
  refine Q<|zad (v:=.tuple #[.int .u32 _,.bool _]) Z<|Q<|Ex (.int .u32 _) Z Z<|Q<|Ex (.bool _) Z Z<|AU Z<|AB Z<|NSR<|MU Z<|Q (zaf za1 zeq (.c (v:=.int .u8 _) Z (h:=(.c (v:=.int .u32 _) Z (h:=.nil)))) ?_)
  refine MB Z<|Q (SO (v:=zeK _ _ _) V za1 Z Z .u1 fun w V=>?_)
  refine AB Z<|G<|zaq func173 Z (zat (vs:=zgJ _ _ _) Z za1 Z Z (zac (n:=3) (V.objL Q1) _ Z)) (TP (v:=.bool _) Z) ?_
  replace V:=V.pick (.k1 .nil)
  rw [zyI hd8 he8]
  exact .inr ⟨Z,Z,V.noD⟩
theorem zkD (bq:Nat) (s:Tx) (ao:Option Addr) (cp:Nat) (l:List TokL) (a:Nat) (Y e p:Int) (w:World) (ha:a < l.length) (hB:(AR 130 bq s ao cp l (a:Int) Y e p).holds w) (hT:(AT 72 ao cp l).holds w) (hTA:Apart (AR 130 bq s ao cp l (a:Int) Y e p) (AT 72 ao cp l)) (hl:s.length ≤ 1099511627776) (hll:l.length ≤ s.length) (hts:wsz l ≤ 7 * s.length) (hG:LxG.holds w) (hGA:Apart (AR 130 bq s ao cp l (a:Int) Y e p) LxG):Ret prog 174 #[.pointer (some ⟨bq,0,none⟩)] w (fun v w'=>(∃ (z1 z2:Int) (z3:Tx) (a':Int),(zb4 110 (l.getD a zaM) Y).2 ≠ 0 ∧ v = .tuple #[.agg #[.int .u8 z1,.int .u32 z2,str z3],.bool false] ∧ St w (AR 130 bq s ao cp l (a:Int) Y e p).foot [Res.row bq 130 [str s,.slice ao l.length cp,.int .i64 (a':Int),.int .u32 Y,.int .i64 (zb4 110 (l.getD a zaM) Y).2,.int .i64 ((l.getD a zaM).at_)]] [] w') ∨ ((zb4 110 (l.getD a zaM) Y).2 = 0 ∧ v = .tuple #[.agg #[.int .u8 (zb4 110 (l.getD a zaM) Y).1.kind,.int .u32 (zb4 110 (l.getD a zaM) Y).1.n,str (zb4 110 (l.getD a zaM) Y).1.s],.bool true] ∧ St w (AR 130 bq s ao cp l (a:Int) Y e p).foot [AR 130 bq s ao cp l (a + 1:Int) Y e p] [] w')):=by
 refine zav (args:=[.pointer (some ⟨bq,0,none⟩)]) func174 Z Z Z ?_
 have V:St w (AR 130 bq s ao cp l (a:Int) Y e p).foot [AR 130 bq s ao cp l (a:Int) Y e p] [AT 72 ao cp l,LxG] w:=St.enter1 hB (by simp only [List.forall_mem_cons]; exact ⟨hT,hG,fun _ h=>absurd h List.not_mem_nil⟩) (by simp only [List.forall_mem_cons]; exact ⟨hTA,hGA,fun _ h=>absurd h List.not_mem_nil⟩)
 refine SR<|Q<|zar V za1 fun w b2 V=>AB Z<|NSR<|MP Z ?_
 replace V:=V.pick (.c .u1 (.k1 .nil))
 refine Q (zao (v1:=Pp _ _) zqC Z Z ((zfu _ _ _ _ l a _ _ _ _ (V.hL _ Q0) (V.hD _ Q0) (V.sepD _ Q0 _ Q0) hl hll hts (V.hD _ Q1) (V.sepD _ Q0 _ Q1)).mono fun v w hp=>?_))
 rcases hp with ⟨hk8,rfl,hp⟩ | ⟨hk8,hd8,rfl,hp⟩ | ⟨hk8,hd8,he8,rfl,hp⟩ | ⟨hk8,hd8,he8,rfl,hp⟩
 ·exfalso; omega
 ·replace V := V.call1 hp
  refine Q<|zad (v:=.tuple #[.int .u32 _,.bool _]) Z<|Q<|Ex (.int .u32 _) Z Z<|Q<|Ex (.bool _) Z Z<|AU Z<|AB Z<|NSR<|MU Z<|Q (zaf za1 zeq (.c (v:=.int .u8 _) Z (h:=(.c (v:=.int .u32 _) Z (h:=.nil)))) ?_)
  refine MB Z<|Q (SO (v:=zeK _ _ _) V za1 Z Z .u1 fun w V=>?_)
  refine AB Z<|G<|zaq func174 Z (zat (vs:=zgJ _ _ _) Z za1 Z Z (zac (n:=3) (V.objL Q1) _ Z)) (TP (v:=.bool _) Z) ?_
  replace V:=V.pick (.k1 .nil)
  rw [zhJ (c:=110) (by decide) (show (l.getD a zaM).kind ≠ zfC 110 from hd8)]
  exact .inl ⟨_,_,_,_,(show (70:Int) ≠ 0 by decide),Z,V.noD⟩
 ·replace V := V.call1 hp
  refine Q<|zad (v:=.tuple #[.int .u32 _,.bool _]) Z<|Q<|Ex (.int .u32 _) Z Z<|Q<|Ex (.bool _) Z Z<|AU Z<|AB Z<|NSR<|MU Z<|Q (zaf za1 zeq (.c (v:=.int .u8 _) Z (h:=(.c (v:=.int .u32 _) Z (h:=.nil)))) ?_)
  refine MB Z<|Q (SO (v:=zeK _ _ _) V za1 Z Z .u1 fun w V=>?_)
  refine AB Z<|G<|zaq func174 Z (zat (vs:=zgJ _ _ _) Z za1 Z Z (zac (n:=3) (V.objL Q1) _ Z)) (TP (v:=.bool _) Z) ?_
  replace V:=V.pick (.k1 .nil)
  rw [zux hd8 he8]
  exact .inl ⟨_,_,_,_,he8,Z,V.noD⟩
 ·replace V := V.call1 hp
  refine Q<|zad (v:=.tuple #[.int .u32 _,.bool _]) Z<|Q<|Ex (.int .u32 _) Z Z<|Q<|Ex (.bool _) Z Z<|AU Z<|AB Z<|NSR<|MU Z<|Q (zaf za1 zeq (.c (v:=.int .u8 _) Z (h:=(.c (v:=.int .u32 _) Z (h:=.nil)))) ?_)
  refine MB Z<|Q (SO (v:=zeK _ _ _) V za1 Z Z .u1 fun w V=>?_)
  refine AB Z<|G<|zaq func174 Z (zat (vs:=zgJ _ _ _) Z za1 Z Z (zac (n:=3) (V.objL Q1) _ Z)) (TP (v:=.bool _) Z) ?_
  replace V:=V.pick (.k1 .nil)
  rw [zwS hd8 he8]
  exact .inr ⟨Z,Z,V.noD⟩
theorem zof (bq:Nat) (s:Tx) (ao:Option Addr) (cp:Nat) (l:List TokL) (a:Nat) (Y e p:Int) (w:World) (ha:a < l.length) (hB:(AR 130 bq s ao cp l (a:Int) Y e p).holds w) (hT:(AT 72 ao cp l).holds w) (hTA:Apart (AR 130 bq s ao cp l (a:Int) Y e p) (AT 72 ao cp l)) (hl:s.length ≤ 1099511627776) (hll:l.length ≤ s.length) (hts:wsz l ≤ 7 * s.length):Ret prog 175 #[.pointer (some ⟨bq,0,none⟩)] w (fun v w'=>(∃ (z1 z2:Int) (z3:Tx) (a':Int),(zb4 115 (l.getD a zaM) Y).2 ≠ 0 ∧ v = .tuple #[.agg #[.int .u8 z1,.int .u32 z2,str z3],.bool false] ∧ St w (AR 130 bq s ao cp l (a:Int) Y e p).foot [Res.row bq 130 [str s,.slice ao l.length cp,.int .i64 (a':Int),.int .u32 Y,.int .i64 (zb4 115 (l.getD a zaM) Y).2,.int .i64 ((l.getD a zaM).at_)]] [] w') ∨ ((zb4 115 (l.getD a zaM) Y).2 = 0 ∧ v = .tuple #[.agg #[.int .u8 (zb4 115 (l.getD a zaM) Y).1.kind,.int .u32 (zb4 115 (l.getD a zaM) Y).1.n,str (zb4 115 (l.getD a zaM) Y).1.s],.bool true] ∧ St w (AR 130 bq s ao cp l (a:Int) Y e p).foot [AR 130 bq s ao cp l (a + 1:Int) Y e p] [] w')):=by
 refine zav (args:=[.pointer (some ⟨bq,0,none⟩)]) func175 Z Z Z ?_
 have V:St w (AR 130 bq s ao cp l (a:Int) Y e p).foot [AR 130 bq s ao cp l (a:Int) Y e p] [AT 72 ao cp l] w:=St.enter1 hB (by simp only [List.forall_mem_cons]; exact ⟨hT,fun _ h=>absurd h List.not_mem_nil⟩) (by simp only [List.forall_mem_cons]; exact ⟨hTA,fun _ h=>absurd h List.not_mem_nil⟩)
 refine SR<|Q<|zar V za1 fun w b2 V=>AB Z<|NSR<|MP Z ?_
 replace V:=V.pick (.c .u1 (.k1 .nil))
 refine Q (zaE (v1:=Pp _ _) (v2:=.int .u8 _) zjS Z Z Z ((zeh _ _ _ _ l a _ _ _ 4 _ (V.hL _ Q0) (V.hD _ Q0) (V.sepD _ Q0 _ Q0) hl hll hts).mono fun v w hp=>?_))
 rcases hp with ⟨hk9,rfl,hp⟩ | ⟨hk9,hd9,rfl,hp⟩ | ⟨hk9,hd9,rfl,hp⟩
 ·exfalso; omega
 ·replace V := V.call1 hp
  refine Q<|zad (v:=.tuple #[zbZ _ _ _,.bool _]) Z<|Q<|Ex (zbZ _ _ _) Z Z<|Q<|Ex (.bool _) Z Z<|Q<|zar V zbw fun w b4 V=>Q (SO (v:=zbZ _ _ _) V zbw Z Z .u0 fun w V=>?_)
  refine AB Z<|G<|SQ<|SR<|Q<|zaa zbP Z<|Q<|zae (v:=str _) ty9 Z Z (V.cellL Q0 Z)<|Q<|zbb (rest:=[]) ty9 Z<|MI Z<|G<|zak<|zaY<|zaZ [(0,Pp _ _),(2,Pp _ _),(4,Pp _ _),(5,.bool _),(14,.int .i64 _)] E5 (fun (qq:Nat)=>[(15,.int .i64 (qq:Int))]) (fun (qq:Nat)=>[]) (fun (qq:Nat)=>qq = 0) (fun (qq:Nat)=>0) (0) V Z ⟨Z,trivial⟩ ?_
  intro i f w V hJ ih1
  replace V:St _ _ ([] ++ [_,_,_]) _ _:=V
  replace hJ:i = 0:=hJ
  refine za6 (sl:=[(15,.int .i64 (i:Int))]) ⟨Z,trivial⟩<|SR<|Q<|zaN Z Z<|G<|SQ<|zab Z (fun g2=>?_) (fun g2=>?_)
  ·exfalso
   first | omega | (simp at g2; done) | (simp at g2; omega)
  refine zaK (id:=0) Z<|SR<|Q<|zaa zbP Z<|Q<|zae (v:=str _) ty9 Z Z (V.cellL Q0 Z)<|Q (zaf za1 zeq (.c (v:=.int .u8 _) Z (h:=(.c (v:=str _) Z (h:=.nil)))) ?_)
  refine MB Z<|Q (SO (v:=zeK _ _ _) V za1 Z Z .u2 fun w V=>?_)
  refine AB Z<|G<|zaq func175 Z (zat (vs:=zgJ _ _ _) Z za1 Z Z (zac (n:=3) (V.objL Q2) _ Z)) (TP (v:=.bool _) Z) ?_
  replace V:=V.pick (.c .u1 .nil)
  rw [zhJ (c:=115) (by decide) (show (l.getD a zaM).kind ≠ zfC 115 from hd9)]
  exact .inl ⟨_,_,_,_,(show (70:Int) ≠ 0 by decide),Z,V.noD⟩
 ·replace V := V.call1 hp
  refine Q<|zad (v:=.tuple #[zbZ _ _ _,.bool _]) Z<|Q<|Ex (zbZ _ _ _) Z Z<|Q<|Ex (.bool _) Z Z<|Q<|zar V zbw fun w b4 V=>Q (SO (v:=zbZ _ _ _) V zbw Z Z .u0 fun w V=>?_)
  refine AB Z<|G<|SQ<|SR<|Q<|zaa zbP Z<|Q<|zae (v:=str _) ty9 Z Z (V.cellL Q0 Z)<|Q<|zbb (rest:=[]) ty9 Z<|MI Z<|G<|zak<|zaY<|zaZ [(0,Pp _ _),(2,Pp _ _),(4,Pp _ _),(5,.bool _),(14,.int .i64 _)] E5 (fun (qq:Nat)=>[(15,.int .i64 (qq:Int))]) (fun (qq:Nat)=>[]) (fun (qq:Nat)=>qq ≤ (l.getD a zaM).text.length ∧ ∀ j,j < qq → (l.getD a zaM).text.getD j 0 ≠ 0) (fun (qq:Nat)=>(l.getD a zaM).text.length - qq) (0) V ⟨Nat.zero_le _,fun j hj=>absurd hj (Nat.not_lt_zero _)⟩ ⟨Z,trivial⟩ ?_
  intro i f w V hJ ih3
  replace V:St _ _ ([] ++ [_,_,_]) _ _:=V
  replace hJ:i ≤ (l.getD a zaM).text.length ∧ ∀ j,j < i → (l.getD a zaM).text.getD j 0 ≠ 0:=hJ
  refine za6 (sl:=[(15,.int .i64 (i:Int))]) ⟨Z,trivial⟩ ?_
  have hj1:=hJ.1
  have hidx:((l.getD a zaM).text.getD ((i:Int).toNat) 0).toNat = ((l.getD a zaM).text.getD i 0).toNat:=rfl
  have hwm:=zja (l:=l) (i:=a) O
  refine SR<|Q<|zaN Z Z<|G<|SQ<|zab Z (fun g4=>?_) (fun g4=>?_)
  ·refine zag <| SQ <| zak <| SR <| MI Z <| AI Z <| NSR <| Q <| zaa zbP Z <| Q <| zae (v := str _) ty9 Z Z (V.cellL Q0 Z) <| MI Z <| Q <| za5 ty9 Z Z O O <| Q (zam Z Z ?_)
   refine G<|zab Z (fun g5=>?_) (fun g5=>?_)
   ·refine SR <| Q (zaf za1 zeq .nil ?_)
    refine MP Z<|Q<|zaa zdv Z<|Q (zae (v:=.int .i64 _) ty3 Z Z (V.cellL Q0 Z) ?_)
    replace V:=V.pick (.c .u1 (.k2 .nil))
    refine Q (zbj (v1:=Pp _ _) (v2:=.int .i64 _) (v3:=.int .i64 _) zdR Z Z Z Z ((zbE _ _ _ _ _ _ _ e p _ _ _ (V.hL _ Q0)).mono fun v w hp=>?_))
    obtain ⟨rfl,hp⟩:=hp
    replace V:=V.call1 hp
    refine Q (SO (v:=zeK _ _ _) V za1 Z Z .u2 fun w V=>?_)
    refine AB Z<|G<|zaq func175 Z (zat (vs:=zgJ _ _ _) Z za1 Z Z (zac (n:=3) (V.objL Q2) _ Z)) (TP (v:=.bool _) Z) ?_
    replace V:=V.pick (.k1 .nil)
    have hz:zbr (l.getD a zaM).text = i:=zly (by omega) (UInt8.toNat_inj.1 (by rw [← hidx]; show _ = 0; omega)) hJ.2
    rw [zuv hd9 (by rw [hz]; omega)]
    exact .inl ⟨_,_,_,_,(show (13:Int) ≠ 0 by decide),Z,V.noD⟩
   refine zag<|zah<|RG<|Q<|zaA Z Z Z zbt<|MI Z<|G<|zaD ?_
   exact ih3 (i + 1) _ w ((by omega)) V (⟨by omega,zo1 hJ.2 (fun e=>g5 (by rw [hidx,e]; rfl))⟩) E5 ⟨(Vi (by omega)),trivial⟩
  refine zaK (id:=0) Z<|SR<|Q<|zaa zbP Z<|Q<|zae (v:=str _) ty9 Z Z (V.cellL Q0 Z)<|Q (zaf za1 zeq (.c (v:=.int .u8 _) Z (h:=(.c (v:=str _) Z (h:=.nil)))) ?_)
  refine MB Z<|Q (SO (v:=zeK _ _ _) V za1 Z Z .u2 fun w V=>?_)
  refine AB Z<|G<|zaq func175 Z (zat (vs:=zgJ _ _ _) Z za1 Z Z (zac (n:=3) (V.objL Q2) _ Z)) (TP (v:=.bool _) Z) ?_
  replace V:=V.pick (.c .u1 .nil)
  have hz:zbr (l.getD a zaM).text = (l.getD a zaM).text.length:=zeM (fun q hq=>hJ.2 q O)
  rw [zwR hd9 hz]
  exact .inr ⟨Z,Z,V.noD⟩
theorem zoh (bq:Nat) (s:Tx) (ao:Option Addr) (cp:Nat) (l:List TokL) (a:Nat) (Y e p:Int) (c:Int) (hc:0 ≤ c ∧ c ≤ 255) (hc0:c ≠ 0) (hc1:c ≠ 105) (hc2:c ≠ 110) (hc3:c ≠ 115) (w:World) (ha:a < l.length) (hB:(AR 130 bq s ao cp l (a:Int) Y e p).holds w) (hT:(AT 72 ao cp l).holds w) (hTA:Apart (AR 130 bq s ao cp l (a:Int) Y e p) (AT 72 ao cp l)) (hl:s.length ≤ 1099511627776) (hll:l.length ≤ s.length) (hts:wsz l ≤ 7 * s.length):Ret prog 177 #[.pointer (some ⟨bq,0,none⟩),.int .u8 c] w (fun v w'=>(∃ (z1 z2:Int) (z3:Tx) (a':Int),(zb4 c (l.getD a zaM) Y).2 ≠ 0 ∧ v = .tuple #[.agg #[.int .u8 z1,.int .u32 z2,str z3],.bool false] ∧ St w (AR 130 bq s ao cp l (a:Int) Y e p).foot [Res.row bq 130 [str s,.slice ao l.length cp,.int .i64 (a':Int),.int .u32 Y,.int .i64 (zb4 c (l.getD a zaM) Y).2,.int .i64 ((l.getD a zaM).at_)]] [] w') ∨ ((zb4 c (l.getD a zaM) Y).2 = 0 ∧ v = .tuple #[.agg #[.int .u8 (zb4 c (l.getD a zaM) Y).1.kind,.int .u32 (zb4 c (l.getD a zaM) Y).1.n,str (zb4 c (l.getD a zaM) Y).1.s],.bool true] ∧ St w (AR 130 bq s ao cp l (a:Int) Y e p).foot [AR 130 bq s ao cp l (a + 1:Int) Y e p] [] w')):=by
 refine zav (args:=[.pointer (some ⟨bq,0,none⟩),.int .u8 c]) func177 Z Z Z ?_
 have V:St w (AR 130 bq s ao cp l (a:Int) Y e p).foot [AR 130 bq s ao cp l (a:Int) Y e p] [AT 72 ao cp l] w:=St.enter1 hB (by simp only [List.forall_mem_cons]; exact ⟨hT,fun _ h=>absurd h List.not_mem_nil⟩) (by simp only [List.forall_mem_cons]; exact ⟨hTA,fun _ h=>absurd h List.not_mem_nil⟩)
 refine SR<|Q<|zar V za1 fun w b4 V=>AB Z<|NSR<|MP Z ?_
 replace V:=V.pick (.c .u1 (.k1 .nil))
 refine Q (zaE (v1:=Pp _ _) (v2:=.int .u8 _) zjS Z Z Z ((zeh _ _ _ _ l a _ _ _ 1 _ (V.hL _ Q0) (V.hD _ Q0) (V.sepD _ Q0 _ Q0) hl hll hts).mono fun v w hp=>?_))
 rcases hp with ⟨hk12,rfl,hp⟩ | ⟨hk12,hd12,rfl,hp⟩ | ⟨hk12,hd12,rfl,hp⟩
 ·exfalso; omega
 ·replace V := V.call1 hp
  refine Q<|zad (v:=.tuple #[zbZ _ _ _,.bool _]) Z<|Q<|Ex (zbZ _ _ _) Z Z<|Q<|Ex (.bool _) Z Z<|Q<|zar V zbw fun w b6 V=>Q (SO (v:=zbZ _ _ _) V zbw Z Z .u0 fun w V=>?_)
  refine AB Z<|G<|SQ<|SR<|MB Z<|Q<|zaU Z<|G<|zas (Vb (congrArg not (Z:false = _)))<|SR<|Q (zaf za1 zeq .nil ?_)
  refine Q (SO (v:=zeK _ _ _) V za1 Z Z .u2 fun w V=>?_)
  refine AB Z<|G<|zaq func177 Z (zat (vs:=zgJ _ _ _) Z za1 Z Z (zac (n:=3) (V.objL Q2) _ Z)) (TP (v:=.bool _) Z) ?_
  replace V:=V.pick (.c .u1 .nil)
  rw [zhJ hc0 (by rw [zia hc1 hc2 hc3]; exact hd12)]
  exact .inl ⟨_,_,_,_,(show (70:Int) ≠ 0 by decide),Z,V.noD⟩
 ·replace V := V.call1 hp
  refine Q<|zad (v:=.tuple #[zbZ _ _ _,.bool _]) Z<|Q<|Ex (zbZ _ _ _) Z Z<|Q<|Ex (.bool _) Z Z<|Q<|zar V zbw fun w b6 V=>Q (SO (v:=zbZ _ _ _) V zbw Z Z .u0 fun w V=>?_)
  refine AB Z<|G<|SQ<|SR<|MB Z<|Q<|zaU Z<|G<|zal (Vb (congrArg not (Z:true = _)))<|zag<|SR<|MC Z<|Q<|zaa zbP Z<|Q (zae (v:=str _) ty9 Z Z (V.cellL Q0 Z) ?_)
  refine Q<|zaE (v1:=.int .u8 _) (v2:=str _) ent209 Z Z Z<|Ret.det (zkC c (l.getD a zaM).text hc.1 hc.2 _) V fun w V=>Q<|zad (v:=.tuple #[.int .u32 _,.bool _]) Z<|Q<|Ex (.int .u32 _) Z Z<|Q<|Ex (.bool _) Z Z<|AU Z<|AB Z<|G<|zaj [(0,Pp _ _),(4,Pp _ _),(6,Pp _ _),(8,.int .u32 _),(9,.bool _)] E5 fun f=>SQ<|SR<|MB Z<|Q<|zaU Z<|G<|zaQ Z (fun g1=>?_) (fun g1=>?_)
  ·refine SR <| Q (zaf za1 zeq .nil ?_)
   refine MP Z<|Q<|zaa zdv Z<|Q (zae (v:=.int .i64 _) ty3 Z Z (V.cellL Q0 Z) ?_)
   replace V:=V.pick (.c .u1 (.k2 .nil))
   refine Q (zbj (v1:=Pp _ _) (v2:=.int .i64 _) (v3:=.int .i64 _) zdR Z Z Z Z ((zbE _ _ _ _ _ _ _ e p _ _ _ (V.hL _ Q0)).mono fun v w hp=>?_))
   obtain ⟨rfl,hp⟩:=hp
   replace V:=V.call1 hp
   refine Q (SO (v:=zeK _ _ _) V za1 Z Z .u2 fun w V=>?_)
   refine AB Z<|G<|zaq func177 Z (zat (vs:=zgJ _ _ _) Z za1 Z Z (zac (n:=3) (V.objL Q2) _ Z)) (TP (v:=.bool _) Z) ?_
   replace V:=V.pick (.k1 .nil)
   rw [zr8 hc0 hc1 hc2 hc3 hd12 (by simpa using g1)]
   exact .inl ⟨_,_,_,_,(show (71:Int) ≠ 0 by decide),Z,V.noD⟩
  refine zag<|SR<|MU Z<|Q (zaf za1 zeq (.c (v:=.int .u8 _) Z (h:=(.c (v:=.int .u32 _) Z (h:=.nil)))) ?_)
  refine Q (SO (v:=zeK _ _ _) V za1 Z Z .u2 fun w V=>?_)
  refine AB Z<|G<|zaq func177 Z (zat (vs:=zgJ _ _ _) Z za1 Z Z (zac (n:=3) (V.objL Q2) _ Z)) (TP (v:=.bool _) Z) ?_
  replace V:=V.pick (.c .u1 .nil)
  rw [zuz hc0 hc1 hc2 hc3 hd12 (by simpa using g1)]
  exact .inr ⟨Z,Z,V.noD⟩
theorem zu5 (bq:Nat) (c:Int) (w:World):Ret prog 132 #[.pointer (some ⟨bq,0,none⟩),.int .u8 c] w (fun v w'=>(c = 105 ∧ v = .func (.func 173) #[.pointer (some ⟨bq,0,none⟩)] #[] ∧ St w NoM [] [] w') ∨ (c = 110 ∧ v = .func (.func 174) #[.pointer (some ⟨bq,0,none⟩)] #[] ∧ St w NoM [] [] w') ∨ (c = 115 ∧ v = .func (.func 175) #[.pointer (some ⟨bq,0,none⟩)] #[] ∧ St w NoM [] [] w') ∨ (c ≠ 105 ∧ c ≠ 110 ∧ c ≠ 115 ∧ ∃ b2 b3,v = .func (.func 176) #[] #[.pointer (some ⟨b2,0,none⟩),.pointer (some ⟨b3,0,none⟩)] ∧ St w NoM [Res.row b2 124 [.pointer (some ⟨bq,0,none⟩)],Res.row b3 5 [.int .u8 c]] [] w')):=by
 refine zav (args:=[.pointer (some ⟨bq,0,none⟩),.int .u8 c]) func132 Z Z Z ?_
 have V:=St.init w
 refine SR<|Q<|zbi (v:=Pp _ _) V Z Z fun w b2 V=>Q<|zbi (v:=.int .u8 _) V Z Z fun w b3 V=>Q<|zap (v:=_) Z<|G<|SQ<|SR<|Q<|zae (v:=.int .u8 _) ty5 Z Z (V.cellL Q0 Z)<|G<|zak<|SR<|Q (zam Z Z ?_)
 refine AB Z<|G<|zab Z (fun g1=>?_) (fun g1=>?_)
 ·refine SR <| Q <| zae (v := .pointer _) zvv Z Z (V.cellL Q1 Z) <| Q <| zbQ <| Q <| zap (v := .func _ _ _) Z <| G <| zai func132 Z (TP (v := .func _ _ _) Z) ?_
  exact .inl ⟨by omega,Z,V.pure⟩
 refine SR<|Q<|zam Z Z<|AB Z<|G<|zab Z (fun g2=>?_) (fun g2=>?_)
 ·refine SR <| Q <| zae (v := .pointer _) zvv Z Z (V.cellL Q1 Z) <| Q <| zbQ <| Q <| zap (v := .func _ _ _) Z <| G <| zai func132 Z (TP (v := .func _ _ _) Z) ?_
  exact .inr (.inl ⟨by omega,Z,V.pure⟩)
 refine SR<|Q<|zam Z Z<|AB Z<|G<|zab Z (fun g3=>?_) (fun g3=>?_)
 ·refine SR <| Q <| zae (v := .pointer _) zvv Z Z (V.cellL Q1 Z) <| Q <| zbQ <| Q <| zap (v := .func _ _ _) Z <| G <| zai func132 Z (TP (v := .func _ _ _) Z) ?_
  exact .inr (.inr (.inl ⟨by omega,Z,V.pure⟩))
 refine zag<|zah<|SR<|Q<|zbQ<|Q<|zap (v:=.func _ _ _) Z<|G<|zai func132 Z (TP (v:=.func _ _ _) Z) ?_
 replace V:=V.pick (.c .u1 (.k1 .nil))
 exact .inr (.inr (.inr ⟨by omega,by omega,by omega,_,_,Z,V⟩))
theorem zsz (bq:Nat) (s:Tx) (ao:Option Addr) (cp:Nat) (l:List TokL) (a:Nat) (Y e p:Int) (c:Int) (hc:0 ≤ c ∧ c ≤ 255) (hc0:c ≠ 0) (hc1:c ≠ 105) (hc2:c ≠ 110) (hc3:c ≠ 115) (c2 c3:Nat) (w:World) (ha:a < l.length) (hB:(AR 130 bq s ao cp l (a:Int) Y e p).holds w) (hT:(AT 72 ao cp l).holds w) (hTA:Apart (AR 130 bq s ao cp l (a:Int) Y e p) (AT 72 ao cp l)) (hl:s.length ≤ 1099511627776) (hll:l.length ≤ s.length) (hts:wsz l ≤ 7 * s.length) (h2:(Res.row c2 124 [.pointer (some ⟨bq,0,none⟩)]).holds w) (h3:(Res.row c3 5 [.int .u8 c]).holds w) (ha2:Apart (AR 130 bq s ao cp l (a:Int) Y e p) (Res.row c2 124 [.pointer (some ⟨bq,0,none⟩)])) (ha3:Apart (AR 130 bq s ao cp l (a:Int) Y e p) (Res.row c3 5 [.int .u8 c])):Ret prog 176 #[.pointer (some ⟨c2,0,none⟩),.pointer (some ⟨c3,0,none⟩)] w (fun v w'=>(∃ (z1 z2:Int) (z3:Tx) (a':Int),(zb4 c (l.getD a zaM) Y).2 ≠ 0 ∧ v = .tuple #[.agg #[.int .u8 z1,.int .u32 z2,str z3],.bool false] ∧ St w (AR 130 bq s ao cp l (a:Int) Y e p).foot [Res.row bq 130 [str s,.slice ao l.length cp,.int .i64 (a':Int),.int .u32 Y,.int .i64 (zb4 c (l.getD a zaM) Y).2,.int .i64 ((l.getD a zaM).at_)]] [] w') ∨ ((zb4 c (l.getD a zaM) Y).2 = 0 ∧ v = .tuple #[.agg #[.int .u8 (zb4 c (l.getD a zaM) Y).1.kind,.int .u32 (zb4 c (l.getD a zaM) Y).1.n,str (zb4 c (l.getD a zaM) Y).1.s],.bool true] ∧ St w (AR 130 bq s ao cp l (a:Int) Y e p).foot [AR 130 bq s ao cp l (a + 1:Int) Y e p] [] w')):=by
 refine zav (args:=[.pointer (some ⟨c2,0,none⟩),.pointer (some ⟨c3,0,none⟩)]) func176 Z Z Z ?_
 have V:St w (AR 130 bq s ao cp l (a:Int) Y e p).foot [AR 130 bq s ao cp l (a:Int) Y e p] [AT 72 ao cp l,Res.row c2 124 [.pointer (some ⟨bq,0,none⟩)],Res.row c3 5 [.int .u8 c]] w:=St.enter1 hB (by simp only [List.forall_mem_cons]; exact ⟨hT,h2,h3,fun _ h=>absurd h List.not_mem_nil⟩) (by simp only [List.forall_mem_cons]; exact ⟨hTA,ha2,ha3,fun _ h=>absurd h List.not_mem_nil⟩)
 refine SR<|Q<|zar V za1 fun w b2 V=>AB Z<|NSR<|Q<|zae (v:=Pp _ _) zvv Z Z (V.cellD Q1 Z)<|Q (zae (v:=.int .u8 _) ty5 Z Z (V.cellD Q2 Z) ?_)
 replace V:=V.pick (.c .u1 (.k1 .nil))
 refine Q (zaE (v1:=Pp _ _) (v2:=.int .u8 _) ent177 Z Z Z ((zoh _ _ _ _ l a _ _ _ c hc hc0 hc1 hc2 hc3 _ ha (V.hL _ Q0) (V.hD _ Q0) (V.sepD _ Q0 _ Q0) hl hll hts).mono fun v w hp=>?_))
 rcases hp with ⟨z1,z2,z3,a2,hne,rfl,hp⟩ | ⟨hz,rfl,hp⟩
 ·replace V := V.call1 hp
  refine Q<|Ex (zeK _ _ _) Z Z<|Q<|Ex (.bool _) Z Z<|Q (SO (v:=zeK _ _ _) V za1 Z Z .u1 fun w V=>?_)
  refine AB Z<|G<|zaq func176 Z (zat (vs:=zgJ _ _ _) Z za1 Z Z (zac (n:=3) (V.objL Q1) _ Z)) (TP (v:=.bool _) Z) ?_
  replace V:=V.pick (.k1 .nil)
  exact .inl ⟨_,_,_,_,hne,Z,V.noD⟩
 ·replace V := V.call1 hp
  refine Q<|Ex (zeK _ _ _) Z Z<|Q<|Ex (.bool _) Z Z<|Q (SO (v:=zeK _ _ _) V za1 Z Z .u1 fun w V=>?_)
  refine AB Z<|G<|zaq func176 Z (zat (vs:=zgJ _ _ _) Z za1 Z Z (zac (n:=3) (V.objL Q1) _ Z)) (TP (v:=.bool _) Z) ?_
  replace V:=V.pick (.k1 .nil)
  exact .inr ⟨hz,Z,V.noD⟩
theorem CallV.mono {P:Program} {fv:Value} {args:List Value} {w:World} {C C':Value → World → Prop} (h:CallV P fv args w C) (hc:∀ v w,C v w → C' v w):CallV P fv args w C':=Inv.mono h hc
theorem zsy (bq:Nat) (s:Tx) (ao:Option Addr) (cp:Nat) (l:List TokL) (a:Nat) (Y e p:Int) (c:Int) (hc:0 ≤ c ∧ c ≤ 255) (hc0:c ≠ 0) (w:World) (ha:a < l.length) (hl:s.length ≤ 1099511627776) (hll:l.length ≤ s.length) (hts:wsz l ≤ 7 * s.length) (hbd:0 ≤ Y ∧ Y < 4294967296) (hpl:∀ i,i < l.length → (l.getD i zaM).kind = 2 → ∃ m,zba (l.getD i zaM).text = some m):Ret prog 132 #[.pointer (some ⟨bq,0,none⟩),.int .u8 c] w (fun v w'=>∃ fn fi ca R,v = .func fn fi ca ∧ St w NoM [R] [] w' ∧ ∀ w1,(AR 130 bq s ao cp l (a:Int) Y e p).holds w1 → (AT 72 ao cp l).holds w1 → Apart (AR 130 bq s ao cp l (a:Int) Y e p) (AT 72 ao cp l) → LxG.holds w1 → Apart (AR 130 bq s ao cp l (a:Int) Y e p) LxG → R.holds w1 → Apart (AR 130 bq s ao cp l (a:Int) Y e p) R → CallV prog (.func fn fi ca) [] w1 (fun v w'=>(∃ (z1 z2:Int) (z3:Tx) (a':Int),(zb4 c (l.getD a zaM) Y).2 ≠ 0 ∧ v = .tuple #[.agg #[.int .u8 z1,.int .u32 z2,str z3],.bool false] ∧ St w1 (AR 130 bq s ao cp l (a:Int) Y e p).foot [Res.row bq 130 [str s,.slice ao l.length cp,.int .i64 (a':Int),.int .u32 Y,.int .i64 (zb4 c (l.getD a zaM) Y).2,.int .i64 ((l.getD a zaM).at_)]] [] w') ∨ ((zb4 c (l.getD a zaM) Y).2 = 0 ∧ v = .tuple #[.agg #[.int .u8 (zb4 c (l.getD a zaM) Y).1.kind,.int .u32 (zb4 c (l.getD a zaM) Y).1.n,str (zb4 c (l.getD a zaM) Y).1.s],.bool true] ∧ St w1 (AR 130 bq s ao cp l (a:Int) Y e p).foot [AR 130 bq s ao cp l (a + 1:Int) Y e p] [] w'))):=by
 refine (zu5 bq c w).mono fun v w' h=>?_
 rcases h with ⟨rfl,rfl,hp⟩ | ⟨rfl,rfl,hp⟩ | ⟨rfl,rfl,hp⟩ | ⟨h1,h2,h3,b2,b3,rfl,hp⟩
 ·refine ⟨_,_,_,Res.star [],Z,hp.starNil,fun w1 r1 r2 r3 r4 r5 r6 r7=>zdy (first:=[_]) (cap:=[]) ent173 (zsx bq s ao cp l a Y e p w1 ha r1 r2 r3 hl hll hts hbd hpl)⟩
 ·refine ⟨_,_,_,Res.star [],Z,hp.starNil,fun w1 r1 r2 r3 r4 r5 r6 r7=>zdy (first:=[_]) (cap:=[]) ent174 (zkD bq s ao cp l a Y e p w1 ha r1 r2 r3 hl hll hts r4 r5)⟩
 ·refine ⟨_,_,_,Res.star [],Z,hp.starNil,fun w1 r1 r2 r3 r4 r5 r6 r7=>zdy (first:=[_]) (cap:=[]) ent175 (zof bq s ao cp l a Y e p w1 ha r1 r2 r3 hl hll hts)⟩
 ·refine ⟨_,_,_,Res.star [_,_],Z,St.pack (L1:=[_,_]) hp,fun w1 r1 r2 r3 r4 r5 r6 r7=>zd1 (cap:=[_,_]) ent176 (zsz bq s ao cp l a Y e p c hc hc0 h1 h2 h3 b2 b3 w1 ha r1 r2 r3 hl hll hts (r6.1 _ Q0) (r6.1 _ Q1) (fun b hb hb2=>r7 b hb ⟨_,.head _,hb2⟩) (fun b hb hb2=>r7 b hb ⟨_,.tail _ Q0,hb2⟩))⟩
end Go.SK
