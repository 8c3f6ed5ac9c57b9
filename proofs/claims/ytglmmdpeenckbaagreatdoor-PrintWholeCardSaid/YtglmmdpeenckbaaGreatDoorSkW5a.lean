/-
  Steps of functions,plain law,and walks of functions: what the laws rest on.
-/
import Derived.Test.YtglmmdpeenckbaaGreatDoorSkW0c
import Derived.Test.YtglmmdpeenckbaaGreatDoorSkW1a
import Derived.Test.YtglmmdpeenckbaaGreatDoorSkW3c
set_option linter.unusedVariables false
set_option linter.unusedSimpArgs false
set_option linter.unusedSectionVars false
namespace Go.SK
open Go Go.Proofs Go.Proofs.Tryz
open Go.RowKit
theorem zsI (b:List UInt8) (ao:Option Addr) (cp:Nat) (w:World) (hG:LxG.holds w) (hA0:(Res.rs ao b.length 1 (b.flatMap byC)).holds w) (hb:b.length ≤ 140737488355328):Ret prog 16 #[.slice ao b.length cp] w (fun v w'=>v = .bool true ∧ St w NoM [] [] w'):=by
 refine zav (args:=[.slice ao b.length cp]) func16 Z Z Z ?_
 have V:St w NoM [] [LxG,Res.rs ao b.length 1 (b.flatMap byC)] w:=St.init_Ds (by simp only [List.forall_mem_cons]; exact ⟨hG,hA0,fun _ h=>absurd h List.not_mem_nil⟩)
 obtain ⟨gn,bd,il,e,a,hD⟩:∃ gn bd il e a,za2 b = ((gn,bd,il),(e,a)):=⟨_,_,_,_,_,rfl⟩
 obtain ⟨tx,se,sa,hB⟩:∃ tx se sa,zfB b = (tx,(se,sa)):=⟨_,_,_,rfl⟩
 have hbs:=zg1 hB hD
 have hbe:=znU hB hD
 refine SR<|AB Z<|NSR<|ML Z<|Q (zao (v1:=.slice _ _ _) zwy Z Z ((zdF b _ _ _ (V.hD _ Q1) hb).mono fun v w hp=>?_))
 obtain ⟨bC1,rfl,hp⟩:=hp
 replace V:St _ _ (_ :: _) _ _:=V.call0 hp
 refine Q<|zao (v1:=.slice _ _ _) ent28 Z Z<|Ret.det (zka (x:=tx) (se:=se) (sa:=sa) (hB) _ _ _ (V.hD _ Q0) (Res.rs_of_sl (V.hL _ Q0)) hb) V fun w V=>Q<|zad (v:=.tuple #[str _,gII _ _]) Z<|Q<|Ex (str _) Z Z<|Q<|Ex (gII _ _) Z Z<|Q<|zar V zaV fun w b4 V=>AS Z<|Q (SO (v:=gII _ _) V zaV Z Z .u0 fun w V=>?_)
 refine G<|SQ<|SR<|Q<|zaa zbB Z<|Q<|zae (v:=.int .i64 _) zdQ Z Z (V.cellL Q0 Z)<|Q<|zaF Z Z<|G<|zab Z (fun g1=>?_) (fun g1=>?_)
 ·obtain ⟨hz1, hz2, hz3⟩ := hbs.1 (hbe.1 g1)
  subst hz1
  subst hz2
  subst hz3
  refine SR<|ML Z<|Q (zao (v1:=.slice _ _ _) zwy Z Z ((zdF b _ _ _ (V.hD _ Q1) hb).mono fun v w hp=>?_))
  obtain ⟨bC2,rfl,hp⟩:=hp
  replace V:St _ _ (_ :: _) _ _:=V.call0 hp
  refine Q (zao (v1:=.slice _ _ _) zwz Z Z ((zhN hD _ _ _ (Res.rs_of_sl (V.hL _ Q0)) hb).mono fun v w hp=>?_))
  obtain ⟨aO2,cO2,dO2,rfl,hdO2,hp⟩:=hp
  replace V:St _ _ (_ :: _) _ _:=V.call0 hp
  refine Q<|zad (v:=.tuple #[zc7 _ _ _ _ _,gII _ _]) Z<|Q<|Ex (zc7 _ _ _ _ _) Z Z<|Q<|Ex (gII _ _) Z Z<|Q<|zar V zcx fun w b5 V=>Q<|zar V zaV fun w b6 V=>Q (SO (v:=zc7 _ _ _ _ _) V zcx Z Z .u1 fun w V=>?_)
  refine Q (SO (v:=gII _ _) V zaV Z Z .u0 fun w V=>?_)
  refine G<|zaj [(3,str _),(4,Pp _ _),(6,Pp _ _)] E3 fun f=>SR<|MS Z<|Q<|zcu Z Z<|MB Z<|zau (d:=28) Z (fun g2=>?_) (fun g2=>?_)
  ·refine TK (t := 28) Z (Vb (Dt g2)) <| zay (vs := lII _ _) zaV Z Z Z (zac (n := 2) (V.objL Q4) _ Z) <| TK (t := 28) Z (Vb (Dt g2)) <| zay (vs := lII _ _) zaV Z Z Z (zac (n := 2) (V.objL Q0) _ Z) <| TK (t := 28) Z (Vb (Dt g2)) <| zmu (xs := (lII _ _)) (ys := (lII _ _)) Z Z Kr (zcA underlying28 Kr (.cons De (PartOk.one zdQ Z Z) (PartOk.one zdQ Z Z) (zcc zdQ) (.cons De (PartOk.one ty3 Z Z) (PartOk.one ty3 Z Z) (zcc ty3) .nil))) <| Q <| zaB (u := .bool _) (Vb (Dt g2)) Z <| MB Z <| zcg (d := 33) Z (fun g3 => ?_) (fun g3 => ?_)
   ·refine TK (t := 33) Z (Vb g3) (zei  zwx Z  ((zgt _ (V.hD _ Q0)).mono fun v w hp => ?_))
    obtain ⟨rfl,hp⟩:=hp
    replace V:=V.keepc hp
    refine Q<|zaB (u:=.bool _) (Vb g3) Z<|AB Z<|G<|zai func16 Z (TP (v:=.bool _) Z) ?_
    first | exact ⟨rfl,V.pure⟩ | exact ⟨Vb (Dt rfl),V.pure⟩
   exfalso
   first | exact g3 rfl | (simp at g3; done) | omega
  exfalso
  first | exact g2 rfl | (simp at g2; done) | omega
 have he0:e = 0:=Nn (fun h=>g1 (hbe.2 h))
 obtain ⟨⟨hse,hsa⟩,⟨htl,hpx⟩,hT,hE,hSh,hgn,hgb,hui,ha0⟩:=hbs.2 he0
 subst hse
 subst hsa
 refine zag<|SR<|MS Z<|Q (zao (v1:=str _) ent17 Z Z ((zkg hpx _ (V.hD _ Q0) O).mono fun v w hp=>?_))
 obtain ⟨aO3,cO3,dO3,hdO3,rfl,hsO3,hp⟩:=hp
 replace V:St _ _ (_ :: _) _ _:=V.call0 hp
 refine Q<|zad (v:=.tuple #[zc7 _ _ _ _ _,gII _ _]) Z<|Q<|Ex (zc7 _ _ _ _ _) Z Z<|Q<|Ex (gII _ _) Z Z<|Q<|zar V zcx fun w b7 V=>Q<|zar V zaV fun w b8 V=>Q (SO (v:=zc7 _ _ _ _ _) V zcx Z Z .u1 fun w V=>?_)
 refine Q (SO (v:=gII _ _) V zaV Z Z .u0 fun w V=>?_)
 refine G<|zaj [(0,.slice _ _ _),(7,Pp _ _),(8,Pp _ _)] E3 fun f=>SR<|Q<|zay (vs:=zh8 _ _ _ _ _) zcx rfl rfl rfl (zac (n:=3) (V.objL Q1) _ rfl)<|Q (zao (v1:=zc7 _ _ _ _ _) zyA rfl rfl ((zj9 (bs:=b) (se:=0) (sa:=0) (by rw [hdO3]; exact hE) _ _ _ (Res.rmod_of_omod (V.hL _ Q2)) (Small.ofSm hsO3.1 hsO3.2)).mono fun v w hp=>?_))
 obtain ⟨asE,rsE,rfl,hp⟩:=hp
 replace V:St _ _ (_ :: _) _ _:=V.call0 hp
 refine Q<|zad (v:=.tuple #[.slice _ _ _,gII _ _]) Z<|Q<|Ex (.slice _ _ _) Z Z<|Q<|Ex (gII _ _) Z Z<|Q<|zar V zaV fun w b10 V=>AL Z<|Q (SO (v:=gII _ _) V zaV Z Z .u0 fun w V=>?_)
 refine NSR<|Q<|zaa zbB Z<|Q<|zae (v:=.int .i64 _) zdQ Z Z (V.cellL Q2 Z)<|Q<|zam Z Z<|MB Z<|zau (d:=49) Z (fun g4=>?_) (fun g4=>?_)
 ·refine TK (t := 49) Z (Vb (Dt g4)) <| zaa zbB Z <| TK (t := 49) Z (Vb (Dt g4)) <| zae (v := .int .i64 _) zdQ Z Z (V.cellL Q0 Z) <| TK (t := 49) Z (Vb (Dt g4)) <| zam Z Z <| Q <| zaB (u := .bool _) (Vb (Dt g4)) Z <| MB Z <| zau (d := 54) Z (fun g5 => ?_) (fun g5 => ?_)
  ·refine TK (t := 54) Z (Vb (Dt g5)) <| zad (v := .slice _ _ _) Z <| TK (t := 54) Z (Vb (Dt g5)) <| zad (v := .slice _ _ _) Z <| TK (t := 54) Z (Vb (Dt g5)) (zaE (v1 := .slice _ _ _) (v2 := .slice _ _ _) zyz Z Z Z ((zig b b _ _ _ _ _ (Res.rs_of_sl (V.hL _ Q1)) (V.hD _ Q1) O).mono fun v w hp => ?_))
   obtain ⟨he,hp⟩:=hp
   replace he:=he.trans (Vb (Dt rfl))
   subst he
   replace V:=V.keepc hp
   refine Q<|zaB (u:=.bool _) (Vb (Dt g5)) Z<|MB Z<|TK (t:=59) Z (Vb (Z:true = _)) (zei  zwx Z  ((zgt _ (V.hD _ Q0)).mono fun v w hp=>?_))
   obtain ⟨rfl,hp⟩:=hp
   replace V:=V.keepc hp
   refine Q<|zaB (u:=.bool _) (Vb (Z:true = _)) Z<|AB Z<|G<|zai func16 Z (TP (v:=.bool _) Z) ?_
   first | exact ⟨rfl,V.pure⟩ | exact ⟨Vb (Dt rfl),V.pure⟩
  exfalso
  first | exact g5 rfl | (simp at g5; done) | omega
 exfalso
 first | exact g4 rfl | (simp at g4; done) | omega
end Go.SK
