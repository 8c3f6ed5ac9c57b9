/-
  Steps of functions,plain law,and walks of functions: what the laws rest on.
-/
import Derived.Test.YtglmmdpeenckbaaGreatDoorSkW0b
set_option linter.unusedVariables false
set_option linter.unusedSimpArgs false
set_option linter.unusedSectionVars false
namespace Go.SK
open Go Go.Proofs Go.Proofs.Tryz
open Go.RowKit
theorem zpw (s:Tx) (h0:0 < s.length) (w:World) (hG:LxG.holds w) (hl:s.length ≤ 1099511627776):Ret prog 141 #[str s] w (fun v w'=>v = .tuple #[str (zvh (zgF s 1)).1,.int .i64 ((zvh (zgF s 1)).2:Int)] ∧ St w NoM [] [] w'):=by
 refine zav (args:=[str s]) func141 Z Z Z ?_
 have V:St w NoM [] [LxG] w:=St.init_Ds (by simp only [List.forall_mem_cons]; exact ⟨hG,fun _ h=>absurd h List.not_mem_nil⟩)
 refine SR<|AS Z<|AI Z<|G<|zhg<|SR<|AL Z<|G<|SQ ?_
 replace V:=V.pushNil 5 1
 refine RG<|AI Z<|G<|SQ<|zfN<|zaZ [(0,str _)] ⟨Z,trivial⟩ (fun (qq:Nat × Tx × Option Addr × Nat)=>[(4,.slice qq.2.2.1 qq.2.1.length qq.2.2.2),(5,.int .i64 (qq.1:Int))]) (fun (qq:Nat × Tx × Option Addr × Nat)=>[Res.sl qq.2.2.1 qq.2.1.length qq.2.2.2 5 1 (qq.2.1.flatMap byC)]) (fun (qq:Nat × Tx × Option Addr × Nat)=>zx6 s 1 qq.1 qq.2.1) (fun (qq:Nat × Tx × Option Addr × Nat)=>s.length - qq.1) ((1,[],none,0)) V (zrv O) E2 ?_
 intro ⟨i,b,aq,cq⟩ f w V hJ ih1
 replace V:St _ _ ([Res.sl aq b.length cq 5 1 (b.flatMap byC)] ++ []) _ _:=V
 replace hJ:zx6 s 1 i b:=hJ
 refine za6 (sl:=[(4,.slice aq b.length cq),(5,.int .i64 (i:Int))]) E2 ?_
 have hidx:(s.getD ((i:Int).toNat) 0).toNat = (s.getD i 0).toNat:=rfl
 have hj2:=hJ.2.1
 have hj3:=hJ.2.2.1
 have hj1:=hJ.1
 refine SQ<|SR<|MI Z<|MS Z<|Q<|zbb (rest:=[]) ty9 Z<|Q<|zbh Z Z<|G<|zab Z (fun g2=>?_) (fun g2=>?_)
 ·refine SR <| AS Z <| AI Z <| G <| zaq func141 Z (TP (v := str _) Z) (TP (v := .int .i64 _) Z) ?_
  rw [zhn hJ (zx5 (by omega))]
  exact ⟨Z,V.pure⟩
 refine zag<|SQ<|SR<|MS Z<|MI Z<|Q<|za5 ty9 Z Z O O<|AC Z<|G<|zak<|SR<|MC Z<|Q<|zam Z Z<|AB Z ?_
 refine G<|zab Z (fun g3=>?_) (fun g3=>?_)
 ·refine SR <| ML Z <| Q <| zcm (l := b) zb9 ty5 ty9 Z Z (Res.rs_of_sl (V.hL _ Q0)) Z <| MI Z <| Q <| zaA Z Z Z zbt <| AS Z <| AI Z <| G <| zaq func141 Z (TP (v := str _) Z) (TP (v := .int .i64 _) Z) ?_
  rw [ztp hJ (by omega) (by omega)]
  unfold zvh; dsimp only
  refine ⟨?_,V.pure⟩
  congr 3; congr 1; have hj1:=hJ.1; congr 1; omega
 refine SR<|MC Z<|Q<|zaN Z Z<|MB Z<|zau (d:=30) Z (fun g4=>?_) (fun g4=>?_)
 ·refine OM (t := 30) Z (Vb (Dt g4)) Z <| OM (t := 30) Z (Vb (Dt g4)) Z <| Q <| zaB (u := .bool _) (Vb (Dt g4)) Z <| AB Z <| G <| zas (Vb (Z : true = _)) <| SR <| AS Z <| AI Z <| G <| zaq func141 Z (TP (v := str _) Z) (TP (v := .int .i64 _) Z) ?_
  rw [zhn hJ (zlQ (by omega) (by omega) (zqh (by omega) (by omega)))]
  exact ⟨Z,V.pure⟩
 refine TK (t:=30) Z (Vb (Df g4))<|zad (v:=.int .u8 _) Z<|TK (t:=30) Z (Vb (Df g4))<|zbI Z Z<|Q<|zax (u:=.bool _) (Vb (Df g4)) Z<|AB Z<|G<|zab Z (fun g5=>?_) (fun g5=>?_)
 ·refine SR <| AS Z <| AI Z <| G <| zaq func141 Z (TP (v := str _) Z) (TP (v := .int .i64 _) Z) ?_
  rw [zhn hJ (zlQ (by omega) (by omega) (zqh (by omega) (by omega)))]
  exact ⟨Z,V.pure⟩
 refine SR<|MC Z<|Q<|zam Z Z<|AB Z<|G<|zaj [(0,str _),(4,.slice _ _ _),(5,.int .i64 _),(6,.int .u8 _),(34,.bool _)] E5 fun f=>zab Z (fun g6=>?_) (fun g6=>?_)
 ·refine SR <| MS rfl <| MI rfl <| Q <| zaA rfl rfl rfl zbt <| Q <| zcF ty9 rfl rfl (by omega) (by omega) <| Q <| zao (v1 := str _) ent184 rfl rfl <| Ret.det (zn8 _ _ (V.hD _ Q0) (by first | omega | (simp only [List.length_drop, List.length_take, List.length_append, List.length_cons, List.length_nil]; omega))) V fun w V => Q <| zad (v := .tuple #[.int .u8 _, .int .i64 _]) rfl <| Q <| Ex (.int .u8 _) rfl rfl <| Q <| Ex (.int .i64 _) rfl rfl <| AC rfl <| AI rfl <| G <| SQ <| SQ ?_
  refine RG<|MI Z<|Q<|zam Z Z<|G<|zab Z (fun g7=>?_) (fun g7=>?_)
  ·have hpn : zcv (s.drop i) = none := ztx O O (Int.ofNat_eq_zero.1 g7)
   refine SR<|AS Z<|AI Z<|G<|zaq func141 Z (TP (v:=str _) Z) (TP (v:=.int .i64 _) Z) ?_
   rw [zhn hJ (zlQ (by omega) (by omega) hpn)]
   exact ⟨Z,V.pure⟩
  have hpt:zcv (s.drop i) = some (((ziB (s.drop (i + 1))).getD (0,0)).1,((ziB (s.drop (i + 1))).getD (0,0)).2 + 1):=ztw (by omega) (by omega) (fun e=>g7 (by rw [show ((ziB (s.drop (((i:Int) + 1).toNat))).getD (0,0)).2 = 0 from e]; rfl))
  have hpl:=zhq O hpt
  have hidE:((ziB (s.drop (((i:Int) + 1).toNat))).getD (0,0)).2 = ((ziB (s.drop (i + 1))).getD (0,0)).2:=rfl
  refine zag<|SR<|ML Z<|MC Z<|Q (zaI (z0:=[.int .u8 0]) V zb9 ty5 Z Z Kr (.c (v:=.int .u8 _) Z (h:=.nil)) fun w b49 V=>?_)
  refine Q (zaP (news:=byC ((ziB (s.drop (((i:Int) + 1).toNat))).getD (0,0)).1) V zb9 ty5 Z Z .u1 Z Z Z (zac (n:=1) (V.objL Q0) _ Z) Z Z O fun w ao8 cp9 V=>?_)
  replace V:=V.drop .u1
  refine AL Z<|NR<|MI Z<|MI Z<|Q<|zaA Z Z Z zbt<|AI Z<|G<|zah<|zaj [(0,str _),(4,.slice _ _ _),(5,.int .i64 _)] E3 fun f=>SR<|MI Z<|Q<|zaA Z Z Z zbt<|AI Z ?_
  refine G ?_
  have hI:=zm5 hJ O O hpt
  refine ziJ ?_ (SQ (zag (ih1 ((i + (((ziB (s.drop (i + 1))).getD (0,0)).2 + 1),b ++ [((ziB (s.drop (i + 1))).getD (0,0)).1],ao8,cp9)) _ w ((by (try dsimp only); omega)) (by rw [List.length_append,List.flatMap_append]; exact V) (hI) ⟨rfl,trivial⟩ ⟨(by simp only [List.length_append]; rfl),(Vi (by (try dsimp only); omega)),trivial⟩)))
  rfl
 refine RG<|ML Z<|MC Z<|Q (zaI (z0:=[.int .u8 0]) V zb9 ty5 Z Z Kr (.c (v:=.int .u8 _) Z (h:=.nil)) fun w b18 V=>?_)
 refine Q (zaP (news:=byC (s.getD ((i:Int).toNat) 0)) V zb9 ty5 Z Z .u1 Z Z Z (zac (n:=1) (V.objL Q0) _ Z) Z Z O fun w ao10 cp11 V=>?_)
 replace V:=V.drop .u1
 refine AL Z<|G<|zah<|SR<|MI Z<|Q<|zaA Z Z Z zbt<|AI Z<|G ?_
 have hpt:zcv (s.drop i) = some (s.getD i 0,1):=zrx O O O O
 have hI:=zm5 hJ O O hpt
 refine ziJ ?_ (SQ (zag (ih1 ((i + (1),b ++ [s.getD i 0],ao10,cp11)) _ w ((by (try dsimp only); omega)) (by rw [List.length_append,List.flatMap_append]; exact V) (hI) ⟨rfl,trivial⟩ ⟨(by simp only [List.length_append]; rfl),(Vi (by (try dsimp only); omega)),trivial⟩)))
 rfl
theorem zpx (s:Tx) (w:World) (hl:s.length ≤ 1099511627776):Ret prog 165 #[str s] w (fun v w'=>v = str (zd7 s) ∧ St w NoM [] [] w'):=by
 refine zav (args:=[str s]) func165 Z Z Z ?_
 have V:=St.init w
 refine SR<|AS Z<|NSR<|Q (zaI (z0:=[.int .u8 0]) V zb9 ty5 Z Z Kr (.c (v:=.int .u8 _) Z (h:=.nil)) fun w b6 V=>?_)
 refine AL Z<|G<|SQ<|SQ ?_
 replace V:=St.rowSl (n:=1) (es:=1) V rfl (by rw [zeT]; omega)
 refine RG<|AI Z<|G<|zak<|zaY<|zaZ [(0,str _)] ⟨Z,trivial⟩ (fun (qq:Nat × Option Addr × Nat)=>[(3,.slice qq.2.1 (qb s qq.1).length qq.2.2),(4,.int .i64 (qq.1:Int))]) (fun (qq:Nat × Option Addr × Nat)=>[Res.sl qq.2.1 (qb s qq.1).length qq.2.2 5 1 ((qb s qq.1).flatMap byC)]) (fun (qq:Nat × Option Addr × Nat)=>qq.1 ≤ s.length) (fun (qq:Nat × Option Addr × Nat)=>s.length - qq.1) ((0,some ⟨b6,0,none⟩,1)) V (Nat.zero_le _) E2 ?_
 intro ⟨i,aq,cq⟩ f w V hJ ih1
 replace V:St _ _ ([Res.sl aq (qb s i).length cq 5 1 ((qb s i).flatMap byC)] ++ []) _ _:=V
 replace hJ:i ≤ s.length:=hJ
 refine za6 (sl:=[(3,.slice aq (qb s i).length cq),(4,.int .i64 (i:Int))]) E2 ?_
 have hidx:(s.getD ((i:Int).toNat) 0).toNat = (s.getD i 0).toNat:=rfl
 have hql:=zxh s i
 have hc8:=(s.getD i 0).toNat_lt
 refine SQ<|SR<|MI Z<|MS Z<|Q<|zbb (rest:=[]) ty9 Z<|Q<|zaN Z Z<|G<|zab Z (fun g2=>?_) (fun g2=>?_)
 ·refine zag <| SQ <| zak <| SR <| MS Z <| MI Z <| Q <| za5 ty9 Z Z O O <| AC Z <| G <| zak <| SQ <| zak <| SQ <| zak ?_
  refine SQ<|zak<|SQ<|SQ<|SR<|MC Z<|Q<|zaN Z Z<|MB Z<|zau (d:=19) Z (fun g3=>?_) (fun g3=>?_)
  ·refine OM (t := 19) Z (Vb (Dt g3)) Z <| OM (t := 19) Z (Vb (Dt g3)) Z <| Q <| zaB (u := .bool _) (Vb (Dt g3)) Z <| AB Z <| G <| zas (Vb (Z : true = _)) <| zaK (id := 3) Z <| SQ <| zaC [] V (bs := [0, 0, 2, 6, 0, 16, 48, 126, 255, 511]) (ds := [some 28, some 29, some 30, some 31, some 32, some 33, some 34, some 35, some 36, some 3]) ⟨Kr, Kr, Kr⟩ (fun tab4 => ?_)
   refine DO tab4 1 (fun _ _ _ hc=>zad (v:=.slice _ _ _) (hc.old rfl rfl rfl) hc.z)<|DO tab4 2 (fun _ _ _ hc=>zad (v:=.int .u8 _) (hc.old rfl rfl rfl) hc.z)<|DO tab4 3 (fun _ _ _ hc=>zct (c:=(((s.getD i 0).toNat / 16:Nat):Int)) (hc.d 1 rfl rfl rfl rfl) rfl (by decide) (by decide) (by rw [show (2:Int) ^ (4:Int).toNat = 16 from rfl]; omega) hc.z)<|DO tab4 4 (fun _ _ _ hc=>za5 (s:=[48,49,50,51,52,53,54,55,56,57,97,98,99,100,101,102]) ty9 rfl (hc.d 2 rfl rfl rfl rfl) (by omega) (by (have hl16:([48,49,50,51,52,53,54,55,56,57,97,98,99,100,101,102]:Tx).length = 16:=rfl); omega) hc.z)<|DO tab4 5 (fun _ _ _ hc=>zad (v:=.int .u8 _) (hc.old rfl rfl rfl) hc.z)<|DO tab4 6 (fun _ _ _ hc=>zot (m:=(s.getD i 0).toNat) (hc.d 4 rfl rfl rfl rfl) rfl (by omega) (by omega) hc.z)<|DO tab4 7 (fun _ _ _ hc=>za5 (s:=[48,49,50,51,52,53,54,55,56,57,97,98,99,100,101,102]) ty9 rfl (hc.d 5 rfl rfl rfl rfl) (by omega) (by (have hl16:([48,49,50,51,52,53,54,55,56,57,97,98,99,100,101,102]:Tx).length = 16:=rfl); omega) hc.z)<|RunD.op (fun v rs=>∃ b,v = .slice (some ⟨b,0,none⟩) 4 4 ∧ rs = [Res.row b 5 ([.int .u8 92,.int .u8 120,.int .u8 ((([48,49,50,51,52,53,54,55,56,57,97,98,99,100,101,102]:Tx).getD ((((s.getD i 0).toNat / 16:Nat):Int).toNat) 0).toNat:Int),.int .u8 ((([48,49,50,51,52,53,54,55,56,57,97,98,99,100,101,102]:Tx).getD ((((s.getD i 0).toNat % 16:Nat):Int).toNat) 0).toNat:Int)])]) tab4 8 (fun _ _ _ hc=>zaI (z0:=[.int .u8 0,.int .u8 0,.int .u8 0,.int .u8 0]) hc.st zb9 ty5 rfl rfl (by kernel_rfl) (.c (v:=.int .u8 _) rfl (h:=(.c (v:=.int .u8 _) rfl (h:=(.c (v:=.int .u8 _) (hc.d 3 rfl rfl rfl rfl) (h:=(.c (v:=.int .u8 _) (hc.d 6 rfl rfl rfl rfl) (h:=.nil)))))))) fun w b V=>⟨[_],⟨b,rfl,rfl⟩,V⟩) ?_
   refine RunD.fin zaw tab4 V Z (fun f5 w R8 hs6 hd7 hr9 V=>?_)
   obtain ⟨h28_,r0⟩:=hd7 0 28 rfl rfl
   obtain ⟨h29_,r1⟩:=hd7 1 29 rfl rfl
   obtain ⟨h30_,r2⟩:=hd7 2 30 rfl rfl
   obtain ⟨h31_,r3⟩:=hd7 3 31 rfl rfl
   obtain ⟨h32_,r4⟩:=hd7 4 32 rfl rfl
   obtain ⟨h33_,r5⟩:=hd7 5 33 rfl rfl
   obtain ⟨h34_,r6⟩:=hd7 6 34 rfl rfl
   obtain ⟨b35,h35_,r7⟩:=hd7 7 35 rfl rfl
   simp only [rg8,Fc,Fn,Mc,Mn,r0,r1,r2,r3,r4,r5,r6,r7,Na,An,Ca] at V
   refine zaz (sl:=[(0,str _),(4,.int .i64 _),(28,.slice _ _ _),(35,.slice _ _ _)]) ⟨(hs6 0 Z).trans Z,(hs6 4 Z).trans Z,h28_,h35_,trivial⟩ ?_
   clear hs6 hd7 hr9 tab4
   refine Q (zaP (news:=[.int .u8 92,.int .u8 120,.int .u8 ((([48,49,50,51,52,53,54,55,56,57,97,98,99,100,101,102]:Tx).getD ((((s.getD i 0).toNat / 16:Nat):Int).toNat) 0).toNat:Int),.int .u8 ((([48,49,50,51,52,53,54,55,56,57,97,98,99,100,101,102]:Tx).getD ((((s.getD i 0).toNat % 16:Nat):Int).toNat) 0).toNat:Int)]) V zb9 ty5 Z Z .u1 Z Z Z (zac (n:=4) (V.objL Q0) _ Z) Z Z O fun w ao10 cp11 V=>?_)
   replace V:=V.drop .u1
   refine AL Z<|G<|zaK (id:=2) Z<|zah<|zaj [(0,str _),(3,.slice _ _ _),(4,.int .i64 _)] E3 fun f=>RG<|MI Z<|Q<|zaA Z Z Z zbt<|AI Z<|G<|zaD ?_
   rw [show (([48,49,50,51,52,53,54,55,56,57,97,98,99,100,101,102]:Tx).getD ((((s.getD i 0).toNat / 16:Nat):Int).toNat) 0) = zl4 ((s.getD i 0).toNat / 16) from zl3 _ (by omega),show (([48,49,50,51,52,53,54,55,56,57,97,98,99,100,101,102]:Tx).getD ((((s.getD i 0).toNat % 16:Nat):Int).toNat) 0) = zl4 ((s.getD i 0).toNat % 16) from zl3 _ (by omega)] at V
   have hqs:=zjt (s:=s) (i:=i) O (ziM O)
   exact ih1 ((i + 1,ao10,cp11)) _ w ((by (try dsimp only); omega)) (by (try dsimp only); rw [hqs,List.length_append,List.flatMap_append]; exact V) (by (try dsimp only); omega) ⟨rfl,trivial⟩ ⟨(by (try dsimp only); rw [hqs,List.length_append]; rfl),(Vi (by (try dsimp only); omega)),trivial⟩
  refine TK (t:=19) Z (Vb (Df g3))<|zad (v:=.int .u8 _) Z<|TK (t:=19) Z (Vb (Df g3))<|zbI Z Z<|Q<|zax (u:=.bool _) (Vb (Df g3)) Z<|AB Z<|G<|zab Z (fun g12=>?_) (fun g12=>?_)
  ·refine zaK (id := 3) Z <| SQ <| zaC [] V (bs := [0, 0, 2, 6, 0, 16, 48, 126, 255, 511]) (ds := [some 28, some 29, some 30, some 31, some 32, some 33, some 34, some 35, some 36, some 3]) ⟨Kr, Kr, Kr⟩ (fun tab13 => ?_)
   refine DO tab13 1 (fun _ _ _ hc=>zad (v:=.slice _ _ _) (hc.old rfl rfl rfl) hc.z)<|DO tab13 2 (fun _ _ _ hc=>zad (v:=.int .u8 _) (hc.old rfl rfl rfl) hc.z)<|DO tab13 3 (fun _ _ _ hc=>zct (c:=(((s.getD i 0).toNat / 16:Nat):Int)) (hc.d 1 rfl rfl rfl rfl) rfl (by decide) (by decide) (by rw [show (2:Int) ^ (4:Int).toNat = 16 from rfl]; omega) hc.z)<|DO tab13 4 (fun _ _ _ hc=>za5 (s:=[48,49,50,51,52,53,54,55,56,57,97,98,99,100,101,102]) ty9 rfl (hc.d 2 rfl rfl rfl rfl) (by omega) (by (have hl16:([48,49,50,51,52,53,54,55,56,57,97,98,99,100,101,102]:Tx).length = 16:=rfl); omega) hc.z)<|DO tab13 5 (fun _ _ _ hc=>zad (v:=.int .u8 _) (hc.old rfl rfl rfl) hc.z)<|DO tab13 6 (fun _ _ _ hc=>zot (m:=(s.getD i 0).toNat) (hc.d 4 rfl rfl rfl rfl) rfl (by omega) (by omega) hc.z)<|DO tab13 7 (fun _ _ _ hc=>za5 (s:=[48,49,50,51,52,53,54,55,56,57,97,98,99,100,101,102]) ty9 rfl (hc.d 5 rfl rfl rfl rfl) (by omega) (by (have hl16:([48,49,50,51,52,53,54,55,56,57,97,98,99,100,101,102]:Tx).length = 16:=rfl); omega) hc.z)<|RunD.op (fun v rs=>∃ b,v = .slice (some ⟨b,0,none⟩) 4 4 ∧ rs = [Res.row b 5 ([.int .u8 92,.int .u8 120,.int .u8 ((([48,49,50,51,52,53,54,55,56,57,97,98,99,100,101,102]:Tx).getD ((((s.getD i 0).toNat / 16:Nat):Int).toNat) 0).toNat:Int),.int .u8 ((([48,49,50,51,52,53,54,55,56,57,97,98,99,100,101,102]:Tx).getD ((((s.getD i 0).toNat % 16:Nat):Int).toNat) 0).toNat:Int)])]) tab13 8 (fun _ _ _ hc=>zaI (z0:=[.int .u8 0,.int .u8 0,.int .u8 0,.int .u8 0]) hc.st zb9 ty5 rfl rfl (by kernel_rfl) (.c (v:=.int .u8 _) rfl (h:=(.c (v:=.int .u8 _) rfl (h:=(.c (v:=.int .u8 _) (hc.d 3 rfl rfl rfl rfl) (h:=(.c (v:=.int .u8 _) (hc.d 6 rfl rfl rfl rfl) (h:=.nil)))))))) fun w b V=>⟨[_],⟨b,rfl,rfl⟩,V⟩) ?_
   refine RunD.fin zaw tab13 V Z (fun f14 w R17 hs15 hd16 hr18 V=>?_)
   obtain ⟨h28_,r0⟩:=hd16 0 28 rfl rfl
   obtain ⟨h29_,r1⟩:=hd16 1 29 rfl rfl
   obtain ⟨h30_,r2⟩:=hd16 2 30 rfl rfl
   obtain ⟨h31_,r3⟩:=hd16 3 31 rfl rfl
   obtain ⟨h32_,r4⟩:=hd16 4 32 rfl rfl
   obtain ⟨h33_,r5⟩:=hd16 5 33 rfl rfl
   obtain ⟨h34_,r6⟩:=hd16 6 34 rfl rfl
   obtain ⟨b35,h35_,r7⟩:=hd16 7 35 rfl rfl
   simp only [rg8,Fc,Fn,Mc,Mn,r0,r1,r2,r3,r4,r5,r6,r7,Na,An,Ca] at V
   refine zaz (sl:=[(0,str _),(4,.int .i64 _),(28,.slice _ _ _),(35,.slice _ _ _)]) ⟨(hs15 0 Z).trans Z,(hs15 4 Z).trans Z,h28_,h35_,trivial⟩ ?_
   clear hs15 hd16 hr18 tab13
   refine Q (zaP (news:=[.int .u8 92,.int .u8 120,.int .u8 ((([48,49,50,51,52,53,54,55,56,57,97,98,99,100,101,102]:Tx).getD ((((s.getD i 0).toNat / 16:Nat):Int).toNat) 0).toNat:Int),.int .u8 ((([48,49,50,51,52,53,54,55,56,57,97,98,99,100,101,102]:Tx).getD ((((s.getD i 0).toNat % 16:Nat):Int).toNat) 0).toNat:Int)]) V zb9 ty5 Z Z .u1 Z Z Z (zac (n:=4) (V.objL Q0) _ Z) Z Z O fun w ao19 cp20 V=>?_)
   replace V:=V.drop .u1
   refine AL Z<|G<|zaK (id:=2) Z<|zah<|zaj [(0,str _),(3,.slice _ _ _),(4,.int .i64 _)] E3 fun f=>RG<|MI Z<|Q<|zaA Z Z Z zbt<|AI Z<|G<|zaD ?_
   rw [show (([48,49,50,51,52,53,54,55,56,57,97,98,99,100,101,102]:Tx).getD ((((s.getD i 0).toNat / 16:Nat):Int).toNat) 0) = zl4 ((s.getD i 0).toNat / 16) from zl3 _ (by omega),show (([48,49,50,51,52,53,54,55,56,57,97,98,99,100,101,102]:Tx).getD ((((s.getD i 0).toNat % 16:Nat):Int).toNat) 0) = zl4 ((s.getD i 0).toNat % 16) from zl3 _ (by omega)] at V
   have hqs:=zjt (s:=s) (i:=i) O (ziM O)
   exact ih1 ((i + 1,ao19,cp20)) _ w ((by (try dsimp only); omega)) (by (try dsimp only); rw [hqs,List.length_append,List.flatMap_append]; exact V) (by (try dsimp only); omega) ⟨rfl,trivial⟩ ⟨(by (try dsimp only); rw [hqs,List.length_append]; rfl),(Vi (by (try dsimp only); omega)),trivial⟩
  refine zag<|SQ<|SR<|MC Z<|Q<|zam Z Z<|AB Z<|G<|zab Z (fun g21=>?_) (fun g21=>?_)
  ·refine zag <| zas (Vb (Dt g21)) <| zaK (id := 4) Z <| RG <| ML Z <| Q (zaI (z0 := [.int .u8 0]) V zb9 ty5 Z Z Kr (.c (v := .int .u8 _) Z (h := .nil)) fun w b38 V => ?_)
   refine Q (zaP (news:=byC 92) V zb9 ty5 Z Z .u1 Z Z Z (zac (n:=1) (V.objL Q0) _ Z) Z Z O fun w ao22 cp23 V=>?_)
   replace V:=V.drop .u1
   refine AL Z<|G<|zah<|zaj [(0,str _),(3,.slice _ _ _),(4,.int .i64 _),(5,.int .u8 _)] E4 fun f=>SR<|ML Z<|MC Z<|Q (zaI (z0:=[.int .u8 0]) V zb9 ty5 Z Z Kr (.c (v:=.int .u8 _) Z (h:=.nil)) fun w b42 V=>?_)
   refine Q (zaP (news:=byC (s.getD ((i:Int).toNat) 0)) V zb9 ty5 Z Z .u1 Z Z Z (zac (n:=1) (V.objL Q0) _ Z) Z Z O fun w ao24 cp25 V=>?_)
   replace V:=V.drop .u1
   refine AL Z<|G<|zaK (id:=2) Z<|zah<|RG<|MI Z<|Q<|zaA Z Z Z zbt<|AI Z<|G<|zaD ?_
   have hqs:=zjt (s:=s) (i:=i) O (ziN O O)
   exact ih1 ((i + 1,ao24,cp25)) _ w ((by (try dsimp only); omega)) (by (try dsimp only); rw [hqs,List.length_append,List.flatMap_append]; rw [List.append_assoc] at V; exact V) (by (try dsimp only); omega) ⟨rfl,trivial⟩ ⟨(by (try dsimp only); rw [hqs,List.length_append]; rfl),(Vi (by (try dsimp only); omega)),trivial⟩
  refine RG<|MC Z<|Q<|zam Z Z<|AB Z<|G<|zaj [(0,str _),(3,.slice _ _ _),(4,.int .i64 _),(5,.int .u8 _),(23,.bool _)] E5 fun f=>zab Z (fun g26=>?_) (fun g26=>?_)
  ·refine zaK (id := 4) Z <| RG <| ML Z <| Q (zaI (z0 := [.int .u8 0]) V zb9 ty5 Z Z Kr (.c (v := .int .u8 _) Z (h := .nil)) fun w b38 V => ?_)
   refine Q (zaP (news:=byC 92) V zb9 ty5 Z Z .u1 Z Z Z (zac (n:=1) (V.objL Q0) _ Z) Z Z O fun w ao27 cp28 V=>?_)
   replace V:=V.drop .u1
   refine AL Z<|G<|zah<|SR<|ML Z<|MC Z<|Q (zaI (z0:=[.int .u8 0]) V zb9 ty5 Z Z Kr (.c (v:=.int .u8 _) Z (h:=.nil)) fun w b42 V=>?_)
   refine Q (zaP (news:=byC (s.getD ((i:Int).toNat) 0)) V zb9 ty5 Z Z .u1 Z Z Z (zac (n:=1) (V.objL Q0) _ Z) Z Z O fun w ao29 cp30 V=>?_)
   replace V:=V.drop .u1
   refine AL Z<|G<|zaK (id:=2) Z<|zah<|RG<|MI Z<|Q<|zaA Z Z Z zbt<|AI Z<|G<|zaD ?_
   have hqs:=zjt (s:=s) (i:=i) O (ziN O O)
   exact ih1 ((i + 1,ao29,cp30)) _ w ((by (try dsimp only); omega)) (by (try dsimp only); rw [hqs,List.length_append,List.flatMap_append]; rw [List.append_assoc] at V; exact V) (by (try dsimp only); omega) ⟨rfl,trivial⟩ ⟨(by (try dsimp only); rw [hqs,List.length_append]; rfl),(Vi (by (try dsimp only); omega)),trivial⟩
  refine zag<|zaK (id:=5) Z<|SR<|ML Z<|MC Z<|Q (zaI (z0:=[.int .u8 0]) V zb9 ty5 Z Z Kr (.c (v:=.int .u8 _) Z (h:=.nil)) fun w b42 V=>?_)
  refine Q (zaP (news:=byC (s.getD ((i:Int).toNat) 0)) V zb9 ty5 Z Z .u1 Z Z Z (zac (n:=1) (V.objL Q0) _ Z) Z Z O fun w ao31 cp32 V=>?_)
  replace V:=V.drop .u1
  refine AL Z<|G<|zaK (id:=2) Z<|zah<|RG<|MI Z<|Q<|zaA Z Z Z zbt<|AI Z<|G<|zaD ?_
  have hqs:=zjt (s:=s) (i:=i) O (zlR O O)
  exact ih1 ((i + 1,ao31,cp32)) _ w ((by (try dsimp only); omega)) (by (try dsimp only); rw [hqs,List.length_append,List.flatMap_append]; exact V) (by (try dsimp only); omega) ⟨rfl,trivial⟩ ⟨(by (try dsimp only); rw [hqs,List.length_append]; rfl),(Vi (by (try dsimp only); omega)),trivial⟩
 refine zaK (id:=0) Z<|SR<|ML Z<|Q (zaI (z0:=[.int .u8 0]) V zb9 ty5 Z Z Kr (.c (v:=.int .u8 _) Z (h:=.nil)) fun w b45 V=>?_)
 refine Q (zaP (news:=byC 34) V zb9 ty5 Z Z .u1 Z Z Z (zac (n:=1) (V.objL Q0) _ Z) Z Z O fun w ao33 cp34 V=>?_)
 replace V:=V.drop .u1
 refine Q<|zcm (l:=zd7 s) zb9 ty5 ty9 rfl (by rw [← ztq (i:=i) (by omega),List.length_append]; rfl) (Res.rs_of_sl (V.hL _ Q0)) (by rw [← ztq (i:=i) (by omega),List.flatMap_append]; rfl)<|AS rfl<|G<|zai func165 rfl (TP (v:=str _) rfl) ?_
 exact ⟨Z,V.pure⟩
end Go.SK
namespace Go.SK
open Go Go.Proofs Go.Proofs.Tryz
theorem zbw:TyF prog 72 (.struct (zbm prog 72)) 3 32 [.int .u8 0,str [],.int .i64 0]:=zbp Kr Kr
theorem zgA:zdm prog 72 [(0,1),(1,1),(2,1)]:=⟨zbm prog 72,Kr,fun w=>Kr⟩
theorem ent141:zaG prog 141:=⟨f141,_,func141,Kr,rfl⟩
theorem zaV:TyF prog 28 (.struct (zbm prog 28)) 2 16 [.int .i64 0,.int .i64 0]:=zbp Kr Kr
theorem zfI:TyF prog 65 (.slice 72) 1 24 [.slice none 0 0]:=zbp Kr Kr
theorem zbW:zdm prog 28 [(0,1),(1,1)]:=⟨zbm prog 28,Kr,fun w=>Kr⟩
theorem ent80:zaG prog 80:=⟨f80,_,func80,Kr,rfl⟩
theorem zdv:FldF prog 72 2 2:=FldF.of (n:=0) Kr
open Go.RowKit
theorem zsg (s:Tx) (h0:0 < s.length) (w:World) (hG:LxG.holds w) (hl:s.length ≤ 1099511627776):Ret prog 80 #[str s] w (fun v w'=>(∃ kd t m,zfF s = .ok (kd,t,m) ∧ v = .tuple #[.agg #[.int .u8 kd,str t,.int .i64 0],.int .i64 ((m:Nat):Int),.int .i64 0] ∧ St w NoM [] [] w') ∨ (∃ e kd t m,zfF s = .error e ∧ e ≠ 0 ∧ v = .tuple #[.agg #[.int .u8 kd,str t,.int .i64 0],.int .i64 m,.int .i64 e] ∧ St w NoM [] [] w')):=by
 refine zav (args:=[str s]) func80 Z Z Z ?_
 have V:St w NoM [] [LxG] w:=St.init_Ds (by simp only [List.forall_mem_cons]; exact ⟨hG,fun _ h=>absurd h List.not_mem_nil⟩)
 have hidx:(s.getD ((0:Int).toNat) 0).toNat = (s.getD 0 0).toNat:=rfl
 have hru:=zlM (s.drop (0 + 1))
 rw [List.length_drop] at hru
 have hru1:=zlM (s.drop ((1:Int).toNat))
 rw [List.length_drop] at hru1
 have h1t:(1:Int).toNat = 1:=rfl
 have hqq:(zvh (zgF s 1)).2 = (zvh (zgF s (0 + 1))).2:=rfl
 have hrr:(zcj (s.drop ((1:Int).toNat))).length = (zcj (s.drop (0 + 1))).length:=rfl
 refine SR<|Q<|zar V zbw fun w b2 V=>AI Z<|AI Z<|NSR<|MS Z<|Q<|za5 ty9 Z Z O O<|AC Z<|G<|SQ<|zak<|SQ ?_
 refine zak<|zak<|SQ<|zak<|SQ<|zak<|SQ<|zak<|SQ<|zak<|SQ<|SQ<|SR<|MC Z ?_
 refine Q<|zam Z Z<|AB Z<|G<|zab Z (fun g1=>?_) (fun g1=>?_)
 ·refine zaK (id := 1) rfl <| SQ <| SR <| MS rfl <| Q <| zao (v1 := str _) ent141 rfl rfl <| Ret.det (zpw _ (by omega) _ (V.hD _ Q0) (by first | omega | (simp only [List.length_drop, List.length_take, List.length_append, List.length_cons, List.length_nil]; omega))) V fun w V => Q <| zad (v := .tuple #[str _, .int .i64 _]) rfl <| Q <| Ex (str _) rfl rfl <| Q <| Ex (.int .i64 _) rfl rfl <| AS rfl <| AI rfl <| G <| SQ <| SQ <| RG ?_
  refine MI Z<|Q<|zam Z Z<|G<|zab Z (fun g2=>?_) (fun g2=>?_)
  ·refine SR <| Q (zaf zbw zgA .nil ?_)
   refine Q (SO (v:=zbZ _ _ _) V zbw Z Z .u0 fun w V=>?_)
   refine AI Z<|AI Z<|G<|zbe func80 Z (zat (vs:=ziS _ _ _) Z zbw Z Z (zac (n:=3) (V.objL Q0) _ Z)) (TP (v:=.int .i64 _) Z) (TP (v:=.int .i64 _) Z) ?_
   exact .inr ⟨_,_,_,_,zs3 (a:=0) O O,by decide,Z,V.pure⟩
  refine zag<|SR<|MS Z<|Q (zaf zbw zgA (.c (v:=.int .u8 _) Z (h:=(.c (v:=str _) Z (h:=.nil)))) ?_)
  refine MI Z<|Q (SO (v:=zbZ _ _ _) V zbw Z Z .u0 fun w V=>?_)
  refine AI Z<|AI Z<|G<|zbe func80 Z (zat (vs:=ziS _ _ _) Z zbw Z Z (zac (n:=3) (V.objL Q0) _ Z)) (TP (v:=.int .i64 _) Z) (TP (v:=.int .i64 _) Z) ?_
  exact .inl ⟨_,_,_,zmH (a:=0) O O,Z,V.pure⟩
 refine zag<|SQ<|SR<|MC Z<|Q<|zam Z Z<|AB Z<|G<|zab Z (fun g3=>?_) (fun g3=>?_)
 ·refine zaK (id := 2) Z <| SQ <| SR <| Q (zaf zbw zgA (.c (v := .int .u8 _) Z (h := (.c (v := str _) Z (h := .nil)))) ?_)
  refine Q (SO (v:=zbZ _ _ _) V zbw Z Z .u0 fun w V=>?_)
  refine AI Z<|AI Z<|G<|zbe func80 Z (zat (vs:=ziS _ _ _) Z zbw Z Z (zac (n:=3) (V.objL Q0) _ Z)) (TP (v:=.int .i64 _) Z) (TP (v:=.int .i64 _) Z) ?_
  exact .inl ⟨_,_,_,zpX (a:=0) O,Z,V.pure⟩
 refine zag<|SQ<|SR<|MC Z<|Q<|zam Z Z<|AB Z<|G<|zab Z (fun g4=>?_) (fun g4=>?_)
 ·refine zaK (id := 3) rfl <| SQ <| SR <| MS rfl <| Q <| zcF ty9 rfl rfl (by omega) (by omega) <| Q <| zao (v1 := str _) zrZ rfl rfl <| Ret.det (zgv _ _ (by first | omega | (simp only [List.length_drop]; omega))) V fun w V => AS rfl <| G <| zaj [(2, Pp _ _), (8, str _)] E2 fun f => SQ <| SR <| MS rfl <| Q <| zao (v1 := str _) zwv rfl rfl <| Ret.det (zgw _ _ (V.hD _ Q0) (by first | omega | (simp only [List.length_drop, List.length_take, List.length_append, List.length_cons, List.length_nil]; omega))) V fun w V => ?_
  refine Q<|zad (v:=.tuple #[.int .u32 _,.bool _]) Z<|Q<|Ex (.int .u32 _) Z Z<|Q<|Ex (.bool _) Z Z<|AU Z<|AB Z<|NSR<|MB Z<|Q<|zaU Z<|G<|zaQ Z (fun g5=>?_) (fun g5=>?_)
  ·refine SR <| Q (zaf zbw zgA .nil ?_)
   refine Q (SO (v:=zbZ _ _ _) V zbw Z Z .u0 fun w V=>?_)
   refine AI Z<|AI Z<|G<|zbe func80 Z (zat (vs:=ziS _ _ _) Z zbw Z Z (zac (n:=3) (V.objL Q0) _ Z)) (TP (v:=.int .i64 _) Z) (TP (v:=.int .i64 _) Z) ?_
   exact .inr ⟨_,_,_,_,zvA (a:=0) O (not_t g5),by decide,Z,V.pure⟩
  refine zag<|SR<|MS Z<|Q (zaf zbw zgA (.c (v:=.int .u8 _) Z (h:=(.c (v:=str _) Z (h:=.nil)))) ?_)
  refine MS Z<|Q<|zbb (rest:=[]) ty9 Z<|Q<|zaA Z Z Z zbt<|Q (SO (v:=zbZ _ _ _) V zbw Z Z .u0 fun w V=>?_)
  refine AI Z<|AI Z<|G<|zbe func80 Z (zat (vs:=ziS _ _ _) Z zbw Z Z (zac (n:=3) (V.objL Q0) _ Z)) (TP (v:=.int .i64 _) Z) (TP (v:=.int .i64 _) Z) ?_
  exact .inl ⟨_,_,_,zpV (a:=0) (by omega) (not_f g5),by rw [show (1:Int) + ((zcj (s.drop ((1:Int).toNat))).length:Int) = (((zcj (s.drop (0 + 1))).length + 1:Nat):Int) by omega]; rfl,V.pure⟩
 refine zag<|SQ<|SR<|MC Z<|Q<|zao (v1:=.int .u8 _) zub Z Z<|Ret.det (zeg _ _) V fun w V=>Q<|zam Z Z<|AB Z<|G<|zaj [(0,str _),(2,Pp _ _),(5,.int .u8 _),(26,.bool _)] E4 fun f=>zab Z (fun g6=>?_) (fun g6=>?_)
 ·refine zaK (id := 4) rfl <| SQ <| SR <| MS rfl <| Q <| zao (v1 := str _) zrZ rfl rfl <| Ret.det (zgv _ _ (by first | omega | (simp only [List.length_drop]; omega))) V fun w V => AS rfl <| NSR <| MS rfl <| Q (zaf zbw zgA (.c (v := .int .u8 _) rfl (h := (.c (v := str _) rfl (h := .nil)))) ?_)
  refine MS Z<|Q<|zbb (rest:=[]) ty9 Z<|Q (SO (v:=zbZ _ _ _) V zbw Z Z .u0 fun w V=>?_)
  refine AI Z<|AI Z<|G<|zbe func80 Z (zat (vs:=ziS _ _ _) Z zbw Z Z (zac (n:=3) (V.objL Q0) _ Z)) (TP (v:=.int .i64 _) Z) (TP (v:=.int .i64 _) Z) ?_
  exact .inl ⟨_,_,_,ziG (a:=0) ((ziT _).1 g6),Z,V.pure⟩
 refine zag<|SQ<|SR<|MC Z<|Q<|zam Z Z<|AB Z<|G<|zab Z (fun g7=>?_) (fun g7=>?_)
 ·refine zaK (id := 5) rfl <| zah <| SQ <| SR <| MS rfl <| MS rfl <| Q <| zcF ty9 rfl rfl (by omega) (by omega) <| Q <| zao (v1 := str _) zrZ rfl rfl <| Ret.det (zgv _ _ (by first | omega | (simp only [List.length_drop]; omega))) V fun w V => Q <| zbb (rest := []) ty9 rfl <| Q <| zaA rfl rfl rfl zbt <| Q <| zdw ty9 rfl rfl (by omega) (by omega) <| AS rfl <| G <| SQ ?_
  refine RG<|MS rfl<|Q<|zao (v1:=str _) zpe rfl rfl<|Ret.det (zc2 _ _ (V.hD _ Q0) (by first | omega | (simp only [List.length_drop,List.length_take,List.length_append,List.length_cons,List.length_nil]; omega))) V fun w V=>Q<|zad (v:=.tuple #[.int .u32 _,.int .i64 _]) rfl<|Q<|Ex (.int .u32 _) rfl rfl<|Q<|Ex (.int .i64 _) rfl rfl<|AU rfl<|AI rfl<|NSR<|MS rfl<|Q (zaf zbw zgA (.c (v:=.int .u8 _) rfl (h:=(.c (v:=str _) rfl (h:=.nil)))) ?_)
  refine MS Z<|Q<|zbb (rest:=[]) ty9 Z<|MI Z<|Q (SO (v:=zbZ _ _ _) V zbw Z Z .u0 fun w V=>?_)
  refine AI Z<|AI Z<|G<|zbe func80 Z (zat (vs:=ziS _ _ _) Z zbw Z Z (zac (n:=3) (V.objL Q0) _ Z)) (TP (v:=.int .i64 _) Z) (TP (v:=.int .i64 _) Z) ?_
  have hta:(s.drop 0).take (1 + (zcj (s.drop (0 + 1))).length) = s.take ((1 + ((zcj (s.drop (0 + 1))).length:Int)).toNat):=by rw [List.drop_zero,show (1 + ((zcj (s.drop (0 + 1))).length:Int)).toNat = 1 + (zcj (s.drop (0 + 1))).length by omega]
  by_cases hz:(za3 (s.take ((1 + ((zcj (s.drop (0 + 1))).length:Int)).toNat))).2 = 0
  ·rw [show (za3 (s.take ((1 + ((zcj (s.drop ((1 : Int).toNat))).length : Int)).toNat))).2 = 0 from hz]
   exact .inl ⟨_,_,_,zjf (a:=0) (.inr O) hta hz,Z,V.pure⟩
  ·have h62 := (zql (s.take ((1 + ((zcj (s.drop (0 + 1))).length : Int)).toNat))).resolve_left hz
   rw [show (za3 (s.take ((1 + ((zcj (s.drop ((1:Int).toNat))).length:Int)).toNat))).2 = 62 from h62]
   exact .inr ⟨_,_,_,_,zmI (a:=0) (.inr O) hta hz,by decide,Z,V.pure⟩
 refine zag<|SR<|MC Z<|Q<|zao (v1:=.int .u8 _) zub Z Z<|Ret.det (zeg _ _) V fun w V=>Q<|zam Z Z<|AB Z<|G<|zab Z (fun g8=>?_) (fun g8=>?_)
 ·refine zaK (id := 6) rfl <| SQ <| SR <| MS rfl <| MS rfl <| Q <| zcF ty9 rfl rfl (by omega) (by omega) <| Q <| zao (v1 := str _) zrZ rfl rfl <| Ret.det (zgv _ _ (by first | omega | (simp only [List.length_drop]; omega))) V fun w V => Q <| zbb (rest := []) ty9 rfl <| Q <| zaA rfl rfl rfl zbt <| Q <| zdw ty9 rfl rfl (by omega) (by omega) <| AS rfl <| G <| SQ <| RG ?_
  refine MS rfl<|Q<|zao (v1:=str _) zpe rfl rfl<|Ret.det (zc2 _ _ (V.hD _ Q0) (by first | omega | (simp only [List.length_drop,List.length_take,List.length_append,List.length_cons,List.length_nil]; omega))) V fun w V=>Q<|zad (v:=.tuple #[.int .u32 _,.int .i64 _]) rfl<|Q<|Ex (.int .u32 _) rfl rfl<|Q<|Ex (.int .i64 _) rfl rfl<|AU rfl<|AI rfl<|G<|zaj [(2,Pp _ _),(12,str _),(14,.int .i64 _)] E3 fun f=>SR<|MS rfl<|Q (zaf zbw zgA (.c (v:=.int .u8 _) rfl (h:=(.c (v:=str _) rfl (h:=.nil)))) ?_)
  refine MS Z<|Q<|zbb (rest:=[]) ty9 Z<|MI Z<|Q (SO (v:=zbZ _ _ _) V zbw Z Z .u0 fun w V=>?_)
  refine AI Z<|AI Z<|G<|zbe func80 Z (zat (vs:=ziS _ _ _) Z zbw Z Z (zac (n:=3) (V.objL Q0) _ Z)) (TP (v:=.int .i64 _) Z) (TP (v:=.int .i64 _) Z) ?_
  have hta:(s.drop 0).take (1 + (zcj (s.drop (0 + 1))).length) = s.take ((1 + ((zcj (s.drop (0 + 1))).length:Int)).toNat):=by rw [List.drop_zero,show (1 + ((zcj (s.drop (0 + 1))).length:Int)).toNat = 1 + (zcj (s.drop (0 + 1))).length by omega]
  by_cases hz:(za3 (s.take ((1 + ((zcj (s.drop (0 + 1))).length:Int)).toNat))).2 = 0
  ·rw [show (za3 (s.take ((1 + ((zcj (s.drop ((1 : Int).toNat))).length : Int)).toNat))).2 = 0 from hz]
   exact .inl ⟨_,_,_,zjf (a:=0) (.inl ((zl0 _).1 g8)) hta hz,Z,V.pure⟩
  ·have h62 := (zql (s.take ((1 + ((zcj (s.drop (0 + 1))).length : Int)).toNat))).resolve_left hz
   rw [show (za3 (s.take ((1 + ((zcj (s.drop ((1:Int).toNat))).length:Int)).toNat))).2 = 62 from h62]
   exact .inr ⟨_,_,_,_,zmI (a:=0) (.inl ((zl0 _).1 g8)) hta hz,by decide,Z,V.pure⟩
 refine zag<|zaK (id:=0) Z<|SR<|Q (zaf zbw zgA .nil ?_)
 refine Q (SO (v:=zbZ _ _ _) V zbw Z Z .u0 fun w V=>?_)
 refine AI Z<|AI Z<|G<|zbe func80 Z (zat (vs:=ziS _ _ _) Z zbw Z Z (zac (n:=3) (V.objL Q0) _ Z)) (TP (v:=.int .i64 _) Z) (TP (v:=.int .i64 _) Z) ?_
 exact .inr ⟨_,_,_,_,zoG (a:=0) (fun q=>g6 ((ziT _).2 q)) O (fun q=>g8 ((zl0 _).2 q)) O O O,by decide,Z,V.pure⟩
theorem zf3 (s:Tx) (w:World) (hG:LxG.holds w) (hl:s.length ≤ 1099511627776):Ret prog 38 #[str s] w (fun v w'=>∃ ao cp,v = .tuple #[.slice ao (zbn s).1.length cp,.agg #[.int .i64 (zbn s).2.1,.int .i64 (zbn s).2.2]] ∧ St w NoM [Res.sl ao (zbn s).1.length cp 72 3 ((zbn s).1.flatMap zeJ)] [] w'):=by
 refine zav (args:=[str s]) func38 Z Z Z ?_
 have V:St w NoM [] [LxG] w:=St.init_Ds (by simp only [List.forall_mem_cons]; exact ⟨hG,fun _ h=>absurd h List.not_mem_nil⟩)
 refine SR<|AL Z<|Q<|zar V zaV fun w b3 V=>G<|zhg<|SR<|AL Z<|G<|SQ<|zfN<|SQ<|SQ<|RG ?_
 refine AI Z<|G<|zak<|zaY ?_
 replace V:=V.pushNil 72 3
 refine zaZ [(0,str _),(3,Pp _ _)] E2 (fun (qq:Nat × List TokL × Option Addr × Nat)=>[(4,.slice qq.2.2.1 qq.2.1.length qq.2.2.2),(5,.int .i64 (qq.1:Int))]) (fun (qq:Nat × List TokL × Option Addr × Nat)=>[Res.sl qq.2.2.1 qq.2.1.length qq.2.2.2 72 3 (qq.2.1.flatMap zeJ)]) (fun (qq:Nat × List TokL × Option Addr × Nat)=>zlG s qq.1 qq.2.1) (fun (qq:Nat × List TokL × Option Addr × Nat)=>s.length - qq.1) ((0,[],none,0)) V (zoD s) E2 ?_
 intro ⟨i,l,aq,cq⟩ f w V hJ ih1
 replace V:St _ _ ([Res.sl aq l.length cq 72 3 (l.flatMap zeJ)] ++ [_]) _ _:=V
 replace hJ:zlG s i l:=hJ
 refine za6 (sl:=[(4,.slice aq l.length cq),(5,.int .i64 (i:Int))]) E2 ?_
 have hidx:(s.getD ((i:Int).toNat) 0).toNat = (s.getD i 0).toNat:=rfl
 have hj2:=hJ.2.1
 have hj1:=hJ.1
 refine SQ<|SR<|MI Z<|MS Z<|Q<|zbb (rest:=[]) ty9 Z<|Q<|zaN Z Z<|G<|zab Z (fun g2=>?_) (fun g2=>?_)
 ·refine zag <| zak <| SQ <| zak <| SR <| MS Z <| MI Z <| Q <| za5 ty9 Z Z O O <| Q <| zam Z Z <| AB Z <| G <| zab Z (fun g3 => ?_) (fun g3 => ?_)
  ·refine zaK (id := 0) Z <| SR <| ML Z <| Q (zaf zaV zbW .nil ?_)
   refine AL Z<|Q (SO (v:=gII _ _) V zaV Z Z .u1 fun w V=>?_)
   refine G<|zaq func38 Z (TP (v:=.slice _ _ _) Z) (zat (vs:=lII _ _) Z zaV Z Z (zac (n:=2) (V.objL Q1) _ Z)) ?_
   rw [zmF hJ (by omega)]
   replace V:=V.pick (.k1 .nil)
   exact ⟨aq,cq,Z,V.noD⟩
  refine SR<|MS Z<|MI Z<|Q<|za5 ty9 Z Z O O<|Q<|zao (v1:=.int .u8 _) zub Z Z<|Ret.det (zeg _ _) V fun w V=>Q<|zam Z Z<|AB Z<|G<|zab Z (fun g4=>?_) (fun g4=>?_)
  ·refine SR <| MI Z <| Q <| zaA Z Z Z zbt <| AI Z <| G <| zaK (id := 1) Z <| zaD ?_
   have hI:=zoE hJ O O ((zh9 _).1 g4)
   exact ih1 ((i + 1,l,aq,cq)) _ w (Od) V (hI) E2 ⟨Z,(Vi Od),trivial⟩
  refine zag<|zah<|SR<|MS rfl<|MI rfl<|Q<|zcF ty9 rfl rfl (by omega) (by omega)<|Q (zao (v1:=str _) ent80 rfl rfl ((zsg (s.drop i) (by rw [List.length_drop]; omega) _ (V.hD _ Q0) (by rw [List.length_drop]; omega)).mono fun v w hp=>?_))
  rcases hp with ⟨kd,t,m,htk,rfl,hp⟩ | ⟨e,kd,t,m,htk,hne,rfl,hp⟩
  ·replace V := V.keepc hp
   have hm:=zhb (by rw [List.length_drop]; omega) htk
   rw [List.length_drop] at hm
   refine Q<|zad (v:=.tuple #[zbZ _ _ _,.int .i64 _,.int .i64 _]) Z<|Q<|Ex (zbZ _ _ _) Z Z<|Q<|Ex (.int .i64 _) Z Z<|Q<|Ex (.int .i64 _) Z Z<|Q<|zar V zbw fun w b6 V=>Q (SO (v:=zbZ _ _ _) V zbw Z Z .u0 fun w V=>?_)
   refine AI Z<|AI Z<|G<|zaj [(0,str _),(3,Pp _ _),(4,.slice _ _ _),(5,.int .i64 _),(6,Pp _ _),(7,.int .i64 _),(8,.int .i64 _)] E7 fun f=>SQ<|SR<|MI Z<|Q<|zaF Z Z<|G<|zab Z (fun g5=>?_) (fun g5=>?_)
   ·exfalso
    exact g5 Z
   refine zag<|SR<|MI Z<|Q<|zaa zdv Z<|Q (SO (v:=.int .i64 _) V ty3 Z Z .u0 fun w V=>?_)
   refine NSR<|ML Z<|Q<|zay (vs:=ziS _ _ _) zbw Z Z Z (zac (n:=3) (V.objL Q0) _ Z)<|Q (zaI (z0:=[.int .u8 0,str [],.int .i64 0]) V zfI zbw Z Z Kr (.c (v:=zbZ _ _ _) Z (h:=.nil)) fun w b43 V=>?_)
   refine Q (zaP (news:=zeJ ⟨kd,t,(i:Int)⟩) V zfI zbw Z Z .u2 Z Z Z (zac (n:=3) (V.objL Q0) _ Z) Z Z O fun w ao6 cp7 V=>?_)
   replace V:=V.drop .u1
   refine AL Z<|NR<|MI Z<|MI Z<|Q<|zaA Z Z Z zbt<|AI Z<|G<|zah<|zaD ?_
   have hI:=zvy hJ O O (fun q=>g4 ((zh9 _).2 q)) htk
   replace V:=V.pick (.k1 (.c .u1 .nil))
   exact ih1 ((i + m,l ++ [⟨kd,t,(i:Int)⟩],ao6,cp7)) _ w ((by (try dsimp only); omega)) (by rw [List.length_append,List.flatMap_append]; exact V) (hI) E2 ⟨(by simp only [List.length_append]; rfl),(Vi (by (try dsimp only); omega)),trivial⟩
  ·replace V := V.keepc hp
   refine Q<|zad (v:=.tuple #[zbZ _ _ _,.int .i64 _,.int .i64 _]) Z<|Q<|Ex (zbZ _ _ _) Z Z<|Q<|Ex (.int .i64 _) Z Z<|Q<|Ex (.int .i64 _) Z Z<|Q<|zar V zbw fun w b6 V=>Q (SO (v:=zbZ _ _ _) V zbw Z Z .u0 fun w V=>?_)
   refine AI Z<|AI Z<|G<|zaj [(0,str _),(3,Pp _ _),(4,.slice _ _ _),(5,.int .i64 _),(6,Pp _ _),(7,.int .i64 _),(8,.int .i64 _)] E7 fun f=>SQ<|SR<|MI Z<|Q<|zaF Z Z<|G<|zab Z (fun g8=>?_) (fun g8=>?_)
   ·refine SR <| MI Z <| MI Z <| Q (zaf zaV zbW (.c (v := .int .i64 _) Z (h := (.c (v := .int .i64 _) Z (h := .nil)))) ?_)
    refine AL Z<|Q (SO (v:=gII _ _) V zaV Z Z .u2 fun w V=>?_)
    refine G<|zaq func38 Z (TP (v:=.slice _ _ _) Z) (zat (vs:=lII _ _) Z zaV Z Z (zac (n:=2) (V.objL Q2) _ Z)) ?_
    rw [zs2 hJ (by omega) (by omega) (fun q=>g4 ((zh9 _).2 q)) htk]
    replace V:=V.pushNil 72 3
    replace V:=V.pick (.k1 .nil)
    exact ⟨none,0,Z,V.noD⟩
   exfalso
   exact g8 hne
 refine zaK (id:=0) Z<|SR<|ML Z<|Q (zaf zaV zbW .nil ?_)
 refine AL Z<|Q (SO (v:=gII _ _) V zaV Z Z .u1 fun w V=>?_)
 refine G<|zaq func38 Z (TP (v:=.slice _ _ _) Z) (zat (vs:=lII _ _) Z zaV Z Z (zac (n:=2) (V.objL Q1) _ Z)) ?_
 rw [zmF hJ (by omega)]
 replace V:=V.pick (.k1 .nil)
 exact ⟨aq,cq,Z,V.noD⟩
end Go.SK
namespace Go.SK
open Go Go.Proofs Go.Proofs.Tryz
theorem zpc:FldF prog 72 0 0:=FldF.of (n:=0) Kr
theorem zbP:FldF prog 72 1 1:=FldF.of (n:=0) Kr
theorem ent165:zaG prog 165:=⟨f165,_,func165,Kr,rfl⟩
theorem ent115:zaG prog 115:=⟨f115,_,func115,Kr,rfl⟩
theorem ty155:TyF prog 155 (.slice 9) 1 24 [.slice none 0 0]:=zbp Kr Kr
theorem ent116:zaG prog 116:=⟨f116,_,func116,Kr,rfl⟩
open Go.RowKit
theorem zsf (t:TokL) (w:World) (hG:LxG.holds w) (hl:t.text.length ≤ 1099511627776):Ret prog 115 #[.agg #[.int .u8 t.kind,str t.text,.int .i64 t.at_]] w (fun v w'=>(∃ x,wrT t = some x ∧ v = .tuple #[str x,.bool true] ∧ St w NoM [] [] w') ∨ (wrT t = none ∧ ∃ y,v = .tuple #[str y,.bool false] ∧ St w NoM [] [] w')):=by
 refine zav (args:=[.agg #[.int .u8 t.kind,str t.text,.int .i64 t.at_]]) func115 Z Z Z ?_
 have V:St w NoM [] [LxG] w:=St.init_Ds (by simp only [List.forall_mem_cons]; exact ⟨hG,fun _ h=>absurd h List.not_mem_nil⟩)
 refine SR<|Q<|zbi (v:=zbZ _ _ _) V Z Z fun w b1 V=>AS Z<|AB Z<|G<|SQ<|SR<|Q<|zaa zpc Z<|Q<|zae (v:=.int .u8 _) ty5 Z Z (V.cellL Q0 Z)<|G<|zak<|SQ<|RG ?_
 refine Q<|zam Z Z<|AB Z<|G<|zab Z (fun g1=>?_) (fun g1=>?_)
 ·refine SQ <| zaC [] V (bs := [0, 1, 0, 4, 12, 28, 60, 124, 252, 508, 1020, 2044, 4092, 8188, 16380, 32764, 8188, 73724, 262140, 524284, 65535, 2097151]) (ds := [some 12, some 13, some 14, some 15, some 16, some 17, some 18, some 19, some 20, some 21, some 22, some 23, some 24, some 25, some 26, some 27, some 28, some 29, some 30, some 31, some 2, some 3]) ⟨Kr, Kr, Kr⟩ (fun tab2 => ?_)
  refine DO tab2 1 (fun _ _ _ hc=>zaa zbP (hc.old (v:=Pp _ _) Z Z Z) hc.z)<|DO tab2 2 (fun _ _ _ hc=>zae (v:=str _) ty9 Z (hc.d 0 Z Z Z Z) (hc.st.cellL (Ar Q0) Z) hc.z)<|DO tab2 3 (fun _ _ _ hc=>zaa zbP (hc.old (v:=Pp _ _) Z Z Z) hc.z)<|DO tab2 4 (fun _ _ _ hc=>zae (v:=str _) ty9 Z (hc.d 2 Z Z Z Z) (hc.st.cellL (Ar Q0) Z) hc.z)<|DO tab2 5 (fun _ _ _ hc=>zdo (hc.d 3 Z Z Z Z) Z hc.z)<|DO tab2 6 (fun _ _ _ hc=>zad (v:=.bool _) (hc.d 4 Z Z Z Z) hc.z)<|zef (j:=5) Z (fun g3=>?_) (fun g3=>?_)
  ·have hpos : 0 < t.text.length := List.length_pos_iff.2 g3
   refine RunD.take (det _) tab2 7 Z (fun _ _ _ hc=>(hc.d 5 Z Z Z Z).trans (Vb (Dt g3))) (fun _ _ _ hc=>zaa zbP (hc.old (v:=Pp _ _) Z Z Z) hc.z)<|RunD.take (det _) tab2 8 Z (fun _ _ _ hc=>(hc.d 5 Z Z Z Z).trans (Vb (Dt g3))) (fun _ _ _ hc=>zae (v:=str _) ty9 Z (hc.d 6 Z Z Z Z) (hc.st.cellL (Ar Q0) Z) hc.z)<|RunD.take (det _) tab2 9 Z (fun _ _ _ hc=>(hc.d 5 Z Z Z Z).trans (Vb (Dt g3))) (fun _ _ _ hc=>za5 ty9 (hc.d 7 Z Z Z Z) Z O O hc.z)<|RunD.take (det _) tab2 10 Z (fun _ _ _ hc=>(hc.d 5 Z Z Z Z).trans (Vb (Dt g3))) (fun _ _ _ hc=>zao (v1:=.int .u8 _) zub Z (hc.d 8 Z Z Z Z) ((zeg _ _).mono fun v w hp=>⟨[],⟨hp.1,Z⟩,hc.st.keepc hp.2⟩))<|RunD.take (det _) tab2 11 Z (fun _ _ _ hc=>(hc.d 5 Z Z Z Z).trans (Vb (Dt g3))) (fun _ _ _ hc=>zam (hc.d 9 Z Z Z Z) Z hc.z)<|DO tab2 12 (fun _ _ _ hc=>zaB (u:=.bool _) (((hc.d 5 Z Z Z Z)).trans (Vb (Dt g3))) (hc.d 10 Z Z Z Z) hc.z)<|DO tab2 13 (fun _ _ _ hc=>zad (v:=.bool _) (hc.d 11 Z Z Z Z) hc.z)<|zef (j:=12) Z (fun g4=>?_) (fun g4=>?_)
   ·refine RunD.take (det _) tab2 14 Z (fun _ _ _ hc=>(hc.d 12 Z Z Z Z).trans (Vb (Dt g4))) (fun _ _ _ hc=>zaa zbP (hc.old (v := Pp _ _) Z Z Z) hc.z) <| RunD.take (det _) tab2 15 Z (fun _ _ _ hc=>(hc.d 12 Z Z Z Z).trans (Vb (Dt g4))) (fun _ _ _ hc=>zae (v := str _) ty9 Z (hc.d 13 Z Z Z Z) (hc.st.cellL (Ar Q0) Z) hc.z) <| RunD.take (det _) tab2 16 Z (fun _ _ _ hc=>(hc.d 12 Z Z Z Z).trans (Vb (Dt g4))) (fun _ _ _ hc=>zao (v1 := str _) zrZ Z (hc.d 14 Z Z Z Z) ((zgv t.text _ O).mono fun v w hp => ⟨[], ⟨hp.1, Z⟩, hc.st.keepc hp.2⟩)) <| RunD.take (det _) tab2 17 Z (fun _ _ _ hc=>(hc.d 12 Z Z Z Z).trans (Vb (Dt g4))) (fun _ _ _ hc=>zaa zbP (hc.old (v := Pp _ _) Z Z Z) hc.z) <| RunD.take (det _) tab2 18 Z (fun _ _ _ hc=>(hc.d 12 Z Z Z Z).trans (Vb (Dt g4))) (fun _ _ _ hc=>zae (v := str _) ty9 Z (hc.d 16 Z Z Z Z) (hc.st.cellL (Ar Q0) Z) hc.z) <| RunD.take (det _) tab2 19 Z (fun _ _ _ hc=>(hc.d 12 Z Z Z Z).trans (Vb (Dt g4))) (fun _ _ _ hc=>zcu (hc.d 15 Z Z Z Z) (hc.d 17 Z Z Z Z) hc.z) <| DO tab2 20 (fun _ _ _ hc=>zaB (u := .bool _) (((hc.d 12 Z Z Z Z)).trans (Vb (Dt g4))) (hc.d 18 Z Z Z Z) hc.z) <| DO tab2 21 (fun _ _ _ hc => zap (v := str _) (hc.d 1 Z Z Z Z) hc.z) <| RunD.fin zaw tab2 V Z (fun f5 w R8 hs6 hd7 hr9 V => ?_)
    obtain ⟨h12_,r0⟩:=hd7 0 12 rfl rfl
    obtain ⟨h13_,r1⟩:=hd7 1 13 rfl rfl
    obtain ⟨h14_,r2⟩:=hd7 2 14 rfl rfl
    obtain ⟨h15_,r3⟩:=hd7 3 15 rfl rfl
    obtain ⟨h16_,r4⟩:=hd7 4 16 rfl rfl
    obtain ⟨h17_,r5⟩:=hd7 5 17 rfl rfl
    obtain ⟨h18_,r6⟩:=hd7 6 18 rfl rfl
    obtain ⟨h19_,r7⟩:=hd7 7 19 rfl rfl
    obtain ⟨h20_,r8⟩:=hd7 8 20 rfl rfl
    obtain ⟨h21_,r9⟩:=hd7 9 21 rfl rfl
    obtain ⟨h22_,r10⟩:=hd7 10 22 rfl rfl
    obtain ⟨h23_,r11⟩:=hd7 11 23 rfl rfl
    obtain ⟨h24_,r12⟩:=hd7 12 24 rfl rfl
    obtain ⟨h25_,r13⟩:=hd7 13 25 rfl rfl
    obtain ⟨h26_,r14⟩:=hd7 14 26 rfl rfl
    obtain ⟨h27_,r15⟩:=hd7 15 27 rfl rfl
    obtain ⟨h28_,r16⟩:=hd7 16 28 rfl rfl
    obtain ⟨h29_,r17⟩:=hd7 17 29 rfl rfl
    obtain ⟨h30_,r18⟩:=hd7 18 30 rfl rfl
    obtain ⟨h31_,r19⟩:=hd7 19 31 rfl rfl
    obtain ⟨h2_,r20⟩:=hd7 20 2 rfl rfl
    simp only [rg21,Fc,Fn,Mc,Mn,r0,r1,r2,r3,r4,r5,r6,r7,r8,r9,r10,r11,r12,r13,r14,r15,r16,r17,r18,r19,r20,Na,An,Ca] at V
    refine zaz (sl:=[(2,str _),(31,.bool _)]) ⟨h2_,h31_,trivial⟩ ?_
    clear hs6 hd7 hr9 tab2
    refine AB Z<|G<|zaq func115 Z (TP (v:=str _) Z) (TP (v:=.bool _) Z) ?_
    by_cases hz:zcj t.text = t.text
    ·rw [Dt hz]; exact .inl ⟨_,zsT (by omega) g3 ((ziT _).1 g4) hz,rfl,V.pure⟩
    ·rw [Df hz]; exact .inr ⟨zsU (by omega) (fun q=>hz q.2.2),_,rfl,V.pure⟩
   refine zaX tab2 14 Z Z (fun _ _ _ hc=>(hc.d 12 Z Z Z Z).trans (Vb (Df g4)))<|zaX tab2 15 Z Z (fun _ _ _ hc=>(hc.d 12 Z Z Z Z).trans (Vb (Df g4)))<|zaX tab2 16 Z Z (fun _ _ _ hc=>(hc.d 12 Z Z Z Z).trans (Vb (Df g4)))<|zaX tab2 17 Z Z (fun _ _ _ hc=>(hc.d 12 Z Z Z Z).trans (Vb (Df g4)))<|zaX tab2 18 Z Z (fun _ _ _ hc=>(hc.d 12 Z Z Z Z).trans (Vb (Df g4)))<|zaX tab2 19 Z Z (fun _ _ _ hc=>(hc.d 12 Z Z Z Z).trans (Vb (Df g4)))<|DO tab2 20 (fun _ _ _ hc=>zax (u:=.bool _) (((hc.d 12 Z Z Z Z)).trans (Vb (Df g4))) Z hc.z)<|DO tab2 21 (fun _ _ _ hc=>zap (v:=str _) (hc.d 1 Z Z Z Z) hc.z)<|RunD.fin zaw tab2 V Z (fun f10 w R13 hs11 hd12 hr14 V=>?_)
   obtain ⟨h12_,r0⟩:=hd12 0 12 rfl rfl
   obtain ⟨h13_,r1⟩:=hd12 1 13 rfl rfl
   obtain ⟨h14_,r2⟩:=hd12 2 14 rfl rfl
   obtain ⟨h15_,r3⟩:=hd12 3 15 rfl rfl
   obtain ⟨h16_,r4⟩:=hd12 4 16 rfl rfl
   obtain ⟨h17_,r5⟩:=hd12 5 17 rfl rfl
   obtain ⟨h18_,r6⟩:=hd12 6 18 rfl rfl
   obtain ⟨h19_,r7⟩:=hd12 7 19 rfl rfl
   obtain ⟨h20_,r8⟩:=hd12 8 20 rfl rfl
   obtain ⟨h21_,r9⟩:=hd12 9 21 rfl rfl
   obtain ⟨h22_,r10⟩:=hd12 10 22 rfl rfl
   obtain ⟨h23_,r11⟩:=hd12 11 23 rfl rfl
   obtain ⟨h24_,r12⟩:=hd12 12 24 rfl rfl
   obtain ⟨h25_,r13⟩:=hd12 13 25 rfl rfl
   obtain ⟨h26_,r14⟩:=hd12 14 26 rfl rfl
   obtain ⟨h27_,r15⟩:=hd12 15 27 rfl rfl
   obtain ⟨h28_,r16⟩:=hd12 16 28 rfl rfl
   obtain ⟨h29_,r17⟩:=hd12 17 29 rfl rfl
   obtain ⟨h30_,r18⟩:=hd12 18 30 rfl rfl
   obtain ⟨h31_,r19⟩:=hd12 19 31 rfl rfl
   obtain ⟨h2_,r20⟩:=hd12 20 2 rfl rfl
   simp only [rg21,Fc,Fn,Mc,Mn,r0,r1,r2,r3,r4,r5,r6,r7,r8,r9,r10,r11,r12,r13,r14,r15,r16,r17,r18,r19,r20,Na,An,Ca] at V
   refine zaz (sl:=[(2,str _),(31,.bool _)]) ⟨h2_,h31_,trivial⟩ ?_
   clear hs11 hd12 hr14 tab2
   refine AB Z<|G<|zaq func115 Z (TP (v:=str _) Z) (TP (v:=.bool _) Z) ?_
   exact .inr ⟨zsU O (fun q=>g4 ((ziT _).2 q.2.1)),_,Z,V.pure⟩
  refine zaX tab2 7 Z Z (fun _ _ _ hc=>(hc.d 5 Z Z Z Z).trans (Vb (Df g3)))<|zaX tab2 8 Z Z (fun _ _ _ hc=>(hc.d 5 Z Z Z Z).trans (Vb (Df g3)))<|zaX tab2 9 Z Z (fun _ _ _ hc=>(hc.d 5 Z Z Z Z).trans (Vb (Df g3)))<|zaX tab2 10 Z Z (fun _ _ _ hc=>(hc.d 5 Z Z Z Z).trans (Vb (Df g3)))<|zaX tab2 11 Z Z (fun _ _ _ hc=>(hc.d 5 Z Z Z Z).trans (Vb (Df g3)))<|DO tab2 12 (fun _ _ _ hc=>zax (u:=.bool _) (((hc.d 5 Z Z Z Z)).trans (Vb (Df g3))) Z hc.z)<|DO tab2 13 (fun _ _ _ hc=>zad (v:=.bool _) (hc.d 11 Z Z Z Z) hc.z)<|zaX tab2 14 Z Z (fun _ _ _ hc=>(hc.d 12 Z Z Z Z).trans (Vb (Z:false = _)))<|zaX tab2 15 Z Z (fun _ _ _ hc=>(hc.d 12 Z Z Z Z).trans (Vb (Z:false = _)))<|zaX tab2 16 Z Z (fun _ _ _ hc=>(hc.d 12 Z Z Z Z).trans (Vb (Z:false = _)))<|zaX tab2 17 Z Z (fun _ _ _ hc=>(hc.d 12 Z Z Z Z).trans (Vb (Z:false = _)))<|zaX tab2 18 Z Z (fun _ _ _ hc=>(hc.d 12 Z Z Z Z).trans (Vb (Z:false = _)))<|zaX tab2 19 Z Z (fun _ _ _ hc=>(hc.d 12 Z Z Z Z).trans (Vb (Z:false = _)))<|DO tab2 20 (fun _ _ _ hc=>zax (u:=.bool _) (((hc.d 12 Z Z Z Z)).trans (Vb (Z:false = _))) Z hc.z)<|DO tab2 21 (fun _ _ _ hc=>zap (v:=str _) (hc.d 1 Z Z Z Z) hc.z) ?_
  refine RunD.fin zaw tab2 V Z (fun f15 w R18 hs16 hd17 hr19 V=>?_)
  obtain ⟨h12_,r0⟩:=hd17 0 12 rfl rfl
  obtain ⟨h13_,r1⟩:=hd17 1 13 rfl rfl
  obtain ⟨h14_,r2⟩:=hd17 2 14 rfl rfl
  obtain ⟨h15_,r3⟩:=hd17 3 15 rfl rfl
  obtain ⟨h16_,r4⟩:=hd17 4 16 rfl rfl
  obtain ⟨h17_,r5⟩:=hd17 5 17 rfl rfl
  obtain ⟨h18_,r6⟩:=hd17 6 18 rfl rfl
  obtain ⟨h19_,r7⟩:=hd17 7 19 rfl rfl
  obtain ⟨h20_,r8⟩:=hd17 8 20 rfl rfl
  obtain ⟨h21_,r9⟩:=hd17 9 21 rfl rfl
  obtain ⟨h22_,r10⟩:=hd17 10 22 rfl rfl
  obtain ⟨h23_,r11⟩:=hd17 11 23 rfl rfl
  obtain ⟨h24_,r12⟩:=hd17 12 24 rfl rfl
  obtain ⟨h25_,r13⟩:=hd17 13 25 rfl rfl
  obtain ⟨h26_,r14⟩:=hd17 14 26 rfl rfl
  obtain ⟨h27_,r15⟩:=hd17 15 27 rfl rfl
  obtain ⟨h28_,r16⟩:=hd17 16 28 rfl rfl
  obtain ⟨h29_,r17⟩:=hd17 17 29 rfl rfl
  obtain ⟨h30_,r18⟩:=hd17 18 30 rfl rfl
  obtain ⟨h31_,r19⟩:=hd17 19 31 rfl rfl
  obtain ⟨h2_,r20⟩:=hd17 20 2 rfl rfl
  simp only [rg21,Fc,Fn,Mc,Mn,r0,r1,r2,r3,r4,r5,r6,r7,r8,r9,r10,r11,r12,r13,r14,r15,r16,r17,r18,r19,r20,Na,An,Ca] at V
  refine zaz (sl:=[(2,str _),(31,.bool _)]) ⟨h2_,h31_,trivial⟩ ?_
  clear hs16 hd17 hr19 tab2
  refine AB Z<|G<|zaq func115 Z (TP (v:=str _) Z) (TP (v:=.bool _) Z) ?_
  exact .inr ⟨zsU O (fun q=>g3 q.1),_,Z,V.pure⟩
 refine SR<|Q<|zam Z Z<|AB Z<|G<|zab Z (fun g20=>?_) (fun g20=>?_)
 ·refine SR <| Q <| zaa zbP Z <| Q <| zae (v := str _) ty9 Z Z (V.cellL Q0 Z) <| Q <| zao (v1 := str _) zwv Z Z <| Ret.det (zgw t.text _ (V.hD _ Q0) O) V fun w V => Q <| zad (v := .tuple #[.int .u32 _, .bool _]) Z <| Q <| Ex (.int .u32 _) Z Z <| Q <| Ex (.bool _) Z Z <| AU Z <| AB Z <| NSR <| Q <| zaa zbP Z <| Q (zae (v := str _) ty9 Z Z (V.cellL Q0 Z) ?_)
  refine Q<|zi7 rfl rfl (by first | omega | (simp only [List.length_cons,List.length_nil,List.length_append]; omega) | (simp; omega))<|MB rfl<|AS rfl<|AB rfl<|G<|zaq func115 rfl (TP (v:=str _) rfl) (TP (v:=.bool _) rfl) ?_
  cases hz:(zba t.text).isSome
  ·exact .inr ⟨wr2_no O (f_no hz),_,Z,V.pure⟩
  ·exact .inl ⟨_,zsS O hz,Z,V.pure⟩
 refine SR<|Q<|zam Z Z<|AB Z<|G<|zab Z (fun g21=>?_) (fun g21=>?_)
 ·refine SR <| Q <| zaa zbP Z <| Q <| zae (v := str _) ty9 Z Z (V.cellL Q0 Z) <| Q <| zao (v1 := str _) zpe Z Z <| Ret.det (zc2 t.text _ (V.hD _ Q0) O) V fun w V => Q <| zad (v := .tuple #[.int .u32 _, .int .i64 _]) Z <| Q <| Ex (.int .u32 _) Z Z <| Q <| Ex (.int .i64 _) Z Z <| AU Z <| AI Z <| G <| zaj [(1, Pp _ _), (7, .int .i64 _)] E2 fun f => SR <| Q (zaa zbP Z ?_)
  refine Q<|zae (v:=str _) ty9 Z Z (V.cellL Q0 Z)<|MI Z<|Q<|zam Z Z<|AS Z<|AB Z<|G<|zaq func115 Z (TP (v:=str _) Z) (TP (v:=.bool _) Z) ?_
  by_cases hz:(za3 t.text).2 = 0
  ·rw [Dt hz]; exact .inl ⟨_,zsR (by omega) hz,rfl,V.pure⟩
  ·rw [Df hz]; exact .inr ⟨wr3_no (by omega) hz,_,rfl,V.pure⟩
 refine SR<|Q<|zam Z Z<|AB Z<|G<|zab Z (fun g22=>?_) (fun g22=>?_)
 ·refine SR <| Q <| zaa zbP Z <| Q <| zae (v := str _) ty9 Z Z (V.cellL Q0 Z) <| Q <| zao (v1 := str _) ent165 Z Z <| Ret.det (zpx t.text _ hl) V fun w V => AS Z <| AB Z <| G <| zaq func115 Z (TP (v := str _) Z) (TP (v := .bool _) Z) ?_
  exact .inl ⟨_,zpT O,Z,V.pure⟩
 refine SR<|Q<|zam Z Z<|AB Z<|G<|zab Z (fun g23=>?_) (fun g23=>?_)
 ·refine SQ <| zaC [] V (bs := [0, 1, 0, 4, 12, 3, 63]) (ds := [some 63, some 64, some 65, some 66, some 67, some 2, some 3]) ⟨Kr, Kr, Kr⟩ (fun tab24 => ?_)
  refine DO tab24 1 (fun _ _ _ hc=>zaa zbP (hc.old (v:=Pp _ _) Z Z Z) hc.z)<|DO tab24 2 (fun _ _ _ hc=>zae (v:=str _) ty9 Z (hc.d 0 Z Z Z Z) (hc.st.cellL (Ar Q0) Z) hc.z)<|DO tab24 3 (fun _ _ _ hc=>zaa zbP (hc.old (v:=Pp _ _) Z Z Z) hc.z)<|DO tab24 4 (fun _ _ _ hc=>zae (v:=str _) ty9 Z (hc.d 2 Z Z Z Z) (hc.st.cellL (Ar Q0) Z) hc.z)<|DO tab24 5 (fun _ _ _ hc=>zcu (hc.d 3 Z Z Z Z) Z hc.z)<|DO tab24 6 (fun _ _ _ hc=>zap (v:=str _) (hc.d 1 Z Z Z Z) hc.z)<|RunD.fin zaw tab24 V Z (fun f25 w R28 hs26 hd27 hr29 V=>?_)
  obtain ⟨h63_,r0⟩:=hd27 0 63 rfl rfl
  obtain ⟨h64_,r1⟩:=hd27 1 64 rfl rfl
  obtain ⟨h65_,r2⟩:=hd27 2 65 rfl rfl
  obtain ⟨h66_,r3⟩:=hd27 3 66 rfl rfl
  obtain ⟨h67_,r4⟩:=hd27 4 67 rfl rfl
  obtain ⟨h2_,r5⟩:=hd27 5 2 rfl rfl
  simp only [rg6,Fc,Fn,Mc,Mn,r0,r1,r2,r3,r4,r5,Na,An,Ca] at V
  refine zaz (sl:=[(2,str _),(67,.bool _)]) ⟨h2_,h67_,trivial⟩ ?_
  clear hs26 hd27 hr29 tab24
  refine AB Z<|G<|zaq func115 Z (TP (v:=str _) Z) (TP (v:=.bool _) Z) ?_
  by_cases hz:t.text = [61]
  ·rw [Dt hz]; exact .inl ⟨_,zkK (by omega) hz,by rw [hz],V.pure⟩
  ·rw [Df hz]; exact .inr ⟨wr5_no (by omega) hz,_,rfl,V.pure⟩
 refine zag<|zah<|SR<|AS Z<|AB Z<|G<|zaq func115 Z (TP (v:=str _) Z) (TP (v:=.bool _) Z) ?_
 exact .inr ⟨wr_no O O O O O,_,Z,V.pure⟩
theorem zkc (l:List TokL) (ao:Option Addr) (cp:Nat) (w:World) (hG:LxG.holds w) (hA0:(Res.rs ao l.length 3 (l.flatMap zeJ)).holds w) (hl:l.length ≤ 1099511627776) (hw:wsz l ≤ 1099511627776):Ret prog 63 #[.slice ao l.length cp] w (fun v w'=>v = .tuple #[str (wrS l),.int .i64 (wrE l)] ∧ St w NoM [] [] w'):=by
 refine zav (args:=[.slice ao l.length cp]) func63 Z Z Z ?_
 have V:St w NoM [] [LxG,Res.rs ao l.length 3 (l.flatMap zeJ)] w:=St.init_Ds (by simp only [List.forall_mem_cons]; exact ⟨hG,hA0,fun _ h=>absurd h List.not_mem_nil⟩)
 refine SR<|AS Z<|AI Z<|NSR<|AL Z<|G<|SQ<|SR<|ML Z<|Q<|zaH (rest:=[]) zfI Z<|MI Z ?_
 refine G<|zak<|zaY ?_
 replace V:=V.pushNil 9 1
 refine zaZ [(9,.slice _ _ _),(10,.int .i64 _)] E2 (fun (qq:Nat × List Tx × Option Addr × Nat)=>[(4,.slice qq.2.2.1 qq.2.1.length qq.2.2.2),(11,.int .i64 (qq.1:Int))]) (fun (qq:Nat × List Tx × Option Addr × Nat)=>[Res.sl qq.2.2.1 qq.2.1.length qq.2.2.2 9 1 (qq.2.1.flatMap strC)]) (fun (qq:Nat × List Tx × Option Addr × Nat)=>wrI l qq.1 qq.2.1) (fun (qq:Nat × List Tx × Option Addr × Nat)=>l.length - qq.1) ((0,[],none,0)) V (zsQ l) E2 ?_
 intro ⟨i,o,aq,cq⟩ f w V hJ ih1
 replace V:St _ _ ([Res.sl aq o.length cq 9 1 (o.flatMap strC)] ++ []) _ _:=V
 replace hJ:wrI l i o:=hJ
 refine za6 (sl:=[(4,.slice aq o.length cq),(11,.int .i64 (i:Int))]) E2 ?_
 have hjl:=zqq o
 have hj1:=hJ.1
 have hj3:=hJ.2.2.1
 have hj2:=hJ.2.1
 refine SR<|Q<|zaN Z Z<|G<|SQ<|zab Z (fun g2=>?_) (fun g2=>?_)
 ·refine zag <| SQ <| zak <| SR <| Q <| zaR zfI zbw (V.hD _ Q1) Z Z O O <| Q <| zay (vs := ziS _ _ _) zbw Z Z Z (Res.rs2_cells (m := 3) (V.hD _ Q1) _ (zbO (g := zeJ) (d := zaM) zcP _ _ O)) <| Q <| zar V zbw fun w b6 V => Q (SO (v := zbZ _ _ _) V zbw Z Z .u0 fun w V => ?_)
  refine NSR<|Q (zay (vs:=ziS _ _ _) zbw Z Z Z (zac (n:=3) (V.objL Q0) _ Z) ?_)
  have hzt:=zvk hJ O
  have htx:((l.getD ((i:Int).toNat) zaM).text).length = ((l.getD i zaM).text).length:=rfl
  refine Q (zao (v1:=zbZ _ _ _) ent115 Z Z ((zsf (l.getD ((i:Int).toNat) zaM) _ (V.hD _ Q0) O).mono fun v w hp=>?_))
  rcases hp with ⟨x,hx,rfl,hp⟩ | ⟨hx,y,rfl,hp⟩
  ·replace V := V.keepc hp
   have hxl:=zxa hx
   refine Q<|zad (v:=.tuple #[str _,.bool _]) Z<|Q<|Ex (str _) Z Z<|Q<|Ex (.bool _) Z Z<|AS Z<|AB Z<|G<|SQ<|SR<|MB Z<|Q<|zaU Z<|G<|zal (Vb (congrArg not (Z:true = _)))<|zag<|RG ?_
   refine ML Z<|MS Z<|Q (zaI (z0:=[str []]) V ty155 ty9 Z Z Kr (.c (v:=str _) Z (h:=.nil)) fun w b24 V=>?_)
   refine Q (zaP (news:=strC x) V ty155 ty9 Z Z .u2 Z Z Z (zac (n:=1) (V.objL Q0) _ Z) Z Z O fun w ao3 cp4 V=>?_)
   replace V:=V.drop .u1
   refine AL Z<|G<|zah<|RG<|Q<|zaA Z Z Z zbt<|MI Z<|G<|zaD ?_
   replace V:=V.pick (.k1 .nil)
   exact ih1 ((i + 1,o ++ [x],ao3,cp4)) _ w ((by (try dsimp only); omega)) (by rw [List.length_append,List.flatMap_append]; exact V) (zvp hJ (by omega) hx) E2 ⟨(by simp only [List.length_append]; rfl),(Vi (by (try dsimp only); omega)),trivial⟩
  ·replace V := V.keepc hp
   refine Q<|zad (v:=.tuple #[str _,.bool _]) Z<|Q<|Ex (str _) Z Z<|Q<|Ex (.bool _) Z Z<|AS Z<|AB Z<|G<|SQ<|SR<|MB Z<|Q<|zaU Z<|G<|zas (Vb (congrArg not (Z:false = _)))<|SQ<|RG ?_
   refine AS Z<|AI Z<|G<|zaq func63 Z (TP (v:=str _) Z) (TP (v:=.int .i64 _) Z) ?_
   have hwf:=zsO (wrI_no hJ O hx)
   rw [hwf.1,hwf.2]
   exact ⟨Z,V.pure⟩
 refine zaK (id:=0) Z<|SR<|ML Z<|Q<|zaE (v1:=.slice _ _ _) (v2:=str _) ent116 Z Z Z<|Ret.det (zyg o _ _ [32] _ (Res.rs_of_sl (V.hL _ Q0)) (Res.sl_cap (V.hL _ Q0)) O O) V fun w V=>AS Z<|AI Z<|G<|zaq func63 Z (TP (v:=str _) Z) (TP (v:=.int .i64 _) Z) ?_
 have hwf:=zd3 (zxO hJ O)
 rw [hwf.1,hwf.2]
 exact ⟨Z,V.pure⟩
end Go.SK
namespace Go.SK
open Go Go.Proofs Go.Proofs.Tryz
theorem ent185:zaG prog 185:=⟨f185,_,func185,Kr,rfl⟩
theorem ent142:zaG prog 142:=⟨f142,_,func142,Kr,rfl⟩
theorem ent82:zaG prog 82:=⟨f82,_,func82,Kr,rfl⟩
theorem zyx:zaG prog 38:=⟨f38,_,func38,Kr,rfl⟩
theorem zbB:FldF prog 28 0 0:=FldF.of (n:=0) Kr
theorem zdQ:TyF prog 26 (.int .i64) 1 8 [.int .i64 0]:=zbp Kr Kr
theorem za1:TyF prog 110 (.struct (zbm prog 110)) 3 24 [.int .u8 0,.int .u32 0,str []]:=zbp Kr Kr
theorem zeq:zdm prog 110 [(0,1),(1,1),(2,1)]:=⟨zbm prog 110,Kr,fun w=>Kr⟩
theorem zcK:TyF prog 62 (.struct (zbm prog 62)) 2 32 [.int .u16 0,.slice none 0 0]:=zbp Kr Kr
theorem zbo:TyF prog 44 (.struct (zbm prog 44)) 4 40 [.int .u16 0,.int .u32 0,.int .u32 0,.slice none 0 0]:=zbp Kr Kr
theorem zb5:TyF prog 113 (.struct (zbm prog 113)) 8 80 [.int .u16 0,str [],.bool false,.bool false,str [],str [],.int .i64 0,.int .u8 0]:=zbp Kr Kr
theorem zdC:FldF prog 113 3 3:=FldF.of (n:=0) Kr
theorem ty4:TyF prog 4 .bool 1 1 [.bool false]:=zbp Kr Kr
theorem zgo:FldF prog 113 0 0:=FldF.of (n:=0) Kr
theorem zlC:TyF prog 41 (.int .u16) 1 2 [.int .u16 0]:=zbp Kr Kr
theorem zfW:FldF prog 44 0 0:=FldF.of (n:=0) Kr
theorem zbA:FldF prog 44 3 3:=FldF.of (n:=0) Kr
theorem zc4:TyF prog 42 (.slice 110) 1 24 [.slice none 0 0]:=zbp Kr Kr
theorem zqE:zaG prog 131:=⟨f131,_,func131,Kr,rfl⟩
theorem zdE:FldF prog 110 0 0:=FldF.of (n:=0) Kr
theorem zxC:zaG prog 133:=⟨f133,_,func133,Kr,rfl⟩
theorem zww:zaG prog 37:=⟨f37,_,func37,Kr,rfl⟩
theorem zfi:FldF prog 113 2 2:=FldF.of (n:=0) Kr
theorem zeH:FldF prog 44 1 1:=FldF.of (n:=0) Kr
theorem zfV:FldF prog 44 2 2:=FldF.of (n:=0) Kr
theorem zjj:zdm prog 44 [(0,1),(1,1),(2,1),(3,1)]:=⟨zbm prog 44,Kr,fun w=>Kr⟩
theorem zdD:FldF prog 110 1 1:=FldF.of (n:=0) Kr
theorem zeb:FldF prog 62 1 1:=FldF.of (n:=0) Kr
theorem zcn:TyF prog 60 (.slice 22) 1 24 [.slice none 0 0]:=zbp Kr Kr
theorem zcx:TyF prog 25 (.struct (zbm prog 25)) 3 32 [.int .u32 0,.int .u32 0,.slice none 0 0]:=zbp Kr Kr
theorem zjk:zdm prog 25 [(0,1),(1,1),(2,1)]:=⟨zbm prog 25,Kr,fun w=>Kr⟩
theorem ent39:zaG prog 39:=⟨f39,_,func39,Kr,rfl⟩
theorem ent81:zaG prog 81:=⟨f81,_,func81,Kr,rfl⟩
theorem zfg:FldF prog 25 0 0:=FldF.of (n:=0) Kr
theorem zcZ:FldF prog 25 1 1:=FldF.of (n:=0) Kr
theorem zbX:FldF prog 25 2 2:=FldF.of (n:=0) Kr
theorem zdO:TyF prog 23 (.slice 44) 1 24 [.slice none 0 0]:=zbp Kr Kr
theorem ent19:zaG prog 19:=⟨f19,_,func19,Kr,rfl⟩
theorem zl5:FldF prog 90 0 0:=FldF.of (n:=0) Kr
theorem zvt:TyF prog 88 (.pointer 90) 1 8 [.pointer none]:=zbp Kr Kr
theorem ty255:TyF prog 255 .unsafePointer 1 8 [.pointer none]:=zbp Kr Kr
theorem ty90:TyF prog 90 (.struct (zbm prog 90)) 2 32 [.pointer none,.slice none 0 0]:=zbp Kr Kr
theorem zxz:zaG prog 150:=⟨f150,_,func150,Kr,rfl⟩
theorem zid:FldF prog 90 1 1:=FldF.of (n:=0) Kr
theorem ty169:TyF prog 169 (.pointer 5) 1 8 [.pointer none]:=zbp Kr Kr
open Go.RowKit
theorem byteF5:ByteF prog 5:=by unfold ByteF; kernel_rfl
theorem zpt (b:Nat) (x:Value) (w:World) (hB:(Res.row b 92 [.pointer none,x]).holds w):Ret prog 150 #[.pointer (some ⟨b,0,none⟩)] w (fun v w'=>v = .tuple #[] ∧ St w (Res.row b 92 [.pointer none,x]).foot [Res.row b 92 [.pointer (some ⟨b,0,none⟩),x]] [] w'):=by
 refine zav (args:=[.pointer (some ⟨b,0,none⟩)]) func150 Z Z Z ?_
 have V:St w (Res.row b 92 [.pointer none,x]).foot [Res.row b 92 [.pointer none,x]] [] w:=St.enter1 hB (fun d hd=>by cases hd) (fun d hd=>by cases hd)
 refine SR<|MP rfl<|Q<|zan rfl<|Q<|zaa zl5 rfl<|Q<|zae (v:=.pointer none) zvt rfl rfl (V.cellL Q0 rfl)<|Q<|zsD zvt rfl rfl<|G<|zas (Vb (rfl:true = _))<|RG<|MP rfl<|MP rfl<|Q<|zoj (B:=92) zvt ty255 ty90 (by decide) rfl (V.hL _ Q0) (by simp)<|Q<|zon (fn:=f194) func194 (by kernel_rfl) rfl (by kernel_rfl) (by kernel_rfl) rfl rfl<|Q (zkG (B:=92) (m:=2) ty255 zvt ty90 rfl (V.hL _ Q0) rfl (by kernel_rfl) ?_)
 refine Q<|zan Z<|Q<|zaa zl5 Z<|Q (SO (v:=Pp _ _) V zvt Z Z .u0 fun w V=>?_)
 refine G<|zdA func150 Z  ?_
 replace V:=V.pick (.k1 .nil)
 exact ⟨Z,V⟩
theorem zps (b:Nat) (x:Value) (w:World) (hB:(Res.row b 92 [.pointer (some ⟨b,0,none⟩),x]).holds w):Ret prog 150 #[.pointer (some ⟨b,0,none⟩)] w (fun v w'=>v = .tuple #[] ∧ St w (Res.row b 92 [.pointer (some ⟨b,0,none⟩),x]).foot [Res.row b 92 [.pointer (some ⟨b,0,none⟩),x]] [] w'):=by
 refine zav (args:=[.pointer (some ⟨b,0,none⟩)]) func150 Z Z Z ?_
 have V:St w (Res.row b 92 [.pointer (some ⟨b,0,none⟩),x]).foot [Res.row b 92 [.pointer (some ⟨b,0,none⟩),x]] [] w:=St.enter1 hB (fun d hd=>by cases hd) (fun d hd=>by cases hd)
 refine SR<|MP Z<|Q<|zan Z<|Q<|zaa zl5 Z<|Q<|zae (v:=Pp _ _) zvt Z Z (V.cellL Q0 Z)<|Q<|ze5 zvt Z Z<|G<|zal (Vb (Z:false = _))<|SR<|MP Z<|Q<|zan Z<|Q<|zaa zl5 Z<|Q (zae (v:=Pp _ _) zvt Z Z (V.cellL Q0 Z) ?_)
 refine MP Z<|Q<|zu9 zvt ty90 Z Z<|G<|zal (Vb (Z:false = _))<|zag<|zdA func150 Z  ?_
 replace V:=V.pick (.k1 .nil)
 exact ⟨Z,V⟩
theorem zln (b:Nat) (x p:Value) (w:World) (hB:(Res.row b 92 [p,x]).holds w) (hp0:p = .pointer none ∨ p = .pointer (some ⟨b,0,none⟩)):Ret prog 150 #[.pointer (some ⟨b,0,none⟩)] w (fun v w'=>v = .tuple #[] ∧ St w (Res.row b 92 [p,x]).foot [Res.row b 92 [.pointer (some ⟨b,0,none⟩),x]] [] w'):=by
 rcases hp0 with rfl | rfl
 ·exact zpt b x w hB
 ·exact zps b x w hB
theorem ziD (b:Nat) (p:Value) (ao:Option Addr) (cp:Nat) (l:Tx) (s:Tx) (w:World) (hR:(BdR 92 5 b p ao cp l).holds w) (hp0:p = .pointer none ∨ p = .pointer (some ⟨b,0,none⟩)) (hl:l.length + s.length ≤ 140737488355328):Ret prog 95 #[.pointer (some ⟨b,0,none⟩),str s] w (fun v w'=>∃ ao' cp',v = .tuple #[.int .i64 (s.length:Int),.nilIface] ∧ St w (BdR 92 5 b p ao cp l).foot [BdR 92 5 b (.pointer (some ⟨b,0,none⟩)) ao' cp' (l ++ s)] [] w'):=by
 refine zav (args:=[.pointer (some ⟨b,0,none⟩),str s]) func95 Z Z Z ?_
 have V:St w (BdR 92 5 b p ao cp l).foot [BdR 92 5 b p ao cp l] [] w:=St.enter1 hR (fun d hd=>by cases hd) (fun d hd=>by cases hd)
 replace V:St _ _ [_,_] _ _:=V.unpack
 refine SR<|AI Z<|Q<|zap (v:=.nilIface) Z<|NSR<|MP Z<|Q (zao (v1:=Pp _ _) zxz Z Z ((zln b _ p _ (V.hL _ Q0) hp0).mono fun v w hp=>?_))
 obtain ⟨rfl,hp⟩:=hp
 replace V:St _ _ (_ :: _) _ _:=V.call1 hp
 refine NSR<|MP Z<|MP Z<|Q<|zan Z<|Q<|zaa zid Z<|Q<|zae (v:=.slice _ _ _) zb9 Z Z (V.cellL Q0 Z)<|MS Z<|Q<|zmv V zb9 ty9 byteF5 .u1 Z Z O fun w aoN cpN V=>Q<|zan Z<|Q<|zaa zid Z<|Q (SO (v:=.slice _ _ _) V zb9 Z Z .u1 fun w V=>?_)
 refine NSR<|MS Z<|Q<|zbb (rest:=[]) ty9 Z<|AI Z<|Q<|zap (v:=.nilIface) Z<|G<|zaq func95 Z (TP (v:=.int .i64 _) Z) (TP (v:=.nilIface) Z) ?_
 replace V:=V.pick (.c .u1 (.k1 .nil))
 exact ⟨_,_,Z,BdR.app V⟩
theorem zkB (b:Nat) (p:Value) (ao:Option Addr) (cp:Nat) (l:Tx) (w:World) (hR:(BdR 92 5 b p ao cp l).holds w) (hp0:p = .pointer none ∨ p = .pointer (some ⟨b,0,none⟩)) (hl:l.length + 1 ≤ 140737488355328):Ret prog 96 #[.pointer (some ⟨b,0,none⟩),.int .u8 10] w (fun v w'=>∃ ao' cp',v = .nilIface ∧ St w (BdR 92 5 b p ao cp l).foot [BdR 92 5 b (.pointer (some ⟨b,0,none⟩)) ao' cp' (l ++ [10])] [] w'):=by
 refine zav (args:=[.pointer (some ⟨b,0,none⟩),.int .u8 10]) func96 Z Z Z ?_
 have V:St w (BdR 92 5 b p ao cp l).foot [BdR 92 5 b p ao cp l] [] w:=St.enter1 hR (fun d hd=>by cases hd) (fun d hd=>by cases hd)
 replace V:St _ _ [_,_] _ _:=V.unpack
 refine SR<|Q<|zap (v:=.nilIface) Z<|NSR<|MP Z<|Q (zao (v1:=Pp _ _) zxz Z Z ((zln b _ p _ (V.hL _ Q0) hp0).mono fun v w hp=>?_))
 obtain ⟨rfl,hp⟩:=hp
 replace V:St _ _ (_ :: _) _ _:=V.call1 hp
 refine NSR<|MP Z<|MP Z<|Q<|zan Z<|Q<|zaa zid Z<|Q<|zae (v:=.slice _ _ _) zb9 Z Z (V.cellL Q0 Z)<|MC Z<|Q (zaI (z0:=[.int .u8 0]) V zb9 ty5 Z Z Kr (.c (v:=.int .u8 _) Z (h:=.nil)) fun w b13 V=>?_)
 refine Q (zaP (news:=[.int .u8 10]) V zb9 ty5 Z Z .u2 Z Z Z (zac (n:=1) (V.objL Q0) _ Z) Z Z O fun w ao1 cp2 V=>?_)
 replace V:=V.drop .u1
 refine Q<|zan Z<|Q<|zaa zid Z<|Q (SO (v:=.slice _ _ _) V zb9 Z Z .u1 fun w V=>?_)
 refine NSR<|Q<|zap (v:=.nilIface) Z<|G<|zai func96 Z (TP (v:=.nilIface) Z) ?_
 replace V:=V.pick (.c .u1 (.k1 .nil))
 exact ⟨_,_,Z,BdR.app V⟩
theorem zpu (b:Nat) (p:Value) (ao:Option Addr) (cp:Nat) (l:Tx) (w:World) (hR:(BdR 92 5 b p ao cp l).holds w) (hl0:l ≠ []):Ret prog 51 #[.pointer (some ⟨b,0,none⟩)] w (fun v w'=>v = str l ∧ St w (BdR 92 5 b p ao cp l).foot [] [] w'):=by
 refine zav (args:=[.pointer (some ⟨b,0,none⟩)]) func51 Z Z Z ?_
 have V:St w (BdR 92 5 b p ao cp l).foot [BdR 92 5 b p ao cp l] [] w:=St.enter1 hR (fun d hd=>by cases hd) (fun d hd=>by cases hd)
 replace V:St _ _ [_,_] _ _:=V.unpack
 have hlp:0 < l.length:=List.length_pos_iff.2 hl0
 have hcap:l.length ≤ cp:=Res.sl_cap (V.hL _ Q1)
 obtain ⟨gB,rfl⟩:=Res.sl_some (V.hL _ Q1) hlp
 refine SR<|AS Z<|G<|SQ<|zaC [] V (bs:=[0,1,3,7,15,0,32,96,224,480,1023,2047]) (ds:=[some 3,some 4,some 5,some 6,some 7,some 8,some 9,some 10,some 11,some 12,some 13,some 2]) ⟨Kr,Kr,Kr⟩ (fun tab1=>?_)
 refine DO tab1 1 (fun _ _ _ hc=>zad (v:=Pp _ _) (hc.old Z Z Z) hc.z)<|DO tab1 2 (fun _ _ _ hc=>zan (hc.d 0 Z Z Z Z) hc.z)<|DO tab1 3 (fun _ _ _ hc=>zaa zid (hc.d 1 Z Z Z Z) hc.z)<|DO tab1 4 (fun _ _ _ hc=>zae (v:=.slice (some ⟨gB,0,none⟩) l.length cp) zb9 Z (hc.d 2 Z Z Z Z) (hc.st.cellL (Ar Q0) Z) hc.z)<|DO tab1 5 (fun _ _ _ hc=>zkF (a:=⟨gB,0,none⟩) (n:=l.length) (c:=cp) (hc.d 3 Z Z Z Z) O hc.z)<|DO tab1 6 (fun _ _ _ hc=>zad (v:=Pp _ _) (hc.old Z Z Z) hc.z)<|DO tab1 7 (fun _ _ _ hc=>zan (hc.d 5 Z Z Z Z) hc.z)<|DO tab1 8 (fun _ _ _ hc=>zaa zid (hc.d 6 Z Z Z Z) hc.z)<|DO tab1 9 (fun _ _ _ hc=>zae (v:=.slice (some ⟨gB,0,none⟩) l.length cp) zb9 Z (hc.d 7 Z Z Z Z) (hc.st.cellL (Ar Q0) Z) hc.z)<|DO tab1 10 (fun _ _ _ hc=>zaH (rest:=[]) zb9 (hc.d 8 Z Z Z Z) hc.z)<|RunD.fin zaw tab1 V Z (fun f2 w R5 hs3 hd4 hr6 V=>?_)
 obtain ⟨h3_,r0⟩:=hd4 0 3 rfl rfl
 obtain ⟨h4_,r1⟩:=hd4 1 4 rfl rfl
 obtain ⟨h5_,r2⟩:=hd4 2 5 rfl rfl
 obtain ⟨h6_,r3⟩:=hd4 3 6 rfl rfl
 obtain ⟨h7_,r4⟩:=hd4 4 7 rfl rfl
 obtain ⟨h8_,r5⟩:=hd4 5 8 rfl rfl
 obtain ⟨h9_,r6⟩:=hd4 6 9 rfl rfl
 obtain ⟨h10_,r7⟩:=hd4 7 10 rfl rfl
 obtain ⟨h11_,r8⟩:=hd4 8 11 rfl rfl
 obtain ⟨h12_,r9⟩:=hd4 9 12 rfl rfl
 simp only [rg10,Fc,Fn,Mc,Mn,r0,r1,r2,r3,r4,r5,r6,r7,r8,r9,Na,An,Ca] at V
 refine zaz (sl:=[(7,Pp _ _),(12,.int .i64 _)]) ⟨h7_,h12_,trivial⟩ ?_
 clear hs3 hd4 hr6 tab1
 refine Q<|zms (l:=l) V .u1 Z Z ty169 Kr hl0 Z Z Z fun w V=>AS Z<|G<|zai func51 Z (TP (v:=str _) Z) ?_
 replace V:=V.pick .nil
 exact ⟨Z,V⟩
end Go.SK
namespace Go.SK
open Go Go.Proofs Go.Proofs.Tryz
theorem ent178:zaG prog 178:=⟨f178,_,func178,Kr,rfl⟩
theorem ent179:zaG prog 179:=⟨f179,_,func179,Kr,rfl⟩
theorem ent180:zaG prog 180:=⟨f180,_,func180,Kr,rfl⟩
theorem zgy:TyF prog 211 (.array 6 9) 6 96 [str [],str [],str [],str [],str [],str []]:=zbp Kr Kr
theorem ty21:TyF prog 21 (.int .i32) 1 4 [.int .i32 0]:=zbp Kr Kr
open Go.RowKit
theorem zsl (op:Int) (w:World):Ret prog 178 #[.int .u16 op] w (fun v w'=>v = str (zkx zt1 op) ∧ St w NoM [] [] w'):=by
 refine zav (args:=[.int .u16 op]) func178 Z Z Z ?_
 have V:=St.init w
 refine SR<|AS Z<|G<|SQ<|SR<|MH Z<|G<|zak<|SR<|Q<|zam Z Z<|AB Z<|G ?_
 refine zab Z (fun g1=>?_) (fun g1=>?_)
 ·refine SR <| AS Z <| G <| zai func178 Z (TP (v := str _) Z) ?_
  subst g1
  exact ⟨congrArg str (by decide +kernel),V.pure⟩
 refine SR<|Q<|zam Z Z<|AB Z<|G<|zab Z (fun g2=>?_) (fun g2=>?_)
 ·refine SR <| AS Z <| G <| zai func178 Z (TP (v := str _) Z) ?_
  subst g2
  exact ⟨congrArg str (by decide +kernel),V.pure⟩
 refine SR<|Q<|zam Z Z<|AB Z<|G<|zab Z (fun g3=>?_) (fun g3=>?_)
 ·refine SR <| AS Z <| G <| zai func178 Z (TP (v := str _) Z) ?_
  subst g3
  exact ⟨congrArg str (by decide +kernel),V.pure⟩
 refine SR<|Q<|zam Z Z<|AB Z<|G<|zab Z (fun g4=>?_) (fun g4=>?_)
 ·refine SR <| AS Z <| G <| zai func178 Z (TP (v := str _) Z) ?_
  subst g4
  exact ⟨congrArg str (by decide +kernel),V.pure⟩
 refine SR<|Q<|zam Z Z<|AB Z<|G<|zab Z (fun g5=>?_) (fun g5=>?_)
 ·refine SR <| AS Z <| G <| zai func178 Z (TP (v := str _) Z) ?_
  subst g5
  exact ⟨congrArg str (by decide +kernel),V.pure⟩
 refine SR<|Q<|zam Z Z<|AB Z<|G<|zab Z (fun g6=>?_) (fun g6=>?_)
 ·refine SR <| AS Z <| G <| zai func178 Z (TP (v := str _) Z) ?_
  subst g6
  exact ⟨congrArg str (by decide +kernel),V.pure⟩
 refine SR<|Q<|zam Z Z<|AB Z<|G<|zab Z (fun g7=>?_) (fun g7=>?_)
 ·refine SR <| AS Z <| G <| zai func178 Z (TP (v := str _) Z) ?_
  subst g7
  exact ⟨congrArg str (by decide +kernel),V.pure⟩
 refine SR<|Q<|zam Z Z<|AB Z<|G<|zab Z (fun g8=>?_) (fun g8=>?_)
 ·refine SR <| AS Z <| G <| zai func178 Z (TP (v := str _) Z) ?_
  subst g8
  exact ⟨congrArg str (by decide +kernel),V.pure⟩
 refine SR<|Q<|zam Z Z<|AB Z<|G<|zaj [(3,.int .u16 _),(20,.bool _)] E2 fun f=>zab Z (fun g9=>?_) (fun g9=>?_)
 ·refine SR <| AS Z <| G <| zai func178 Z (TP (v := str _) Z) ?_
  subst g9
  exact ⟨congrArg str (by decide +kernel),V.pure⟩
 refine SR<|Q<|zam Z Z<|AB Z<|G<|zab Z (fun g10=>?_) (fun g10=>?_)
 ·refine SR <| AS Z <| G <| zai func178 Z (TP (v := str _) Z) ?_
  subst g10
  exact ⟨congrArg str (by decide +kernel),V.pure⟩
 refine SR<|Q<|zam Z Z<|AB Z<|G<|zab Z (fun g11=>?_) (fun g11=>?_)
 ·refine SR <| AS Z <| G <| zai func178 Z (TP (v := str _) Z) ?_
  subst g11
  exact ⟨congrArg str (by decide +kernel),V.pure⟩
 refine SR<|Q<|zam Z Z<|AB Z<|G<|zab Z (fun g12=>?_) (fun g12=>?_)
 ·refine SR <| AS Z <| G <| zai func178 Z (TP (v := str _) Z) ?_
  subst g12
  exact ⟨congrArg str (by decide +kernel),V.pure⟩
 refine SR<|Q<|zam Z Z<|AB Z<|G<|zab Z (fun g13=>?_) (fun g13=>?_)
 ·refine SR <| AS Z <| G <| zai func178 Z (TP (v := str _) Z) ?_
  subst g13
  exact ⟨congrArg str (by decide +kernel),V.pure⟩
 refine SR<|Q<|zam Z Z<|AB Z<|G<|zab Z (fun g14=>?_) (fun g14=>?_)
 ·refine SR <| AS Z <| G <| zai func178 Z (TP (v := str _) Z) ?_
  subst g14
  exact ⟨congrArg str (by decide +kernel),V.pure⟩
 refine SR<|Q<|zam Z Z<|AB Z<|G<|zab Z (fun g15=>?_) (fun g15=>?_)
 ·refine SR <| AS Z <| G <| zai func178 Z (TP (v := str _) Z) ?_
  subst g15
  exact ⟨congrArg str (by decide +kernel),V.pure⟩
 refine SR<|Q<|zam Z Z<|AB Z<|G<|zab Z (fun g16=>?_) (fun g16=>?_)
 ·refine SR <| AS Z <| G <| zai func178 Z (TP (v := str _) Z) ?_
  subst g16
  exact ⟨congrArg str (by decide +kernel),V.pure⟩
 refine SR<|Q<|zam Z Z<|AB Z<|G<|zab Z (fun g17=>?_) (fun g17=>?_)
 ·refine SR <| AS Z <| G <| zai func178 Z (TP (v := str _) Z) ?_
  subst g17
  exact ⟨congrArg str (by decide +kernel),V.pure⟩
 refine SR<|Q<|zam Z Z<|AB Z<|G<|zab Z (fun g18=>?_) (fun g18=>?_)
 ·refine SR <| AS Z <| G <| zai func178 Z (TP (v := str _) Z) ?_
  subst g18
  exact ⟨congrArg str (by decide +kernel),V.pure⟩
 refine SR<|Q<|zam Z Z<|AB Z<|G<|zaj [(3,.int .u16 _),(40,.bool _)] E2 fun f=>zab Z (fun g19=>?_) (fun g19=>?_)
 ·refine SR <| AS Z <| G <| zai func178 Z (TP (v := str _) Z) ?_
  subst g19
  exact ⟨congrArg str (by decide +kernel),V.pure⟩
 refine SR<|Q<|zam Z Z<|AB Z<|G<|zab Z (fun g20=>?_) (fun g20=>?_)
 ·refine SR <| AS Z <| G <| zai func178 Z (TP (v := str _) Z) ?_
  subst g20
  exact ⟨congrArg str (by decide +kernel),V.pure⟩
 refine SR<|Q<|zam Z Z<|AB Z<|G<|zab Z (fun g21=>?_) (fun g21=>?_)
 ·refine SR <| AS Z <| G <| zai func178 Z (TP (v := str _) Z) ?_
  subst g21
  exact ⟨congrArg str (by decide +kernel),V.pure⟩
 refine SR<|Q<|zam Z Z<|AB Z<|G<|zab Z (fun g22=>?_) (fun g22=>?_)
 ·refine SR <| AS Z <| G <| zai func178 Z (TP (v := str _) Z) ?_
  subst g22
  exact ⟨congrArg str (by decide +kernel),V.pure⟩
 refine SR<|Q<|zam Z Z<|AB Z<|G<|zab Z (fun g23=>?_) (fun g23=>?_)
 ·refine SR <| AS Z <| G <| zai func178 Z (TP (v := str _) Z) ?_
  subst g23
  exact ⟨congrArg str (by decide +kernel),V.pure⟩
 refine SR<|Q<|zam Z Z<|AB Z<|G<|zab Z (fun g24=>?_) (fun g24=>?_)
 ·refine SR <| AS Z <| G <| zai func178 Z (TP (v := str _) Z) ?_
  subst g24
  exact ⟨congrArg str (by decide +kernel),V.pure⟩
 refine SR<|Q<|zam Z Z<|AB Z<|G<|zab Z (fun g25=>?_) (fun g25=>?_)
 ·refine SR <| AS Z <| G <| zai func178 Z (TP (v := str _) Z) ?_
  subst g25
  exact ⟨congrArg str (by decide +kernel),V.pure⟩
 refine SR<|Q<|zam Z Z<|AB Z<|G<|zab Z (fun g26=>?_) (fun g26=>?_)
 ·refine SR <| AS Z <| G <| zai func178 Z (TP (v := str _) Z) ?_
  subst g26
  exact ⟨congrArg str (by decide +kernel),V.pure⟩
 refine SR<|Q<|zam Z Z<|AB Z<|G<|zab Z (fun g27=>?_) (fun g27=>?_)
 ·refine SR <| AS Z <| G <| zai func178 Z (TP (v := str _) Z) ?_
  subst g27
  exact ⟨congrArg str (by decide +kernel),V.pure⟩
 refine SR<|Q<|zam Z Z<|AB Z<|G<|zab Z (fun g28=>?_) (fun g28=>?_)
 ·refine SR <| AS Z <| G <| zai func178 Z (TP (v := str _) Z) ?_
  subst g28
  exact ⟨congrArg str (by decide +kernel),V.pure⟩
 refine SR<|Q<|zam Z Z<|AB Z<|G<|zaj [(3,.int .u16 _),(60,.bool _)] E2 fun f=>zab Z (fun g29=>?_) (fun g29=>?_)
 ·refine SR <| AS Z <| G <| zai func178 Z (TP (v := str _) Z) ?_
  subst g29
  exact ⟨congrArg str (by decide +kernel),V.pure⟩
 refine SR<|Q<|zam Z Z<|AB Z<|G<|zab Z (fun g30=>?_) (fun g30=>?_)
 ·refine SR <| AS Z <| G <| zai func178 Z (TP (v := str _) Z) ?_
  subst g30
  exact ⟨congrArg str (by decide +kernel),V.pure⟩
 refine SR<|Q<|zam Z Z<|AB Z<|G<|zab Z (fun g31=>?_) (fun g31=>?_)
 ·refine SR <| AS Z <| G <| zai func178 Z (TP (v := str _) Z) ?_
  subst g31
  exact ⟨congrArg str (by decide +kernel),V.pure⟩
 refine zag<|zah<|SR<|AS Z<|G<|zai func178 Z (TP (v:=str _) Z) ?_
 exact ⟨congrArg str (zeU (by simp only [zt1,List.forall_mem_cons]; exact ⟨g1,g2,g3,g4,g5,g6,g7,g8,g9,g10,g11,g12,g13,g14,g15,g16,g17,g18,g19,g20,g21,g22,g23,g24,g25,g26,g27,g28,g29,g30,g31,fun _ h=>absurd h List.not_mem_nil⟩)).symm,V.pure⟩
theorem zpz (op:Int) (w:World):Ret prog 179 #[.int .u16 op] w (fun v w'=>v = str (zkx zoQ op) ∧ St w NoM [] [] w'):=by
 refine zav (args:=[.int .u16 op]) func179 Z Z Z ?_
 have V:=St.init w
 refine SR<|AS Z<|G<|SQ<|SR<|MH Z<|G<|zak<|SR<|Q<|zam Z Z<|AB Z<|G ?_
 refine zab Z (fun g1=>?_) (fun g1=>?_)
 ·refine SR <| AS Z <| G <| zai func179 Z (TP (v := str _) Z) ?_
  subst g1
  exact ⟨congrArg str (by decide +kernel),V.pure⟩
 refine SR<|Q<|zam Z Z<|AB Z<|G<|zab Z (fun g2=>?_) (fun g2=>?_)
 ·refine SR <| AS Z <| G <| zai func179 Z (TP (v := str _) Z) ?_
  subst g2
  exact ⟨congrArg str (by decide +kernel),V.pure⟩
 refine SR<|Q<|zam Z Z<|AB Z<|G<|zab Z (fun g3=>?_) (fun g3=>?_)
 ·refine SR <| AS Z <| G <| zai func179 Z (TP (v := str _) Z) ?_
  subst g3
  exact ⟨congrArg str (by decide +kernel),V.pure⟩
 refine SR<|Q<|zam Z Z<|AB Z<|G<|zab Z (fun g4=>?_) (fun g4=>?_)
 ·refine SR <| AS Z <| G <| zai func179 Z (TP (v := str _) Z) ?_
  subst g4
  exact ⟨congrArg str (by decide +kernel),V.pure⟩
 refine SR<|Q<|zam Z Z<|AB Z<|G<|zab Z (fun g5=>?_) (fun g5=>?_)
 ·refine SR <| AS Z <| G <| zai func179 Z (TP (v := str _) Z) ?_
  subst g5
  exact ⟨congrArg str (by decide +kernel),V.pure⟩
 refine SR<|Q<|zam Z Z<|AB Z<|G<|zab Z (fun g6=>?_) (fun g6=>?_)
 ·refine SR <| AS Z <| G <| zai func179 Z (TP (v := str _) Z) ?_
  subst g6
  exact ⟨congrArg str (by decide +kernel),V.pure⟩
 refine SR<|Q<|zam Z Z<|AB Z<|G<|zab Z (fun g7=>?_) (fun g7=>?_)
 ·refine SR <| AS Z <| G <| zai func179 Z (TP (v := str _) Z) ?_
  subst g7
  exact ⟨congrArg str (by decide +kernel),V.pure⟩
 refine SR<|Q<|zam Z Z<|AB Z<|G<|zab Z (fun g8=>?_) (fun g8=>?_)
 ·refine SR <| AS Z <| G <| zai func179 Z (TP (v := str _) Z) ?_
  subst g8
  exact ⟨congrArg str (by decide +kernel),V.pure⟩
 refine SR<|Q<|zam Z Z<|AB Z<|G<|zaj [(3,.int .u16 _),(20,.bool _)] E2 fun f=>zab Z (fun g9=>?_) (fun g9=>?_)
 ·refine SR <| AS Z <| G <| zai func179 Z (TP (v := str _) Z) ?_
  subst g9
  exact ⟨congrArg str (by decide +kernel),V.pure⟩
 refine SR<|Q<|zam Z Z<|AB Z<|G<|zab Z (fun g10=>?_) (fun g10=>?_)
 ·refine SR <| AS Z <| G <| zai func179 Z (TP (v := str _) Z) ?_
  subst g10
  exact ⟨congrArg str (by decide +kernel),V.pure⟩
 refine SR<|Q<|zam Z Z<|AB Z<|G<|zab Z (fun g11=>?_) (fun g11=>?_)
 ·refine SR <| AS Z <| G <| zai func179 Z (TP (v := str _) Z) ?_
  subst g11
  exact ⟨congrArg str (by decide +kernel),V.pure⟩
 refine SR<|Q<|zam Z Z<|AB Z<|G<|zab Z (fun g12=>?_) (fun g12=>?_)
 ·refine SR <| AS Z <| G <| zai func179 Z (TP (v := str _) Z) ?_
  subst g12
  exact ⟨congrArg str (by decide +kernel),V.pure⟩
 refine SR<|Q<|zam Z Z<|AB Z<|G<|zab Z (fun g13=>?_) (fun g13=>?_)
 ·refine SR <| AS Z <| G <| zai func179 Z (TP (v := str _) Z) ?_
  subst g13
  exact ⟨congrArg str (by decide +kernel),V.pure⟩
 refine SR<|Q<|zam Z Z<|AB Z<|G<|zab Z (fun g14=>?_) (fun g14=>?_)
 ·refine SR <| AS Z <| G <| zai func179 Z (TP (v := str _) Z) ?_
  subst g14
  exact ⟨congrArg str (by decide +kernel),V.pure⟩
 refine SR<|Q<|zam Z Z<|AB Z<|G<|zab Z (fun g15=>?_) (fun g15=>?_)
 ·refine SR <| AS Z <| G <| zai func179 Z (TP (v := str _) Z) ?_
  subst g15
  exact ⟨congrArg str (by decide +kernel),V.pure⟩
 refine SR<|Q<|zam Z Z<|AB Z<|G<|zab Z (fun g16=>?_) (fun g16=>?_)
 ·refine SR <| AS Z <| G <| zai func179 Z (TP (v := str _) Z) ?_
  subst g16
  exact ⟨congrArg str (by decide +kernel),V.pure⟩
 refine SR<|Q<|zam Z Z<|AB Z<|G<|zab Z (fun g17=>?_) (fun g17=>?_)
 ·refine SR <| AS Z <| G <| zai func179 Z (TP (v := str _) Z) ?_
  subst g17
  exact ⟨congrArg str (by decide +kernel),V.pure⟩
 refine SR<|Q<|zam Z Z<|AB Z<|G<|zab Z (fun g18=>?_) (fun g18=>?_)
 ·refine SR <| AS Z <| G <| zai func179 Z (TP (v := str _) Z) ?_
  subst g18
  exact ⟨congrArg str (by decide +kernel),V.pure⟩
 refine SR<|Q<|zam Z Z<|AB Z<|G<|zaj [(3,.int .u16 _),(40,.bool _)] E2 fun f=>zab Z (fun g19=>?_) (fun g19=>?_)
 ·refine SR <| AS Z <| G <| zai func179 Z (TP (v := str _) Z) ?_
  subst g19
  exact ⟨congrArg str (by decide +kernel),V.pure⟩
 refine SR<|Q<|zam Z Z<|AB Z<|G<|zab Z (fun g20=>?_) (fun g20=>?_)
 ·refine SR <| AS Z <| G <| zai func179 Z (TP (v := str _) Z) ?_
  subst g20
  exact ⟨congrArg str (by decide +kernel),V.pure⟩
 refine SR<|Q<|zam Z Z<|AB Z<|G<|zab Z (fun g21=>?_) (fun g21=>?_)
 ·refine SR <| AS Z <| G <| zai func179 Z (TP (v := str _) Z) ?_
  subst g21
  exact ⟨congrArg str (by decide +kernel),V.pure⟩
 refine SR<|Q<|zam Z Z<|AB Z<|G<|zab Z (fun g22=>?_) (fun g22=>?_)
 ·refine SR <| AS Z <| G <| zai func179 Z (TP (v := str _) Z) ?_
  subst g22
  exact ⟨congrArg str (by decide +kernel),V.pure⟩
 refine SR<|Q<|zam Z Z<|AB Z<|G<|zab Z (fun g23=>?_) (fun g23=>?_)
 ·refine SR <| AS Z <| G <| zai func179 Z (TP (v := str _) Z) ?_
  subst g23
  exact ⟨congrArg str (by decide +kernel),V.pure⟩
 refine SR<|Q<|zam Z Z<|AB Z<|G<|zab Z (fun g24=>?_) (fun g24=>?_)
 ·refine SR <| AS Z <| G <| zai func179 Z (TP (v := str _) Z) ?_
  subst g24
  exact ⟨congrArg str (by decide +kernel),V.pure⟩
 refine SR<|Q<|zam Z Z<|AB Z<|G<|zab Z (fun g25=>?_) (fun g25=>?_)
 ·refine SR <| AS Z <| G <| zai func179 Z (TP (v := str _) Z) ?_
  subst g25
  exact ⟨congrArg str (by decide +kernel),V.pure⟩
 refine SR<|Q<|zam Z Z<|AB Z<|G<|zab Z (fun g26=>?_) (fun g26=>?_)
 ·refine SR <| AS Z <| G <| zai func179 Z (TP (v := str _) Z) ?_
  subst g26
  exact ⟨congrArg str (by decide +kernel),V.pure⟩
 refine SR<|Q<|zam Z Z<|AB Z<|G<|zab Z (fun g27=>?_) (fun g27=>?_)
 ·refine SR <| AS Z <| G <| zai func179 Z (TP (v := str _) Z) ?_
  subst g27
  exact ⟨congrArg str (by decide +kernel),V.pure⟩
 refine SR<|Q<|zam Z Z<|AB Z<|G<|zab Z (fun g28=>?_) (fun g28=>?_)
 ·refine SR <| AS Z <| G <| zai func179 Z (TP (v := str _) Z) ?_
  subst g28
  exact ⟨congrArg str (by decide +kernel),V.pure⟩
 refine SR<|Q<|zam Z Z<|AB Z<|G<|zaj [(3,.int .u16 _),(60,.bool _)] E2 fun f=>zab Z (fun g29=>?_) (fun g29=>?_)
 ·refine SR <| AS Z <| G <| zai func179 Z (TP (v := str _) Z) ?_
  subst g29
  exact ⟨congrArg str (by decide +kernel),V.pure⟩
 refine SR<|Q<|zam Z Z<|AB Z<|G<|zab Z (fun g30=>?_) (fun g30=>?_)
 ·refine SR <| AS Z <| G <| zai func179 Z (TP (v := str _) Z) ?_
  subst g30
  exact ⟨congrArg str (by decide +kernel),V.pure⟩
 refine SR<|Q<|zam Z Z<|AB Z<|G<|zab Z (fun g31=>?_) (fun g31=>?_)
 ·refine SR <| AS Z <| G <| zai func179 Z (TP (v := str _) Z) ?_
  subst g31
  exact ⟨congrArg str (by decide +kernel),V.pure⟩
 refine zag<|zah<|SR<|AS Z<|G<|zai func179 Z (TP (v:=str _) Z) ?_
 exact ⟨congrArg str (zeU (by simp only [zoQ,List.forall_mem_cons]; exact ⟨g1,g2,g3,g4,g5,g6,g7,g8,g9,g10,g11,g12,g13,g14,g15,g16,g17,g18,g19,g20,g21,g22,g23,g24,g25,g26,g27,g28,g29,g30,g31,fun _ h=>absurd h List.not_mem_nil⟩)).symm,V.pure⟩
theorem zsj (op:Int) (w:World):Ret prog 180 #[.int .u16 op] w (fun v w'=>v = str (zkx thirdT op) ∧ St w NoM [] [] w'):=by
 refine zav (args:=[.int .u16 op]) func180 Z Z Z ?_
 have V:=St.init w
 refine SR<|AS Z<|G<|SQ<|SR<|MH Z<|G<|zak<|SR<|Q<|zam Z Z<|AB Z<|G ?_
 refine zab Z (fun g1=>?_) (fun g1=>?_)
 ·refine SR <| AS Z <| G <| zai func180 Z (TP (v := str _) Z) ?_
  subst g1
  exact ⟨congrArg str (by decide +kernel),V.pure⟩
 refine SR<|Q<|zam Z Z<|AB Z<|G<|zab Z (fun g2=>?_) (fun g2=>?_)
 ·refine SR <| AS Z <| G <| zai func180 Z (TP (v := str _) Z) ?_
  subst g2
  exact ⟨congrArg str (by decide +kernel),V.pure⟩
 refine SR<|Q<|zam Z Z<|AB Z<|G<|zab Z (fun g3=>?_) (fun g3=>?_)
 ·refine SR <| AS Z <| G <| zai func180 Z (TP (v := str _) Z) ?_
  subst g3
  exact ⟨congrArg str (by decide +kernel),V.pure⟩
 refine SR<|Q<|zam Z Z<|AB Z<|G<|zab Z (fun g4=>?_) (fun g4=>?_)
 ·refine SR <| AS Z <| G <| zai func180 Z (TP (v := str _) Z) ?_
  subst g4
  exact ⟨congrArg str (by decide +kernel),V.pure⟩
 refine SR<|Q<|zam Z Z<|AB Z<|G<|zab Z (fun g5=>?_) (fun g5=>?_)
 ·refine SR <| AS Z <| G <| zai func180 Z (TP (v := str _) Z) ?_
  subst g5
  exact ⟨congrArg str (by decide +kernel),V.pure⟩
 refine SR<|Q<|zam Z Z<|AB Z<|G<|zab Z (fun g6=>?_) (fun g6=>?_)
 ·refine SR <| AS Z <| G <| zai func180 Z (TP (v := str _) Z) ?_
  subst g6
  exact ⟨congrArg str (by decide +kernel),V.pure⟩
 refine SR<|Q<|zam Z Z<|AB Z<|G<|zab Z (fun g7=>?_) (fun g7=>?_)
 ·refine SR <| AS Z <| G <| zai func180 Z (TP (v := str _) Z) ?_
  subst g7
  exact ⟨congrArg str (by decide +kernel),V.pure⟩
 refine SR<|Q<|zam Z Z<|AB Z<|G<|zab Z (fun g8=>?_) (fun g8=>?_)
 ·refine SR <| AS Z <| G <| zai func180 Z (TP (v := str _) Z) ?_
  subst g8
  exact ⟨congrArg str (by decide +kernel),V.pure⟩
 refine SR<|Q<|zam Z Z<|AB Z<|G<|zaj [(3,.int .u16 _),(20,.bool _)] E2 fun f=>zab Z (fun g9=>?_) (fun g9=>?_)
 ·refine SR <| AS Z <| G <| zai func180 Z (TP (v := str _) Z) ?_
  subst g9
  exact ⟨congrArg str (by decide +kernel),V.pure⟩
 refine SR<|Q<|zam Z Z<|AB Z<|G<|zab Z (fun g10=>?_) (fun g10=>?_)
 ·refine SR <| AS Z <| G <| zai func180 Z (TP (v := str _) Z) ?_
  subst g10
  exact ⟨congrArg str (by decide +kernel),V.pure⟩
 refine SR<|Q<|zam Z Z<|AB Z<|G<|zab Z (fun g11=>?_) (fun g11=>?_)
 ·refine SR <| AS Z <| G <| zai func180 Z (TP (v := str _) Z) ?_
  subst g11
  exact ⟨congrArg str (by decide +kernel),V.pure⟩
 refine SR<|Q<|zam Z Z<|AB Z<|G<|zab Z (fun g12=>?_) (fun g12=>?_)
 ·refine SR <| AS Z <| G <| zai func180 Z (TP (v := str _) Z) ?_
  subst g12
  exact ⟨congrArg str (by decide +kernel),V.pure⟩
 refine SR<|Q<|zam Z Z<|AB Z<|G<|zab Z (fun g13=>?_) (fun g13=>?_)
 ·refine SR <| AS Z <| G <| zai func180 Z (TP (v := str _) Z) ?_
  subst g13
  exact ⟨congrArg str (by decide +kernel),V.pure⟩
 refine SR<|Q<|zam Z Z<|AB Z<|G<|zab Z (fun g14=>?_) (fun g14=>?_)
 ·refine SR <| AS Z <| G <| zai func180 Z (TP (v := str _) Z) ?_
  subst g14
  exact ⟨congrArg str (by decide +kernel),V.pure⟩
 refine SR<|Q<|zam Z Z<|AB Z<|G<|zab Z (fun g15=>?_) (fun g15=>?_)
 ·refine SR <| AS Z <| G <| zai func180 Z (TP (v := str _) Z) ?_
  subst g15
  exact ⟨congrArg str (by decide +kernel),V.pure⟩
 refine SR<|Q<|zam Z Z<|AB Z<|G<|zab Z (fun g16=>?_) (fun g16=>?_)
 ·refine SR <| AS Z <| G <| zai func180 Z (TP (v := str _) Z) ?_
  subst g16
  exact ⟨congrArg str (by decide +kernel),V.pure⟩
 refine SR<|Q<|zam Z Z<|AB Z<|G<|zab Z (fun g17=>?_) (fun g17=>?_)
 ·refine SR <| AS Z <| G <| zai func180 Z (TP (v := str _) Z) ?_
  subst g17
  exact ⟨congrArg str (by decide +kernel),V.pure⟩
 refine SR<|Q<|zam Z Z<|AB Z<|G<|zab Z (fun g18=>?_) (fun g18=>?_)
 ·refine SR <| AS Z <| G <| zai func180 Z (TP (v := str _) Z) ?_
  subst g18
  exact ⟨congrArg str (by decide +kernel),V.pure⟩
 refine SR<|Q<|zam Z Z<|AB Z<|G<|zaj [(3,.int .u16 _),(40,.bool _)] E2 fun f=>zab Z (fun g19=>?_) (fun g19=>?_)
 ·refine SR <| AS Z <| G <| zai func180 Z (TP (v := str _) Z) ?_
  subst g19
  exact ⟨congrArg str (by decide +kernel),V.pure⟩
 refine SR<|Q<|zam Z Z<|AB Z<|G<|zab Z (fun g20=>?_) (fun g20=>?_)
 ·refine SR <| AS Z <| G <| zai func180 Z (TP (v := str _) Z) ?_
  subst g20
  exact ⟨congrArg str (by decide +kernel),V.pure⟩
 refine SR<|Q<|zam Z Z<|AB Z<|G<|zab Z (fun g21=>?_) (fun g21=>?_)
 ·refine SR <| AS Z <| G <| zai func180 Z (TP (v := str _) Z) ?_
  subst g21
  exact ⟨congrArg str (by decide +kernel),V.pure⟩
 refine SR<|Q<|zam Z Z<|AB Z<|G<|zab Z (fun g22=>?_) (fun g22=>?_)
 ·refine SR <| AS Z <| G <| zai func180 Z (TP (v := str _) Z) ?_
  subst g22
  exact ⟨congrArg str (by decide +kernel),V.pure⟩
 refine SR<|Q<|zam Z Z<|AB Z<|G<|zab Z (fun g23=>?_) (fun g23=>?_)
 ·refine SR <| AS Z <| G <| zai func180 Z (TP (v := str _) Z) ?_
  subst g23
  exact ⟨congrArg str (by decide +kernel),V.pure⟩
 refine SR<|Q<|zam Z Z<|AB Z<|G<|zab Z (fun g24=>?_) (fun g24=>?_)
 ·refine SR <| AS Z <| G <| zai func180 Z (TP (v := str _) Z) ?_
  subst g24
  exact ⟨congrArg str (by decide +kernel),V.pure⟩
 refine SR<|Q<|zam Z Z<|AB Z<|G<|zab Z (fun g25=>?_) (fun g25=>?_)
 ·refine SR <| AS Z <| G <| zai func180 Z (TP (v := str _) Z) ?_
  subst g25
  exact ⟨congrArg str (by decide +kernel),V.pure⟩
 refine SR<|Q<|zam Z Z<|AB Z<|G<|zab Z (fun g26=>?_) (fun g26=>?_)
 ·refine SR <| AS Z <| G <| zai func180 Z (TP (v := str _) Z) ?_
  subst g26
  exact ⟨congrArg str (by decide +kernel),V.pure⟩
 refine SR<|Q<|zam Z Z<|AB Z<|G<|zab Z (fun g27=>?_) (fun g27=>?_)
 ·refine SR <| AS Z <| G <| zai func180 Z (TP (v := str _) Z) ?_
  subst g27
  exact ⟨congrArg str (by decide +kernel),V.pure⟩
 refine SR<|Q<|zam Z Z<|AB Z<|G<|zab Z (fun g28=>?_) (fun g28=>?_)
 ·refine SR <| AS Z <| G <| zai func180 Z (TP (v := str _) Z) ?_
  subst g28
  exact ⟨congrArg str (by decide +kernel),V.pure⟩
 refine SR<|Q<|zam Z Z<|AB Z<|G<|zaj [(3,.int .u16 _),(60,.bool _)] E2 fun f=>zab Z (fun g29=>?_) (fun g29=>?_)
 ·refine SR <| AS Z <| G <| zai func180 Z (TP (v := str _) Z) ?_
  subst g29
  exact ⟨congrArg str (by decide +kernel),V.pure⟩
 refine SR<|Q<|zam Z Z<|AB Z<|G<|zab Z (fun g30=>?_) (fun g30=>?_)
 ·refine SR <| AS Z <| G <| zai func180 Z (TP (v := str _) Z) ?_
  subst g30
  exact ⟨congrArg str (by decide +kernel),V.pure⟩
 refine SR<|Q<|zam Z Z<|AB Z<|G<|zab Z (fun g31=>?_) (fun g31=>?_)
 ·refine SR <| AS Z <| G <| zai func180 Z (TP (v := str _) Z) ?_
  subst g31
  exact ⟨congrArg str (by decide +kernel),V.pure⟩
 refine zag<|zah<|SR<|AS Z<|G<|zai func180 Z (TP (v:=str _) Z) ?_
 exact ⟨congrArg str (zeU (by simp only [thirdT,List.forall_mem_cons]; exact ⟨g1,g2,g3,g4,g5,g6,g7,g8,g9,g10,g11,g12,g13,g14,g15,g16,g17,g18,g19,g20,g21,g22,g23,g24,g25,g26,g27,g28,g29,g30,g31,fun _ h=>absurd h List.not_mem_nil⟩)).symm,V.pure⟩
theorem zw4 (op:Int) (w:World):Ret prog 134 #[.int .u16 op] w (fun v w'=>v = str (zlO op) ∧ St w NoM [] [] w'):=by
 refine zav (args:=[.int .u16 op]) func134 Z Z Z ?_
 have V:=St.init w
 refine SR<|AS Z<|G<|SQ<|zak<|SR<|MH Z<|Q<|zbU Z Z<|AB Z<|G<|zab Z (fun g1=>?_) (fun g1=>?_)
 ·refine SR <| MH Z <| Q <| zao (v1 := .int .u16 _) ent178 Z Z <| Ret.det (zsl _ _) V fun w V => AS Z <| G <| zai func134 Z (TP (v := str _) Z) <| ⟨congrArg str ?_, V.pure⟩
  unfold zlO
  rw [if_pos g1]
 refine SR<|MH Z<|Q<|zbU Z Z<|AB Z<|G<|zab Z (fun g2=>?_) (fun g2=>?_)
 ·refine SR <| MH Z <| Q <| zao (v1 := .int .u16 _) ent179 Z Z <| Ret.det (zpz _ _) V fun w V => AS Z <| G <| zai func134 Z (TP (v := str _) Z) <| ⟨congrArg str ?_, V.pure⟩
  unfold zlO
  rw [if_neg g1,if_pos g2]
 refine zag<|zah<|SR<|MH Z<|Q<|zao (v1:=.int .u16 _) ent180 Z Z<|Ret.det (zsj _ _) V fun w V=>AS Z<|G<|zai func134 Z (TP (v:=str _) Z)<|⟨congrArg str ?_,V.pure⟩
 unfold zlO
 rw [if_neg g1,if_neg g2]
theorem zlp (c:Int) (w:World):Ret prog 181 #[.int .u8 c] w (fun v w'=>v = str (zkx zeS c) ∧ St w NoM [] [] w'):=by
 refine zav (args:=[.int .u8 c]) func181 Z Z Z ?_
 have V:=St.init w
 refine SR<|AS Z<|G<|SQ<|SR<|MC Z<|G<|zak<|SR<|Q<|zam Z Z<|AB Z<|G ?_
 refine zab Z (fun g1=>?_) (fun g1=>?_)
 ·refine SR <| AS Z <| G <| zai func181 Z (TP (v := str _) Z) ?_
  subst g1
  exact ⟨congrArg str (by decide +kernel),V.pure⟩
 refine SR<|Q<|zam Z Z<|AB Z<|G<|zab Z (fun g2=>?_) (fun g2=>?_)
 ·refine SR <| AS Z <| G <| zai func181 Z (TP (v := str _) Z) ?_
  subst g2
  exact ⟨congrArg str (by decide +kernel),V.pure⟩
 refine SR<|Q<|zam Z Z<|AB Z<|G<|zab Z (fun g3=>?_) (fun g3=>?_)
 ·refine SR <| AS Z <| G <| zai func181 Z (TP (v := str _) Z) ?_
  subst g3
  exact ⟨congrArg str (by decide +kernel),V.pure⟩
 refine SR<|Q<|zam Z Z<|AB Z<|G<|zab Z (fun g4=>?_) (fun g4=>?_)
 ·refine SR <| AS Z <| G <| zai func181 Z (TP (v := str _) Z) ?_
  subst g4
  exact ⟨congrArg str (by decide +kernel),V.pure⟩
 refine SR<|Q<|zam Z Z<|AB Z<|G<|zab Z (fun g5=>?_) (fun g5=>?_)
 ·refine SR <| AS Z <| G <| zai func181 Z (TP (v := str _) Z) ?_
  subst g5
  exact ⟨congrArg str (by decide +kernel),V.pure⟩
 refine SR<|Q<|zam Z Z<|AB Z<|G<|zab Z (fun g6=>?_) (fun g6=>?_)
 ·refine SR <| AS Z <| G <| zai func181 Z (TP (v := str _) Z) ?_
  subst g6
  exact ⟨congrArg str (by decide +kernel),V.pure⟩
 refine SR<|Q<|zam Z Z<|AB Z<|G<|zab Z (fun g7=>?_) (fun g7=>?_)
 ·refine SR <| AS Z <| G <| zai func181 Z (TP (v := str _) Z) ?_
  subst g7
  exact ⟨congrArg str (by decide +kernel),V.pure⟩
 refine SR<|Q<|zam Z Z<|AB Z<|G<|zab Z (fun g8=>?_) (fun g8=>?_)
 ·refine SR <| AS Z <| G <| zai func181 Z (TP (v := str _) Z) ?_
  subst g8
  exact ⟨congrArg str (by decide +kernel),V.pure⟩
 refine SR<|Q<|zam Z Z<|AB Z<|G<|zaj [(3,.int .u8 _),(20,.bool _)] E2 fun f=>zab Z (fun g9=>?_) (fun g9=>?_)
 ·refine SR <| AS Z <| G <| zai func181 Z (TP (v := str _) Z) ?_
  subst g9
  exact ⟨congrArg str (by decide +kernel),V.pure⟩
 refine SR<|Q<|zam Z Z<|AB Z<|G<|zab Z (fun g10=>?_) (fun g10=>?_)
 ·refine SR <| AS Z <| G <| zai func181 Z (TP (v := str _) Z) ?_
  subst g10
  exact ⟨congrArg str (by decide +kernel),V.pure⟩
 refine SR<|Q<|zam Z Z<|AB Z<|G<|zab Z (fun g11=>?_) (fun g11=>?_)
 ·refine SR <| AS Z <| G <| zai func181 Z (TP (v := str _) Z) ?_
  subst g11
  exact ⟨congrArg str (by decide +kernel),V.pure⟩
 refine zag<|zah<|SR<|AS Z<|G<|zai func181 Z (TP (v:=str _) Z) ?_
 exact ⟨congrArg str (zeU (by simp only [zeS,List.forall_mem_cons]; exact ⟨g1,g2,g3,g4,g5,g6,g7,g8,g9,g10,g11,fun _ h=>absurd h List.not_mem_nil⟩)).symm,V.pure⟩
theorem zst {l:List zdN} {n:Nat} {a:Int} (ha:a = n) (hn:n < l.length):(l.map str)[0 + a.toNat * 1]? = some (str (l.getD n [])):=by
 subst ha; simp [List.getD,hn]
theorem zss {l:List zdN} {n:Nat} {c:UInt8} (hn:n < l.length):zb6 (l.map str) (0 + (n:Int).toNat * 1) [str (l.getD n [] ++ [UInt8.ofNat ((c.toNat:Int)).toNat])] = (l.modify n (· ++ [c])).map str:=by
 simp only [zb6,Int.toNat_natCast,Nat.mul_one,Nat.zero_add,UInt8.ofNat_toNat]
 apply List.ext_getElem
 ·simp
 ·intro j h1 h2
  simp only [List.length_map,List.length_modify] at h2
  by_cases hj:n = j
  ·subst hj; simp [List.getElem_modify,List.getD,hn]
  ·simp [List.getElem_modify,hj,List.getElem_set_ne hj]
theorem R7six {l:List zdN} (h:l.length = 6):∃ f0 f1 f2 f3 f4 f5,l = [f0,f1,f2,f3,f4,f5]:=by
 match l,h with
 | [f0,f1,f2,f3,f4,f5],_=>exact ⟨f0,f1,f2,f3,f4,f5,rfl⟩
theorem zpC (s f0 f1 f2 f3 f4 f5:zdN) (hok:ztj s = true) (hf:zdi s = [f0,f1,f2,f3,f4,f5]) (w:World):Ret prog 135 #[str s] w (fun v w'=>v = .agg #[str f0,str f1,str f2,str f3,str f4,str f5] ∧ St w NoM [] [] w'):=by
 refine zav (args:=[str s]) func135 Z Z Z ?_
 have V:=St.init w
 obtain ⟨hasc,h5,hlen,_,_⟩:=zkS hok
 refine SR<|Q<|zar V zgy fun w b2 V=>NSR<|Q<|zar V zgy fun w b3 V=>NSR<|AI Z<|G<|SQ<|SQ<|RG ?_
 refine MS Z<|Q<|zgx V ty9 Z fun w it8 V=>G<|zak<|zaY<|zaZ [(2,Pp _ _),(3,Pp _ _),(8,.pointer (some ⟨_,0,none⟩))] E3 (fun (i:Nat)=>[(4,.int .i64 ((zbH (s.take i)).1:Int))]) (fun (i:Nat)=>[Res.iter it8 s i,Res.row b3 211 ((zbH (s.take i)).2.map str)]) (fun (i:Nat)=>i ≤ s.length) (fun (i:Nat)=>s.length - i) (0) V (Nat.zero_le _) ⟨Z,trivial⟩ ?_
 intro i f w V hJ ih1
 refine SQ<|RG ?_
 rcases Nat.lt_or_ge i s.length with g2 | g2
 ·have hc := hasc _ (List.getElem_mem g2)
  have hstep:=ziq g2
  have hat:(zbH (s.take (i + 1))).1 ≤ 5:=Nat.le_trans zk7 h5
  have hat0:(zbH (s.take i)).1 ≤ 5:=Nat.le_trans zk7 h5
  have hsh:((zbH (s.take i)).2.getD (zbH (s.take i)).1 []).length ≤ i:=zrV (zhC s i hJ)
  refine Q (zhQ V Z .u0 (List.getElem?_eq_getElem g2) (hc) fun w V=>?_)
  refine Q<|Ex (.bool _) Z Z<|G<|SQ<|zas (Vb (Z:true = _))<|zag<|zak<|SR<|Q<|Ex (.int .i32 _) Z Z<|Q<|zap (v:=.int .i32 _) Z<|NSR<|Q<|zad (v:=.int .i32 _) Z<|Q (zam Z Z ?_)
  refine G<|zab Z (fun g3=>?_) (fun g3=>?_)
  ·refine RG <| MI Z <| Q <| zaA Z Z Z zbt <| AI Z <| G <| zah <| zaD ?_
   have hsp:zbH (s.take (i + 1)) = ((zbH (s.take i)).1 + 1,(zbH (s.take i)).2):=by rw [hstep]; unfold ziw; rw [if_pos (UInt8.toNat_inj.1 (by have:(32:UInt8).toNat = 32:=rfl; omega))]
   exact ih1 (i + 1) _ w (by omega) (by (try dsimp only); rw [hsp]; exact V) (by omega) E3 ⟨(Vi (by rw [hsp]; rfl)),trivial⟩
  refine RG<|MI rfl<|Q<|zb7 zgy ty9 rfl rfl (by omega) (by omega)<|Q<|zae (v:=str _) ty9 rfl rfl (V.cellL Q1 (zst rfl (by rw [zfj]; omega)))<|Q<|zad (v:=.int .i32 _) rfl<|Q<|zkh ty21 ty9 rfl (by omega) (by omega)<|Q<|zi7 rfl rfl (by first | omega | (simp only [List.length_cons,List.length_nil,List.length_append]; omega) | (simp; omega))<|Q<|zb7 zgy ty9 rfl rfl (by omega) (by omega)<|Q<|zpN (v:=str _) V ty9 rfl rfl rfl rfl rfl .u1 (by simp only [List.length_map,zfj,List.length_cons,List.length_nil]; omega) fun w V=>G<|zah<|zaD ?_
  have hsp:zbH (s.take (i + 1)) = ((zbH (s.take i)).1,(zbH (s.take i)).2.modify (zbH (s.take i)).1 (· ++ [s[i]])):=by rw [hstep]; unfold ziw; rw [if_neg (fun he=>g3 (by rw [he]; rfl))]
  exact ih1 (i + 1) _ w (by omega) (by (try dsimp only); rw [hsp]; dsimp only; rw [← zss (by rw [zfj]; omega)]; exact V) (by omega) E3 ⟨(Vi (by rw [hsp])),trivial⟩
 obtain rfl:i = s.length:=by omega
 rw [List.take_length,show (zbH s).2 = [f0,f1,f2,f3,f4,f5] from hf] at V
 dsimp only [List.map] at V
 refine Q<|zhR V Z Q0 g2<|Q<|Ex (.bool _) Z Z<|G<|SQ<|zal (Vb (Z:false = _))<|zaK (id:=0) Z<|SR<|Q<|zay (vs:=[str _,str _,str _,str _,str _,str _]) zgy Z Z Z (zac (n:=6) (V.objL Q1) _ Z)<|Q (SO (v:=.agg #[str _,str _,str _,str _,str _,str _]) V zgy Z Z .u2 fun w V=>?_)
 refine G<|zai func135 Z (zat (vs:=[str _,str _,str _,str _,str _,str _]) Z zgy Z Z (zac (n:=6) (V.objL Q2) _ Z)) ?_
 exact ⟨Z,V.pure⟩
end Go.SK
namespace Go.SK
open Go Go.Proofs Go.Proofs.Tryz
theorem ztc:zdm prog 113 [(0,1),(1,1),(2,1),(3,1),(4,1),(5,1),(6,1),(7,1)]:=⟨zbm prog 113,Kr,fun w=>Kr⟩
theorem ent134:zaG prog 134:=⟨f134,_,func134,Kr,rfl⟩
theorem ent135:zaG prog 135:=⟨f135,_,func135,Kr,rfl⟩
theorem zl8:FldF prog 113 6 6:=FldF.of (n:=0) Kr
open Go.RowKit
theorem zpA (s:zdN) (hasc:∀ c ∈ s,c.toNat < 128) (w:World):Ret prog 222 #[str s] w (fun v w'=>v = .int .u32 (zyb s) ∧ St w NoM [] [] w'):=by
 refine zav (args:=[str s]) func222 Z Z Z ?_
 have V:=St.init w
 refine SR<|AU Z<|NSR<|AU Z<|G<|SQ<|SR<|MS Z<|Q<|zgx V ty9 Z fun w it7 V=>G<|zak ?_
 refine zaY<|zaZ [(7,.pointer (some ⟨_,0,none⟩))] ⟨Z,trivial⟩ (fun (i:Nat)=>[(3,.int .u32 (zyb (s.take i)))]) (fun (i:Nat)=>[Res.iter it7 s i]) (fun (i:Nat)=>i ≤ s.length) (fun (i:Nat)=>s.length - i) (0) V (Nat.zero_le _) ⟨Z,trivial⟩ ?_
 intro i f w V hJ ih1
 refine SQ<|RG ?_
 rcases Nat.lt_or_ge i s.length with g2 | g2
 ·have hc := hasc _ (List.getElem_mem g2)
  have hstep:=ztC g2
  refine Q (zhQ V Z .u0 (List.getElem?_eq_getElem g2) (hc) fun w V=>?_)
  refine Q<|Ex (.bool _) Z Z<|G<|SQ<|zas (Vb (Z:true = _))<|zag<|zak<|SR<|Q<|Ex (.int .i32 _) Z Z<|Q<|zap (v:=.int .i32 _) Z<|NR<|MU Z<|Q<|zyO Z Z<|Q (zad (v:=.int .i32 _) Z ?_)
  refine Q (zbu Z Z Z Wi32 ?_)
  first | refine Q (zaS ty21 za9 rfl zsa ?_) | refine Q (za0 ty21 za9 rfl ?_)
  refine Q<|zyP Z Z<|AU Z<|G<|zah<|zaD ?_
  exact ih1 (i + 1) _ w (by omega) V (by omega) ⟨rfl,trivial⟩ ⟨(congrArg (Value.int .u32) (by rw [hstep]; rfl)),trivial⟩
 obtain rfl:i = s.length:=by omega
 refine Q<|zhR V Z Q0 g2<|Q<|Ex (.bool _) Z Z<|G<|SQ<|zal (Vb (Z:false = _))<|zaK (id:=0) Z<|SR<|MU Z<|AU Z<|G<|zai func222 Z (TP (v:=.int .u32 _) Z) ?_
 exact ⟨congrArg (Value.int .u32) (by rw [List.take_length]),V.pure⟩
theorem zpD (op:Int) (h0:0 ≤ op) (w:World):Ret prog 75 #[.int .u16 op] w (fun v w'=>v = formV (zc6 op) ∧ St w NoM [] [] w'):=by
 refine zav (args:=[.int .u16 op]) func75 Z Z Z ?_
 have V:=St.init w
 refine SR<|Q<|zar V zb5 fun w b2 V=>AB Z<|NSR<|MH Z<|Q<|zao (v1:=.int .u16 _) ent134 Z Z<|Ret.det (zw4 _ _) V fun w V=>AS Z<|G<|SQ<|SR<|MS Z ?_
 refine Q<|zcu Z Z<|G<|zab Z (fun g1=>?_) (fun g1=>?_)
 ·have hemp := g1
  refine SR<|Q (zaf zb5 ztc .nil ?_)
  refine Q (SO (v:=zaO _ _ _ _ _ _ _ _) V zb5 Z Z .u0 fun w V=>?_)
  refine AB Z<|G<|zaq func75 Z (zat (vs:=zbz _ _ _ _ _ _ _ _) Z zb5 Z Z (zac (n:=8) (V.objL Q0) _ Z)) (TP (v:=.bool _) Z) ?_
  rw [← (zhj h0).2]
  have e:ofS op = none:=by unfold ofS; rw [if_pos hemp]
  rw [e]
  exact ⟨Z,V.pure⟩
 have hemp:=g1
 obtain ⟨fd0,fd1,fd2,fd3,fd4,fd5,hf⟩:=R7six (zfj (zlO op))
 replace hf:zdi (zlO op) = [fd0,fd1,fd2,fd3,fd4,fd5]:=hf
 obtain ⟨_,_,_,hfa,hf5⟩:=zkS (zhj h0).1
 rw [hf] at hfa hf5
 replace hf5:0 < fd5.length:=List.length_pos_iff.2 (hf5.resolve_left hemp)
 have hasc:∀ c ∈ fd1,c.toNat < 128:=hfa fd1 (by simp)
 refine zag<|SR<|MS Z<|Q<|zao (v1:=str _) ent135 Z Z<|Ret.det (zpC _ _ _ _ _ _ _ (zhj h0).1 hf _) V fun w V=>Q<|zar V zgy fun w b5 V=>Q (SO (v:=.agg #[str _,str _,str _,str _,str _,str _]) V zgy Z Z .u0 fun w V=>?_)
 refine G<|SQ<|zaC [] V (bs:=[0,0,2,0,8,0,32,0,128,384,896,2047,0,8191]) (ds:=[some 16,some 17,some 18,some 19,some 20,some 21,some 22,some 23,some 24,some 25,some 26,some 27,some 6,none]) ⟨Kr,Kr,Kr⟩ (fun tab2=>?_)
 refine DO tab2 1 (fun _ _ _ hc=>zad (v:=.int .u16 _) (hc.old Z Z Z) hc.z)<|DO tab2 2 (fun _ _ _ hc=>zb7 zgy ty9 (hc.old (v:=Pp _ _) Z Z Z) Z De De hc.z)<|DO tab2 3 (fun _ _ _ hc=>zae (v:=str _) ty9 Z (hc.d 1 Z Z Z Z) (hc.st.cellL (Ar Q0) Z) hc.z)<|DO tab2 4 (fun _ _ _ hc=>zb7 zgy ty9 (hc.old (v:=Pp _ _) Z Z Z) Z De De hc.z)<|DO tab2 5 (fun _ _ _ hc=>zae (v:=str _) ty9 Z (hc.d 3 Z Z Z Z) (hc.st.cellL (Ar Q0) Z) hc.z)<|DO tab2 6 (fun _ _ _ hc=>zb7 zgy ty9 (hc.old (v:=Pp _ _) Z Z Z) Z De De hc.z)<|DO tab2 7 (fun _ _ _ hc=>zae (v:=str _) ty9 Z (hc.d 5 Z Z Z Z) (hc.st.cellL (Ar Q0) Z) hc.z)<|DO tab2 8 (fun _ _ _ hc=>zb7 zgy ty9 (hc.old (v:=Pp _ _) Z Z Z) Z De De hc.z)<|DO tab2 9 (fun _ _ _ hc=>zae (v:=str _) ty9 Z (hc.d 7 Z Z Z Z) (hc.st.cellL (Ar Q0) Z) hc.z)<|DO tab2 10 (fun _ _ _ hc=>za5 ty9 (hc.d 8 Z Z Z Z) Z O O hc.z)<|DO tab2 11 (fun _ _ _ hc=>zu8 (hc.d 9 Z Z Z Z) Z hc.z)<|DO tab2 12 (fun _ _ _ hc=>zaf zb5 ztc (.c (v:=.int .u16 _) (hc.d 0 Z Z Z Z) (h:=(.c (v:=str _) (hc.d 2 Z Z Z Z) (h:=(.c (v:=str _) (hc.d 4 Z Z Z Z) (h:=(.c (v:=str _) (hc.d 6 Z Z Z Z) (h:=(.c (v:=.int .u8 _) (hc.d 10 Z Z Z Z) (h:=.nil)))))))))) hc.z) ?_
 refine RunD.op (fun v rs=>∃ b,v = .pointer (some ⟨b,0,none⟩) ∧ rs = [Res.row b 113 [.int .u16 0,str [],.bool false,.bool false,str [],str [],.int .i64 0,.int .u8 0]]) tab2 13 (fun _ _ _ hc=>zar hc.st zb5 fun w b V=>⟨[_],⟨b,Z,Z⟩,V⟩)<|RunD.fin zaw tab2 V Z (fun f3 w R6 hs4 hd5 hr7 V=>?_)
 obtain ⟨h16_,r0⟩:=hd5 0 16 rfl rfl
 obtain ⟨h17_,r1⟩:=hd5 1 17 rfl rfl
 obtain ⟨h18_,r2⟩:=hd5 2 18 rfl rfl
 obtain ⟨h19_,r3⟩:=hd5 3 19 rfl rfl
 obtain ⟨h20_,r4⟩:=hd5 4 20 rfl rfl
 obtain ⟨h21_,r5⟩:=hd5 5 21 rfl rfl
 obtain ⟨h22_,r6⟩:=hd5 6 22 rfl rfl
 obtain ⟨h23_,r7⟩:=hd5 7 23 rfl rfl
 obtain ⟨h24_,r8⟩:=hd5 8 24 rfl rfl
 obtain ⟨h25_,r9⟩:=hd5 9 25 rfl rfl
 obtain ⟨h26_,r10⟩:=hd5 10 26 rfl rfl
 obtain ⟨h27_,r11⟩:=hd5 11 27 rfl rfl
 obtain ⟨b6,h6_,r12⟩:=hd5 12 6 rfl rfl
 simp only [rg13,Fc,Fn,Mc,Mn,r0,r1,r2,r3,r4,r5,r6,r7,r8,r9,r10,r11,r12,Na,An,Ca] at V
 refine zaz (sl:=[(2,Pp _ _),(5,Pp _ _),(6,Pp _ _),(27,zaO _ _ _ _ _ _ _ _)]) ⟨(hs4 2 Z).trans Z,(hs4 5 Z).trans Z,h6_,h27_,trivial⟩ ?_
 clear hs4 hd5 hr7 tab2
 refine Q (SO (v:=zaO _ _ _ _ _ _ _ _) V zb5 Z Z .u0 fun w V=>?_)
 refine G<|zaj [(2,Pp _ _),(5,Pp _ _),(6,Pp _ _)] E3 fun f=>SQ<|SR<|Q<|zb7 zgy ty9 Z Z De De<|Q<|zae (v:=str _) ty9 Z Z (V.cellL Q1 Z)<|Q<|zgx V ty9 Z fun w it30 V=>G<|zak<|zaY<|zaZ [(2,Pp _ _),(5,Pp _ _),(6,Pp _ _),(30,.pointer (some ⟨_,0,none⟩))] E4 (fun (i:Nat)=>[]) (fun (i:Nat)=>[Res.iter it30 fd1 i,Res.row b6 113 [.int .u16 op,str fd0,.bool ((fd1.take i).contains 84),.bool ((fd1.take i).contains 82),str fd2,str fd3,.int .i64 0,.int .u8 (zkp (fd5.getD 0 0) 48)]]) (fun (i:Nat)=>i ≤ fd1.length) (fun (i:Nat)=>fd1.length - i) (0) V (Nat.zero_le _) trivial ?_
 intro i f w V hJ ih8
 refine SQ<|RG ?_
 rcases Nat.lt_or_ge i fd1.length with g9 | g9
 ·have hc := hasc _ (List.getElem_mem g9)
  refine Q (zhQ V Z .u0 (List.getElem?_eq_getElem g9) (hc) fun w V=>?_)
  refine Q<|Ex (.bool _) Z Z<|G<|SQ<|zas (Vb (Z:true = _))<|zag<|zak<|SR<|Q<|Ex (.int .i32 _) Z Z<|Q<|zap (v:=.int .i32 _) Z<|NSR<|Q<|zaa zfi Z<|Q (zae (v:=.bool _) ty4 Z Z (V.cellL Q1 Z) ?_)
  refine MB Z<|zcg (d:=36) Z (fun g10=>?_) (fun g10=>?_)
  ·refine OM (t := 36) Z (Vb g10) Z <| OM (t := 36) Z (Vb g10) Z <| Q <| zaB (u := .bool _) (Vb g10) Z <| Q <| zaa zfi Z <| Q (SO (v := .bool _) V ty4 Z Z .u1 fun w V => ?_)
   refine NR<|Q<|zaa zdC Z<|Q<|zae (v:=.bool _) ty4 Z Z (V.cellL Q1 Z)<|MB Z<|zcg (d:=43) Z (fun g11=>?_) (fun g11=>?_)
   ·refine OM (t := 43) Z (Vb g11) Z <| OM (t := 43) Z (Vb g11) Z <| Q <| zaB (u := .bool _) (Vb g11) Z <| Q <| zaa zdC Z <| Q (SO (v := .bool _) V ty4 Z Z .u1 fun w V => ?_)
    refine G<|zah<|zaD ?_
    exact ih8 (i + 1) _ w (by omega) (by (try dsimp only); rw [zew 84 (m:=84) rfl g9,zew 82 (m:=82) rfl g9]; simp only [g10,g11,Bool.true_or,Bool.false_or]; exact V) (by omega) E4 trivial
   refine TK (t:=43) Z (Vb g11)<|zad (v:=.int .i32 _) Z<|TK (t:=43) Z (Vb g11)<|zam Z Z<|Q<|zax (u:=.bool _) (Vb g11) Z<|Q<|zaa zdC Z<|Q (SO (v:=.bool _) V ty4 Z Z .u1 fun w V=>?_)
   refine G<|zah<|zaD ?_
   exact ih8 (i + 1) _ w (by omega) (by (try dsimp only); rw [zew 84 (m:=84) rfl g9,zew 82 (m:=82) rfl g9]; simp only [g10,g11,Bool.true_or,Bool.false_or]; exact V) (by omega) E4 trivial
  refine TK (t:=36) Z (Vb g10)<|zad (v:=.int .i32 _) Z<|TK (t:=36) Z (Vb g10)<|zam Z Z<|Q<|zax (u:=.bool _) (Vb g10) Z<|Q<|zaa zfi Z<|Q (SO (v:=.bool _) V ty4 Z Z .u1 fun w V=>?_)
  refine NR<|Q<|zaa zdC Z<|Q<|zae (v:=.bool _) ty4 Z Z (V.cellL Q1 Z)<|MB Z<|zcg (d:=43) Z (fun g12=>?_) (fun g12=>?_)
  ·refine OM (t := 43) Z (Vb g12) Z <| OM (t := 43) Z (Vb g12) Z <| Q <| zaB (u := .bool _) (Vb g12) Z <| Q <| zaa zdC Z <| Q (SO (v := .bool _) V ty4 Z Z .u1 fun w V => ?_)
   refine G<|zah<|zaD ?_
   exact ih8 (i + 1) _ w (by omega) (by (try dsimp only); rw [zew 84 (m:=84) rfl g9,zew 82 (m:=82) rfl g9]; simp only [g10,g12,Bool.true_or,Bool.false_or]; exact V) (by omega) E4 trivial
  refine TK (t:=43) Z (Vb g12)<|zad (v:=.int .i32 _) Z<|TK (t:=43) Z (Vb g12)<|zam Z Z<|Q<|zax (u:=.bool _) (Vb g12) Z<|Q<|zaa zdC Z<|Q (SO (v:=.bool _) V ty4 Z Z .u1 fun w V=>?_)
  refine G<|zah<|zaD ?_
  exact ih8 (i + 1) _ w (by omega) (by (try dsimp only); rw [zew 84 (m:=84) rfl g9,zew 82 (m:=82) rfl g9]; simp only [g10,g12,Bool.true_or,Bool.false_or]; exact V) (by omega) E4 trivial
 obtain rfl:i = fd1.length:=by omega
 rw [List.take_length] at V
 refine Q<|zhR V Z Q0 g9<|Q<|Ex (.bool _) Z Z<|G<|SQ<|zal (Vb (Z:false = _))<|zaK (id:=0) Z<|SQ<|SR<|Q<|zb7 zgy ty9 Z Z De De<|Q<|zae (v:=str _) ty9 Z Z (V.cellL Q2 Z)<|Q<|zdo Z Z<|G<|zab Z (fun g13=>?_) (fun g13=>?_)
 ·have hf4 : 0 < fd4.length := List.length_pos_iff.2 g13
  have hwb:=zsX ((((fd4.getD (0:Int).toNat 0).toNat:Nat):Int) - 48)
  refine RG<|Q<|zb7 zgy ty9 Z Z De De<|Q<|zae (v:=str _) ty9 Z Z (V.cellL Q2 Z)<|Q<|za5 ty9 Z Z O O<|Q (zu8 Z Z ?_)
  first | refine Q (zaS ty5 ty3 rfl zbt ?_) | refine Q (za0 ty5 ty3 rfl ?_)
  refine Q<|zaa zl8 Z<|Q (SO (v:=.int .i64 _) V ty3 Z Z .u1 fun w V=>?_)
  refine NSR<|Q<|zay (vs:=zbz _ _ _ _ _ _ _ _) zb5 Z Z Z (zac (n:=8) (V.objL Q1) _ Z)<|Q (SO (v:=zaO _ _ _ _ _ _ _ _) V zb5 Z Z .u3 fun w V=>?_)
  refine AB Z<|G<|zaq func75 Z (zat (vs:=zbz _ _ _ _ _ _ _ _) Z zb5 Z Z (zac (n:=8) (V.objL Q3) _ Z)) (TP (v:=.bool _) Z) ?_
  rw [← (zhj h0).2]
  have e:ofS op = some (FormL.mk op fd0 (fd1.contains 84) (fd1.contains 82) fd2 fd3 (zkp (fd4.getD 0 0) 48) (zkp (fd5.getD 0 0) 48)):=by
   unfold ofS
   rw [if_neg hemp,hf]
   show some (FormL.mk op fd0 (fd1.contains 84) (fd1.contains 82) fd2 fd3 (if fd4 = [] then 0 else zkp (fd4.getD 0 0) 48) (zkp (fd5.getD 0 0) 48)) = _
   rw [if_neg g13]
  rw [e]
  exact ⟨Z,V.pure⟩
 refine zag<|SR<|Q<|zay (vs:=zbz _ _ _ _ _ _ _ _) zb5 Z Z Z (zac (n:=8) (V.objL Q1) _ Z)<|Q (SO (v:=zaO _ _ _ _ _ _ _ _) V zb5 Z Z .u3 fun w V=>?_)
 refine AB Z<|G<|zaq func75 Z (zat (vs:=zbz _ _ _ _ _ _ _ _) Z zb5 Z Z (zac (n:=8) (V.objL Q3) _ Z)) (TP (v:=.bool _) Z) ?_
 rw [← (zhj h0).2]
 have e:ofS op = some (FormL.mk op fd0 (fd1.contains 84) (fd1.contains 82) fd2 fd3 0 (zkp (fd5.getD 0 0) 48)):=by
  unfold ofS
  rw [if_neg hemp,hf]
  show some (FormL.mk op fd0 (fd1.contains 84) (fd1.contains 82) fd2 fd3 (if fd4 = [] then 0 else zkp (fd4.getD 0 0) 48) (zkp (fd5.getD 0 0) 48)) = _
  rw [if_pos (Nn g13)]
 rw [e]
 exact ⟨Z,V.pure⟩
end Go.SK
namespace Go.SK
open Go Go.Proofs Go.Proofs.Tryz
theorem zxw:zaG prog 181:=⟨f181,_,func181,Kr,rfl⟩
theorem ent222:zaG prog 222:=⟨f222,_,func222,Kr,rfl⟩
open Go.RowKit
theorem zlr (c:Int) (w:World):Ret prog 199 #[.int .u8 c] w (fun v w'=>∃ b,v = .func (.func 221) #[] #[.pointer (some ⟨b,0,none⟩)] ∧ St w NoM [Res.row b 5 [.int .u8 c]] [] w'):=by
 refine zav (args:=[.int .u8 c]) func199 Z Z Z ?_
 have V:=St.init w
 refine SR<|Q<|zbi (v:=.int .u8 _) V Z Z fun w b1 V=>Q<|zap (v:=_) Z<|NSR<|Q<|zbQ<|Q<|zap (v:=.func _ _ _) Z<|G<|zai func199 Z (TP (v:=.func _ _ _) Z) ?_
 exact ⟨_,Z,V⟩
theorem zpB {c:Int} {s:zdN} (hs:zkx zeS c = s) (w:World):Ret prog 181 #[.int .u8 c] w fun v w'=>v = str s ∧ St w NoM [] [] w':=by
 subst hs; exact zlp c w
theorem zit (c:Int) (h0:0 ≤ c) (h1:c ≤ 255) (bc:Nat) (w:World) (hb:(Res.row bc 5 [.int .u8 c]).holds w):zq3 prog 221 [.pointer (some ⟨bc,0,none⟩)] (zbg c).length (fun j=>[.int .u32 ((zbg c).getD j zdq).n,str ((zbg c).getD j zdq).name]) (· = bc) w:=by
 intro yv R S hR hFD hy
 obtain ⟨s,hs⟩:∃ s,zkx zeS c = s:=⟨_,rfl⟩
 obtain ⟨hasc,hlen,hl⟩:=ztG h0 h1
 rw [hs] at hasc hlen hl
 have hout:(enF s).out.length = (zbg c).length:=by rw [hl]; simp
 have hlt:∀ i (hi:i < s.length),s[i] = 32 → (enF (s.take i)).num = true → (enF (s.take i)).out.length < (zbg c).length:=fun i hi h2 h3=>by
  have:=(zqF hl hi h2 h3).1; simpa using this
 have hyx:∀ i (hi:i < s.length),s[i] = 32 → (enF (s.take i)).num = true → ∀ w1,St w (R 0).foot [R (enF (s.take i)).out.length] [] w1 → CallV prog yv [.int .u32 (enF (s.take i)).n,str (enF (s.take i)).word] w1 fun v w2=>(v = .bool true ∧ St w1 (R (enF (s.take i)).out.length).foot [R ((enF (s.take i)).out.length + 1)] [] w2) ∨ (v = .bool false ∧ St w1 (R (enF (s.take i)).out.length).foot [S (enF (s.take i)).out.length] [] w2):=fun i hi h2 h3 w1 hw1=>by
  have t:=hy _ (hlt i hi h2 h3) w1 hw1
  have ht:=(zqF hl hi h2 h3).2
  have hk:=hlt i hi h2 h3
  rw [zv3 (d:=zdq) hk] at ht
  dsimp only at t
  injection ht with e1 e2
  rwa [e1,e2] at t
 refine zav (args:=[yv,.pointer (some ⟨bc,0,none⟩)]) func221 Z Z Z ?_
 have V:St w (R 0).foot [R 0] [Res.row bc 5 [.int .u8 c]] w:=St.enter1 hR (fun d hd=>by cases hd with | head=>exact hb | tail _ h=>cases h) (fun d hd=>by cases hd with | head=>exact fun b hb hb2=>hFD b hb hb2 | tail _ h=>cases h)
 refine SR<|AU Z<|AS Z<|NSR<|AS Z<|NSR<|AB Z<|G<|SQ<|RG ?_
 refine Q<|zae (v:=.int .u8 _) ty5 Z Z (V.cellD Q0 Z)<|Q<|zao (v1:=.int .u8 _) zxw Z Z<|Ret.det (zpB hs _) V fun w V=>Q<|zgx V ty9 Z fun w it11 V=>G<|zak<|zaY<|zaZ [(0,_),(11,.pointer (some ⟨_,0,none⟩))] E2 (fun (i:Nat)=>[(3,.int .u32 (enF (s.take i)).n),(5,str (enF (s.take i)).word),(6,.bool (enF (s.take i)).num)]) (fun (i:Nat)=>[Res.iter it11 s i,R (enF (s.take i)).out.length]) (fun (i:Nat)=>i ≤ s.length) (fun (i:Nat)=>s.length - i) (0) V (Nat.zero_le _) E3 ?_
 intro i f w V hJ ih1
 refine SQ<|RG ?_
 rcases Nat.lt_or_ge i s.length with g2 | g2
 ·have hc := hasc _ (List.getElem_mem g2)
  have hwl:=(zpf s hasc i O).1
  refine Q (zhQ V Z .u0 (List.getElem?_eq_getElem g2) (hc) fun w V=>?_)
  refine Q<|Ex (.bool _) Z Z<|G<|SQ<|zas (Vb (Z:true = _))<|zag<|zak<|SR<|Q<|Ex (.int .i32 _) Z Z<|Q<|zap (v:=.int .i32 _) Z<|G<|SQ<|zak<|SQ<|RG ?_
  refine Q<|zad (v:=.int .i32 _) Z<|Q<|zaF Z Z<|AB Z<|G<|zab Z (fun g3=>?_) (fun g3=>?_)
  ·refine SR <| MS rfl <| Q <| zad (v := .int .i32 _) rfl <| Q <| zkh ty21 ty9 rfl (by omega) (by omega) <| Q <| zi7 rfl rfl (by first | omega | (simp only [List.length_cons, List.length_nil, List.length_append]; omega) | (simp; omega)) <| AS rfl <| G <| zaK (id := 1) rfl <| zaD ?_
   have hstep:=zhD g2
   have hsp:enF (s.take (i + 1)) = ⟨(enF (s.take i)).n,(enF (s.take i)).word ++ [s[i]],(enF (s.take i)).num,(enF (s.take i)).out⟩:=by rw [hstep]; unfold zfA; rw [if_pos (fun he=>g3 (by rw [he]; rfl))]
   exact ih1 (i + 1) _ w (by omega) (by (try dsimp only); rw [hsp]; exact V) (by omega) E2 ⟨(congrArg (Value.int .u32) (by rw [hsp])),(congrArg str (by rw [hsp]; simp)),(Vb (by rw [hsp])),trivial⟩
  refine SR<|MB Z<|Q<|zaU Z<|AB Z<|G<|zaQ Z (fun g4=>?_) (fun g4=>?_)
  ·refine RG <| MS Z <| Q <| zao (v1 := str _) ent222 Z Z <| Ret.det (zpA _ (zpf s hasc i O).2 _) V fun w V => AU Z <| G <| zah <| SR <| MB Z <| Q <| zaU Z <| AB Z <| NR <| AS Z <| G ?_
   refine zah<|zaD ?_
   have hstep:=zhD g2
   have hd32:s[i] = 32:=UInt8.toNat_inj.1 (by have:(32:UInt8).toNat = 32:=rfl; omega)
   have hnu:(enF (s.take i)).num = false:=by simpa using g4
   have hsp:enF (s.take (i + 1)) = ⟨zyb (enF (s.take i)).word,[],true,(enF (s.take i)).out⟩:=by rw [hstep]; unfold zfA; rw [if_neg (by simp [hd32]),if_neg (by simp [hnu])]
   exact ih1 (i + 1) _ w (by omega) (by (try dsimp only); rw [hsp]; exact V) (by omega) E2 ⟨(congrArg (Value.int .u32) (by rw [hsp])),(congrArg str (by rw [hsp])),(Vb (by rw [hsp,hnu]; rfl)),trivial⟩
  refine SR<|MS Z<|AS Z<|NSR<|Q<|zad (v:=_) Z<|MU Z<|MS Z ?_
  replace V:=V.pick (.c .u1 (.k1 .nil))
  have hc32:s[i] = 32:=UInt8.toNat_inj.1 (by have:(32:UInt8).toNat = 32:=rfl; omega)
  have hnum:(enF (s.take i)).num = true:=by simpa using g4
  refine Q (ze6 (v1:=.int .u32 _) (v2:=str _) Z Z Z ((hyx i O hc32 hnum _ V.one).mono fun v w hp=>?_))
  rcases hp with ⟨rfl,hp⟩ | ⟨rfl,hp⟩
  ·replace V := V.call1 hp
   refine Q<|zaU Z<|G<|zal (Vb (congrArg not (Z:true = _)))<|zag<|zah<|SR<|MB Z<|Q<|zaU Z<|AB Z<|G<|zaj [(0,_),(3,.int .u32 _),(6,.bool _),(11,.pointer (some ⟨_,0,none⟩))] E4 fun f=>RG<|AS Z<|G ?_
   refine zah<|zaD ?_
   have hstep:=zhD g2
   have hd32:s[i] = 32:=UInt8.toNat_inj.1 (by have:(32:UInt8).toNat = 32:=rfl; omega)
   have hnu:(enF (s.take i)).num = true:=by simpa using g4
   have hsp:enF (s.take (i + 1)) = ⟨(enF (s.take i)).n,[],false,(enF (s.take i)).out ++ [((enF (s.take i)).n,(enF (s.take i)).word)]⟩:=by rw [hstep]; unfold zfA; rw [if_neg (by simp [hd32]),if_pos hnu]
   replace V:=V.pick (.c .u1 (.k1 .nil))
   exact ih1 (i + 1) _ w (by omega) (by (try dsimp only); rw [hsp]; simp only [List.length_append,List.length_cons,List.length_nil]; exact V) (by omega) E2 ⟨(congrArg (Value.int .u32) (by rw [hsp])),(congrArg str (by rw [hsp])),(Vb (by rw [hsp,hnu]; rfl)),trivial⟩
  ·replace V := V.call1 hp
   refine Q<|zaU Z<|G<|zas (Vb (congrArg not (Z:false = _)))<|zgd func221 Z  ?_
   replace V:=V.pick (.k2 .nil)
   exact .inr ⟨(enF (s.take i)).out.length,hlt i O hc32 hnum,V.one⟩
 obtain rfl:i = s.length:=by omega
 refine Q<|zhR V Z Q0 g2<|Q<|Ex (.bool _) Z Z<|G<|SQ<|zal (Vb (Z:false = _))<|zaK (id:=0) Z<|zdA func221 Z  ?_
 replace V:=V.pick (.c .u1 (.k1 .nil))
 rw [List.take_length,hout] at V
 exact .inl V.one
end Go.SK
namespace Go.SK
open Go Go.Proofs Go.Proofs.Tryz
theorem zxv:zaG prog 199:=⟨f199,_,func199,Kr,rfl⟩
theorem zxu:zaG prog 221:=⟨f221,_,func221,Kr,rfl⟩
open Go.RowKit
theorem zuS (c n:Int) (h0:0 ≤ c) (h1:c ≤ 255) (w:World):Ret prog 152 #[.int .u8 c,.int .u32 n] w (fun v w'=>v = nameV (namesL.find? (enN c n)) ∧ St w NoM [] [] w'):=by
 refine zav (args:=[.int .u8 c,.int .u32 n]) func152 Z Z Z ?_
 have V:=St.init w
 refine SR<|Q<|zbi (v:=.int .u32 _) V Z Z fun w b3 V=>Q<|zar V ty9 fun w b4 V=>Q<|zar V ty4 fun w b5 V=>G<|SQ<|SR<|MC Z<|Q (zao (v1:=.int .u8 _) zxv Z Z ((zlr _ _).mono fun v w hp=>?_))
 obtain ⟨bc,rfl,hp⟩:=hp
 replace V:=V.call0 hp
 refine G<|zak ?_
 replace V:=V.addProp (p:=((zbg c).drop 0).find? (fun x=>decide (x.n = n)) = (zbg c).find? (fun x=>decide (x.n = n))) (rfl)
 replace V:=V.pick (.k1 (.c .u2 (.c .u1 (.k2 .nil))))
 refine zdT (L1:=[_,_,_]) (L2:=[_,_]) (item:=(fun j=>[.int .u32 ((zbg c).getD j zdq).n,str ((zbg c).getD j zdq).name])) (FD:=(· = bc)) (fun i=>[Res.prop (((zbg c).drop i).find? (fun x=>decide (x.n = n)) = (zbg c).find? (fun x=>decide (x.n = n))),Res.row b4 9 [str []],Res.row b5 4 [.bool false]]) (fun i=>[Res.prop ((zbg c).find? (fun x=>decide (x.n = n)) = some ((zbg c).getD i zdq)),Res.row b4 9 [str ((zbg c).getD i zdq).name],Res.row b5 4 [.bool true]]) (fun _=>.ret) V rfl rfl zxu (fun b hb=>.inl (by subst hb; exact ⟨_,Q0,rfl⟩)) (fun w1 hw1=>zit c h0 h1 bc w1 (hw1.hL _ Q3)) (fun _ _=>rfl) ?_ ?_ ?_
 ·intro i hi w bl br lp hlp V hk
  have hprop:((zbg c).drop i).find? (fun x=>decide (x.n = n)) = (zbg c).find? (fun x=>decide (x.n = n)):=V.hL _ Q2
  refine SR<|AU Z<|NR<|AS Z<|G<|zdZ hlp V .u0 fun w V=>zak<|SR<|MU Z<|Q<|zae (v:=.int .u32 _) za9 Z Z (V.cellD Q1 Z)<|Q<|zam Z Z<|G ?_
  refine zab Z (fun g1=>?_) (fun g1=>?_)
  ·refine SR <| MS Z <| Q (SO (v := str _) V ty9 Z Z .u3 fun w V => ?_)
   refine Q (SO (v:=.bool _) V ty4 Z Z .u4 fun w V=>?_)
   refine G<|zfc V .u0 fun w V=>?_
   replace V:=V.addProp (p:=(zbg c).find? (fun x=>decide (x.n = n)) = some ((zbg c).getD i zdq)) (zmb (d:=zdq) hprop hi (Dt g1))
   replace V:=V.pick (.c .u1 (.c .u1 (.k1 (.c .u1 (.c .u1 .nil)))))
   exact .inr ⟨Z,_,V⟩
  refine zag<|zah<|zdc hlp V .u0 fun w V=>?_
  replace V:=V.addProp (p:=((zbg c).drop (i + 1)).find? (fun x=>decide (x.n = n)) = (zbg c).find? (fun x=>decide (x.n = n))) (zjN (d:=zdq) hprop hi (Df g1))
  replace V:=V.pick (.c .u1 (.c .u1 (.k1 (.c .u1 (.c .u1 .nil)))))
  exact .inl ⟨Z,_,V⟩
 ·intro w bl br lp V
  have hall:((zbg c).drop (zbg c).length).find? (fun x=>decide (x.n = n)) = (zbg c).find? (fun x=>decide (x.n = n)):=V.hL _ Q2
  refine zah<|SR<|Q (SO (v:=str _) V ty9 Z Z .u3 fun w V=>?_)
  refine Q (SO (v:=.bool _) V ty4 Z Z .u4 fun w V=>?_)
  refine G ?_
  replace V:=V.pick (.c .u1 (.k6 .nil))
  refine zbs [br] func152 V fun w V=>⟨_,zvg Z (zcT (v:=str _) Z ty9 Z (V.cellL Q2 Z)) (zcT (v:=.bool _) Z ty4 Z (V.cellL Q3 Z)),?_⟩
  rw [← zla,zmc hall (Nat.le_refl _)]
  exact ⟨Z,V.pure⟩
 ·intro i hi w bl br lp V
  have hs:(zbg c).find? (fun x=>decide (x.n = n)) = some ((zbg c).getD i zdq):=V.hL _ Q2
  replace V:=V.pick (.c .u1 (.k6 .nil))
  refine zbs [br] func152 V fun w V=>⟨_,zvg Z (zcT (v:=str _) Z ty9 Z (V.cellL Q2 Z)) (zcT (v:=.bool _) Z ty4 Z (V.cellL Q3 Z)),?_⟩
  rw [← zla,hs]
  exact ⟨Z,V.pure⟩
end Go.SK
namespace Go.SK
open Go Go.Proofs Go.Proofs.Tryz
theorem zr0:zaG prog 75:=⟨f75,_,func75,Kr,rfl⟩
theorem zqx:FldF prog 113 1 1:=FldF.of (n:=0) Kr
theorem zcs:FldF prog 244 0 0:=FldF.of (n:=7) Kr
theorem zhA:FldF prog 113 4 4:=FldF.of (n:=0) Kr
theorem zey:FldF prog 113 5 5:=FldF.of (n:=0) Kr
theorem zoB:TyF prog 244 (.struct (zbm prog 244)) 8 80 [.int .u16 0,str [],.bool false,.bool false,str [],str [],.int .i64 0,.int .u8 0]:=zbp Kr Kr
theorem zvu:TyF prog 272 (.slice 245) 1 24 [.slice none 0 0]:=zbp Kr Kr
theorem zs0:TyF prog 245 (.func #[3] #[5] false) 1 8 [.nilFunc]:=zbp Kr Kr
theorem ent207:zaG prog 207:=⟨f207,_,func207,Kr,rfl⟩
theorem ent208:zaG prog 208:=⟨f208,_,func208,Kr,rfl⟩
theorem zxe:zdm prog 244 [(0,8)]:=⟨zbm prog 244,Kr,fun w=>Kr⟩
theorem zxx:zaG prog 172:=⟨f172,_,func172,Kr,rfl⟩
open Go.RowKit
theorem zoc (c:Int) (w:World):Ret prog 138 #[.int .u8 c] w (fun v w'=>v = .int .u8 (zbR c) ∧ St w NoM [] [] w'):=by
 refine zav (args:=[.int .u8 c]) func138 Z Z Z ?_
 have V:=St.init w
 refine SR<|AC Z<|G<|SQ<|SR<|MC Z<|G<|zak<|SR<|Q<|zam Z Z<|AB Z<|G ?_
 refine zab Z (fun g1=>?_) (fun g1=>?_)
 ·refine SR <| AC Z <| G <| zai func138 Z (TP (v := .int .u8 _) Z) <| ⟨congrArg (Value.int .u8) (Eq.symm ?_), V.pure⟩
  unfold zbR
  rw [if_pos g1]
 refine SR<|Q<|zam Z Z<|AB Z<|G<|zab Z (fun g2=>?_) (fun g2=>?_)
 ·refine SR <| AC Z <| G <| zai func138 Z (TP (v := .int .u8 _) Z) <| ⟨congrArg (Value.int .u8) (Eq.symm ?_), V.pure⟩
  unfold zbR
  rw [if_neg g1,if_pos g2]
 refine SR<|Q<|zam Z Z<|AB Z<|G<|zab Z (fun g3=>?_) (fun g3=>?_)
 ·refine SR <| AC Z <| G <| zai func138 Z (TP (v := .int .u8 _) Z) <| ⟨congrArg (Value.int .u8) (Eq.symm ?_), V.pure⟩
  unfold zbR
  rw [if_neg g1,if_neg g2,if_pos g3]
 refine zag<|zah<|SQ<|SR<|MC Z<|Q<|zao (v1:=.int .u8 _) zxw Z Z<|Ret.det (zlp _ _) V fun w V=>Q<|zdo Z Z<|G<|zab Z (fun g4=>?_) (fun g4=>?_)
 ·refine SR <| AC Z <| G <| zai func138 Z (TP (v := .int .u8 _) Z) <| ⟨congrArg (Value.int .u8) (Eq.symm ?_), V.pure⟩
  unfold zbR
  rw [if_neg g1,if_neg g2,if_neg g3,if_pos g4]
 refine zag<|SR<|AC Z<|G<|zai func138 Z (TP (v:=.int .u8 _) Z)<|⟨congrArg (Value.int .u8) (Eq.symm ?_),V.pure⟩
 unfold zbR
 rw [if_neg g1,if_neg g2,if_neg g3,if_neg g4]
theorem zsk (fm:FormL) (hf:FOk fm) (i:Int) (h0:0 ≤ i) (h1:i ≤ 9223372036854775807) (w:World):Ret prog 207 #[.agg #[.int .u16 fm.op,str fm.name,.bool fm.ty,.bool fm.res,str fm.fixed,str fm.rest,.int .i64 fm.most,.int .u8 fm.part],.int .i64 i] w (fun v w'=>v = .int .u8 (zsG fm i) ∧ St w NoM [] [] w'):=by
 refine zav (args:=[.agg #[.int .u16 fm.op,str fm.name,.bool fm.ty,.bool fm.res,str fm.fixed,str fm.rest,.int .i64 fm.most,.int .u8 fm.part],.int .i64 i]) func207 Z Z Z ?_
 have V:=St.init w
 obtain ⟨hop,hmost,hfx,hrs,_,_,hf0,hr0⟩:=hf
 refine SR<|Q<|zbi (v:=zaO _ _ _ _ _ _ _ _) V Z Z fun w b2 V=>AC Z<|G<|SQ<|SR<|MI Z<|Q<|zaN Z Z<|MB Z<|zau (d:=7) Z (fun g1=>?_) (fun g1=>?_)
 ·refine OM (t := 7) Z (Vb (Dt g1)) Z <| OM (t := 7) Z (Vb (Dt g1)) Z <| OM (t := 7) Z (Vb (Dt g1)) Z <| OM (t := 7) Z (Vb (Dt g1)) Z <| OM (t := 7) Z (Vb (Dt g1)) Z <| OM (t := 7) Z (Vb (Dt g1)) Z <| Q <| zaB (u := .bool _) (Vb (Dt g1)) Z <| G <| zas (Vb (Z : true = _)) <| SR <| AC Z <| G <| zai func207 Z (TP (v := .int .u8 _) Z) <| ⟨congrArg (Value.int .u8) (Eq.symm ?_), V.pure⟩
  unfold zsG
  first | exact if_pos (by omega) | exact if_neg (by omega)
 refine TK (t:=7) Z (Vb (Df g1))<|zad (v:=.int .i64 _) Z<|TK (t:=7) Z (Vb (Df g1))<|zaa zcs Z<|TK (t:=7) Z (Vb (Df g1))<|zaa zhA Z<|TK (t:=7) Z (Vb (Df g1))<|zae (v:=str _) ty9 Z Z (V.cellL Q0 Z)<|TK (t:=7) Z (Vb (Df g1))<|zbb (rest:=[]) ty9 Z<|TK (t:=7) Z (Vb (Df g1))<|zbh Z Z<|Q<|zax (u:=.bool _) (Vb (Df g1)) Z<|G<|zab Z (fun g2=>?_) (fun g2=>?_)
 ·refine SR <| AC Z <| G <| zai func207 Z (TP (v := .int .u8 _) Z) <| ⟨congrArg (Value.int .u8) (Eq.symm ?_), V.pure⟩
  unfold zsG
  first | exact if_pos (by omega) | exact if_neg (by omega)
 refine zag<|SR<|Q<|zaa zcs Z<|Q<|zaa zhA Z<|Q<|zae (v:=str _) ty9 Z Z (V.cellL Q0 Z)<|MI Z<|Q<|za5 ty9 Z Z O O<|AC Z<|G<|zai func207 Z (TP (v:=.int .u8 _) Z)<|⟨congrArg (Value.int .u8) (Eq.symm ?_),V.pure⟩
 unfold zsG
 first | exact if_pos (by omega) | exact if_neg (by omega)
theorem zuR (fm:FormL) (hf:FOk fm) (i:Int) (h0:0 ≤ i) (h1:i ≤ 9223372036854775807) (w:World):Ret prog 208 #[.agg #[.int .u16 fm.op,str fm.name,.bool fm.ty,.bool fm.res,str fm.fixed,str fm.rest,.int .i64 fm.most,.int .u8 fm.part],.int .i64 i] w (fun v w'=>v = .int .u8 (zix fm i) ∧ St w NoM [] [] w'):=by
 refine zav (args:=[.agg #[.int .u16 fm.op,str fm.name,.bool fm.ty,.bool fm.res,str fm.fixed,str fm.rest,.int .i64 fm.most,.int .u8 fm.part],.int .i64 i]) func208 Z Z Z ?_
 have V:=St.init w
 obtain ⟨hop,hmost,hfx,hrs,_,_,hf0,hr0⟩:=hf
 refine SR<|Q<|zbi (v:=zaO _ _ _ _ _ _ _ _) V Z Z fun w b2 V=>AC Z<|NSR<|MI Z<|Q<|zaa zcs Z<|Q<|zaa zhA Z<|Q<|zae (v:=str _) ty9 Z Z (V.cellL Q0 Z)<|Q<|zbb (rest:=[]) ty9 Z<|Q<|zbu Z Z Z zbt<|AI Z<|G ?_
 refine SQ<|SR<|MI Z<|Q<|zaN Z Z<|MB Z<|zau (d:=13) Z (fun g1=>?_) (fun g1=>?_)
 ·refine OM (t := 13) Z (Vb (Dt g1)) Z <| OM (t := 13) Z (Vb (Dt g1)) Z <| OM (t := 13) Z (Vb (Dt g1)) Z <| OM (t := 13) Z (Vb (Dt g1)) Z <| Q <| zaB (u := .bool _) (Vb (Dt g1)) Z <| MB Z <| OM (t := 19) Z (Vb (Z : true = _)) Z <| OM (t := 19) Z (Vb (Z : true = _)) Z <| OM (t := 19) Z (Vb (Z : true = _)) Z <| OM (t := 19) Z (Vb (Z : true = _)) Z <| OM (t := 19) Z (Vb (Z : true = _)) Z <| zaL (t := 24) Z Z <| zaL (t := 24) Z Z <| zaL (t := 24) Z Z <| zaL (t := 24) Z Z ?_
  refine zaL (t:=24) Z Z<|zaL (t:=24) Z Z<|zaL (t:=24) Z Z<|zaL (t:=24) Z Z<|zaL (t:=24) Z Z<|zaL (t:=24) Z Z<|OM (t:=19) Z (Vb (Z:true = _)) Z<|Q<|zaB (u:=.bool _) (Vb (Z:true = _)) Z<|G<|zas (Vb (Z:true = _))<|SR<|AC Z<|G<|zai func208 Z (TP (v:=.int .u8 _) Z) ?_
  refine ⟨congrArg (Value.int .u8) (Eq.symm ?_),V.pure⟩
  unfold zix
  first | exact if_pos (by first | omega | (simp_all <;> omega)) | exact if_neg (by first | omega | (simp_all <;> omega))
 refine TK (t:=13) Z (Vb (Df g1))<|zaa zcs Z<|TK (t:=13) Z (Vb (Df g1))<|zaa zey Z<|TK (t:=13) Z (Vb (Df g1))<|zae (v:=str _) ty9 Z Z (V.cellL Q0 Z)<|TK (t:=13) Z (Vb (Df g1))<|zcu Z Z<|Q<|zax (u:=.bool _) (Vb (Df g1)) Z<|MB Z<|zau (d:=19) Z (fun g2=>?_) (fun g2=>?_)
 ·refine OM (t := 19) Z (Vb (Dt g2)) Z <| OM (t := 19) Z (Vb (Dt g2)) Z <| OM (t := 19) Z (Vb (Dt g2)) Z <| OM (t := 19) Z (Vb (Dt g2)) Z <| OM (t := 19) Z (Vb (Dt g2)) Z <| zaL (t := 24) Z Z <| zaL (t := 24) Z Z <| zaL (t := 24) Z Z <| zaL (t := 24) Z Z <| zaL (t := 24) Z Z <| zaL (t := 24) Z Z <| zaL (t := 24) Z Z <| zaL (t := 24) Z Z <| zaL (t := 24) Z Z <| zaL (t := 24) Z Z ?_
  refine OM (t:=19) Z (Vb (Dt g2)) Z<|Q<|zaB (u:=.bool _) (Vb (Dt g2)) Z<|G<|zaj [(1,.int .i64 _),(2,Pp _ _),(36,.bool _)] E3 fun f=>zas (Vb (Z:true = _))<|SR<|AC Z<|G<|zai func208 Z (TP (v:=.int .u8 _) Z)<|⟨congrArg (Value.int .u8) (Eq.symm ?_),V.pure⟩
  unfold zix
  first | exact if_pos (by first | omega | (simp_all <;> omega)) | exact if_neg (by first | omega | (simp_all <;> omega))
 refine TK (t:=19) Z (Vb (Df g2))<|zaa zcs Z<|TK (t:=19) Z (Vb (Df g2))<|zaa zl8 Z<|TK (t:=19) Z (Vb (Df g2))<|zae (v:=.int .i64 _) ty3 Z Z (V.cellL Q0 Z)<|TK (t:=19) Z (Vb (Df g2))<|zbI Z Z<|TK (t:=19) Z (Vb (Df g2))<|zad (v:=.bool _) Z<|zau (d:=24) Z (fun g3=>?_) (fun g3=>?_)
 ·refine TK (t := 24) Z (Vb (Dt g3)) <| zad (v := .int .i64 _) Z <| TK (t := 24) Z (Vb (Dt g3)) <| zaa zcs Z <| TK (t := 24) Z (Vb (Dt g3)) <| zaa zl8 Z <| TK (t := 24) Z (Vb (Dt g3)) <| zae (v := .int .i64 _) ty3 Z Z (V.cellL Q0 Z) <| TK (t := 24) Z (Vb (Dt g3)) <| zaa zcs Z <| TK (t := 24) Z (Vb (Dt g3)) <| zaa zey Z <| TK (t := 24) Z (Vb (Dt g3)) <| zae (v := str _) ty9 Z Z (V.cellL Q0 Z) <| TK (t := 24) Z (Vb (Dt g3)) (zbb (rest := []) ty9 Z ?_)
  first | refine TK (t:=24) rfl (Vb (Dt g3)) (zdp rfl rfl rfl zbt ?_) | refine TK (t:=24) rfl (Vb (Dt g3)) (zq2 rfl rfl O O O O (fun hm4 hm5=>?_))
  refine TK (t:=24) Z (Vb (Dt g3))<|zbh Z Z<|TK (t:=19) Z (Vb (Df g2))<|zaB (u:=.bool _) (Vb (Dt g3)) Z<|Q<|zax (u:=.bool _) (Vb (Df g2)) Z<|G<|zaj [(1,.int .i64 _),(2,Pp _ _),(36,.bool _)] E3 fun f=>zab Z (fun g6=>?_) (fun g6=>?_)
  ·refine SR <| AC Z <| G <| zai func208 Z (TP (v := .int .u8 _) Z) <| ⟨congrArg (Value.int .u8) (Eq.symm ?_), V.pure⟩
   unfold zix
   first | exact if_pos (by first | omega | (simp_all <;> omega)) | exact if_neg (by first | omega | (simp_all <;> omega))
  have hrp:0 < fm.rest.length:=List.length_pos_iff.2 g2
  have hmd:=Int.emod_lt_of_pos (i - (fm.fixed.length:Int)) (show (0:Int) < fm.rest.length by omega)
  have hmn:=Int.emod_nonneg (i - (fm.fixed.length:Int)) (show (fm.rest.length:Int) ≠ 0 by omega)
  refine zag<|SQ<|zaC [] V (bs:=[0,1,3,0,0,16,48,112,248,511,1023]) (ds:=[some 37,some 38,some 39,some 40,some 41,some 42,some 43,some 44,some 45,some 46,some 4]) ⟨Kr,Kr,Kr⟩ (fun tab7=>?_)
  refine DO tab7 1 (fun _ _ _ hc=>zaa zcs (hc.old (v:=Pp _ _) Z Z Z) hc.z)<|DO tab7 2 (fun _ _ _ hc=>zaa zey (hc.d 0 Z Z Z Z) hc.z)<|DO tab7 3 (fun _ _ _ hc=>zae (v:=str _) ty9 Z (hc.d 1 Z Z Z Z) (hc.st.cellL (Ar Q0) Z) hc.z)<|DO tab7 4 (fun _ _ _ hc=>zad (v:=.int .i64 _) (hc.old Z Z Z) hc.z)<|DO tab7 5 (fun _ _ _ hc=>zaa zcs (hc.old (v:=Pp _ _) Z Z Z) hc.z)<|DO tab7 6 (fun _ _ _ hc=>zaa zey (hc.d 4 Z Z Z Z) hc.z)<|DO tab7 7 (fun _ _ _ hc=>zae (v:=str _) ty9 Z (hc.d 5 Z Z Z Z) (hc.st.cellL (Ar Q0) Z) hc.z)<|DO tab7 8 (fun _ _ _ hc=>zbb (rest:=[]) ty9 (hc.d 6 Z Z Z Z) hc.z) ?_
  first | refine DO tab7 9 (fun _ _ _ hc=>zhO (hc.d 3 rfl rfl rfl rfl) (hc.d 7 rfl rfl rfl rfl) O O rfl hc.z) ?_ | refine DO tab7 9 (fun _ _ _ hc=>zki (hc.d 3 rfl rfl rfl rfl) (hc.d 7 rfl rfl rfl rfl) O hc.z) ?_
  refine RunD.fin zaw tab7 V Z (fun f8 w R11 hs9 hd10 hr12 V=>?_)
  obtain ⟨h37_,r0⟩:=hd10 0 37 rfl rfl
  obtain ⟨h38_,r1⟩:=hd10 1 38 rfl rfl
  obtain ⟨h39_,r2⟩:=hd10 2 39 rfl rfl
  obtain ⟨h40_,r3⟩:=hd10 3 40 rfl rfl
  obtain ⟨h41_,r4⟩:=hd10 4 41 rfl rfl
  obtain ⟨h42_,r5⟩:=hd10 5 42 rfl rfl
  obtain ⟨h43_,r6⟩:=hd10 6 43 rfl rfl
  obtain ⟨h44_,r7⟩:=hd10 7 44 rfl rfl
  obtain ⟨h45_,r8⟩:=hd10 8 45 rfl rfl
  simp only [rg9,Fc,Fn,Mc,Mn,r0,r1,r2,r3,r4,r5,r6,r7,r8,Na,An,Ca] at V
  refine zaz (sl:=[(39,str _),(45,.int .i64 _)]) ⟨h39_,h45_,trivial⟩ ?_
  clear hs9 hd10 hr12 tab7
  refine Q<|za5 ty9 Z Z O O<|AC Z<|G<|zai func208 Z (TP (v:=.int .u8 _) Z)<|⟨congrArg (Value.int .u8) (Eq.symm ?_),V.pure⟩
  unfold zix
  first | exact if_pos (by first | omega | (simp_all <;> omega)) | exact if_neg (by first | omega | (simp_all <;> omega))
 refine OM (t:=24) Z (Vb (Df g3)) Z<|OM (t:=24) Z (Vb (Df g3)) Z<|OM (t:=24) Z (Vb (Df g3)) Z<|OM (t:=24) Z (Vb (Df g3)) Z<|OM (t:=24) Z (Vb (Df g3)) Z<|OM (t:=24) Z (Vb (Df g3)) Z<|OM (t:=24) Z (Vb (Df g3)) Z<|OM (t:=24) Z (Vb (Df g3)) Z<|OM (t:=24) Z (Vb (Df g3)) Z<|OM (t:=24) Z (Vb (Df g3)) Z<|TK (t:=19) Z (Vb (Df g2))<|zax (u:=.bool _) (Vb (Df g3)) Z<|Q<|zax (u:=.bool _) (Vb (Df g2)) Z<|G<|zaj [(1,.int .i64 _),(2,Pp _ _),(36,.bool _)] E3 (fun f=>?_)
 have hrp:0 < fm.rest.length:=List.length_pos_iff.2 g2
 have hmd:=Int.emod_lt_of_pos (i - (fm.fixed.length:Int)) (show (0:Int) < fm.rest.length by omega)
 have hmn:=Int.emod_nonneg (i - (fm.fixed.length:Int)) (show (fm.rest.length:Int) ≠ 0 by omega)
 refine zal (Vb (Z:false = _))<|zag<|SQ<|zaC [] V (bs:=[0,1,3,0,0,16,48,112,248,511,1023]) (ds:=[some 37,some 38,some 39,some 40,some 41,some 42,some 43,some 44,some 45,some 46,some 4]) ⟨Kr,Kr,Kr⟩ (fun tab13=>?_)
 refine DO tab13 1 (fun _ _ _ hc=>zaa zcs (hc.old (v:=Pp _ _) Z Z Z) hc.z)<|DO tab13 2 (fun _ _ _ hc=>zaa zey (hc.d 0 Z Z Z Z) hc.z)<|DO tab13 3 (fun _ _ _ hc=>zae (v:=str _) ty9 Z (hc.d 1 Z Z Z Z) (hc.st.cellL (Ar Q0) Z) hc.z)<|DO tab13 4 (fun _ _ _ hc=>zad (v:=.int .i64 _) (hc.old Z Z Z) hc.z)<|DO tab13 5 (fun _ _ _ hc=>zaa zcs (hc.old (v:=Pp _ _) Z Z Z) hc.z)<|DO tab13 6 (fun _ _ _ hc=>zaa zey (hc.d 4 Z Z Z Z) hc.z)<|DO tab13 7 (fun _ _ _ hc=>zae (v:=str _) ty9 Z (hc.d 5 Z Z Z Z) (hc.st.cellL (Ar Q0) Z) hc.z)<|DO tab13 8 (fun _ _ _ hc=>zbb (rest:=[]) ty9 (hc.d 6 Z Z Z Z) hc.z) ?_
 first | refine DO tab13 9 (fun _ _ _ hc=>zhO (hc.d 3 rfl rfl rfl rfl) (hc.d 7 rfl rfl rfl rfl) O O rfl hc.z) ?_ | refine DO tab13 9 (fun _ _ _ hc=>zki (hc.d 3 rfl rfl rfl rfl) (hc.d 7 rfl rfl rfl rfl) O hc.z) ?_
 refine RunD.fin zaw tab13 V Z (fun f14 w R17 hs15 hd16 hr18 V=>?_)
 obtain ⟨h37_,r0⟩:=hd16 0 37 rfl rfl
 obtain ⟨h38_,r1⟩:=hd16 1 38 rfl rfl
 obtain ⟨h39_,r2⟩:=hd16 2 39 rfl rfl
 obtain ⟨h40_,r3⟩:=hd16 3 40 rfl rfl
 obtain ⟨h41_,r4⟩:=hd16 4 41 rfl rfl
 obtain ⟨h42_,r5⟩:=hd16 5 42 rfl rfl
 obtain ⟨h43_,r6⟩:=hd16 6 43 rfl rfl
 obtain ⟨h44_,r7⟩:=hd16 7 44 rfl rfl
 obtain ⟨h45_,r8⟩:=hd16 8 45 rfl rfl
 simp only [rg9,Fc,Fn,Mc,Mn,r0,r1,r2,r3,r4,r5,r6,r7,r8,Na,An,Ca] at V
 refine zaz (sl:=[(39,str _),(45,.int .i64 _)]) ⟨h39_,h45_,trivial⟩ ?_
 clear hs15 hd16 hr18 tab13
 refine Q<|za5 ty9 Z Z O O<|AC Z<|G<|zai func208 Z (TP (v:=.int .u8 _) Z)<|⟨congrArg (Value.int .u8) (Eq.symm ?_),V.pure⟩
 unfold zix
 first | exact if_pos (by first | omega | (simp_all <;> omega)) | exact if_neg (by first | omega | (simp_all <;> omega))
theorem zke (fm:FormL) (hf:FOk fm) (i:Int) (h1:i ≤ 9223372036854775807) (w:World):Ret prog 172 #[.agg #[.int .u16 fm.op,str fm.name,.bool fm.ty,.bool fm.res,str fm.fixed,str fm.rest,.int .i64 fm.most,.int .u8 fm.part],.int .i64 i] w (fun v w'=>v = .int .u8 (zaJ fm i) ∧ St w NoM [] [] w'):=by
 refine zav (args:=[.agg #[.int .u16 fm.op,str fm.name,.bool fm.ty,.bool fm.res,str fm.fixed,str fm.rest,.int .i64 fm.most,.int .u8 fm.part],.int .i64 i]) func172 Z Z Z ?_
 have V:=St.init w
 refine SR<|Q<|zbi (v:=zaO _ _ _ _ _ _ _ _) V Z Z fun w b2 V=>AC Z<|G<|SQ<|SR<|MI Z<|Q<|zaN Z Z<|G<|zab Z (fun g1=>?_) (fun g1=>?_)
 ·refine SR <| AC Z <| G <| zai func172 Z (TP (v := .int .u8 _) Z) <| ⟨congrArg (Value.int .u8) (Eq.symm ?_), V.pure⟩
  unfold zaJ
  exact if_pos (by omega)
 refine zag<|SQ<|SR<|Q<|zay (vs:=zbz _ _ _ _ _ _ _ _) zoB Z Z Z (zac (n:=8) (V.objL Q0) _ Z)<|Q<|zbQ<|Q<|zay (vs:=zbz _ _ _ _ _ _ _ _) zoB Z Z Z (zac (n:=8) (V.objL Q0) _ Z)<|Q<|zbQ<|Q (zaI (z0:=[.nilFunc,.nilFunc]) V zvu zs0 Z Z Kr (.c (v:=.func _ _ _) Z (h:=(.c (v:=.func _ _ _) Z (h:=.nil)))) fun w b14 V=>?_)
 refine Q<|zaH (rest:=[]) zvu Z<|MI Z<|G<|zak<|zaY<|SR<|Q<|zaN Z Z<|G<|SQ<|zas (Vb (Dt De))<|zag<|SQ<|zak<|SQ ?_
 refine RG<|Q<|zbd zvu zs0 Z Z O O<|Q<|zae (v:=.func _ _ _) zs0 Z Z (V.cellL Q0 Z)<|Q<|zap (v:=.func _ _ _) Z<|NSR<|Q<|zad (v:=.func _ _ _) Z<|MI Z<|Q (zdx (v1:=.int .i64 _) Z Z (zdy ent207 ((zsk fm hf i O h1 _).mono fun v w hp=>?_)))
 obtain ⟨rfl,hp⟩:=hp
 replace V:=V.keepc hp
 refine AC Z<|G<|zaj [(1,.int .i64 _),(7,.int .u8 _),(14,.slice _ _ _),(15,.int .i64 _),(16,.int .i64 _)] E5 fun f=>SR<|MC Z<|Q<|zaF Z Z<|G<|zab Z (fun g2=>?_) (fun g2=>?_)
 ·refine SR <| MC Z <| AC Z <| G <| zai func172 Z (TP (v := .int .u8 _) Z) ?_
  exact ⟨congrArg (Value.int .u8) (zrQ hf O g2).symm,V.pure⟩
 refine zag<|zah<|RG<|Q<|zaA Z Z Z zbt<|MI Z<|G<|zaD<|SR<|Q<|zaN Z Z<|G<|SQ<|zas (Vb (Dt De))<|zag<|SQ ?_
 refine zak<|SR<|Q<|zbd zvu zs0 Z Z O O<|Q<|zae (v:=.func _ _ _) zs0 Z Z (V.cellL Q0 Z)<|Q<|zap (v:=.func _ _ _) Z<|NSR<|Q<|zad (v:=.func _ _ _) Z<|MI Z<|Q (zdx (v1:=.int .i64 _) Z Z (zdy ent208 ((zuR fm hf i O h1 _).mono fun v w hp=>?_)))
 obtain ⟨rfl,hp⟩:=hp
 replace V:=V.keepc hp
 refine AC Z<|NSR<|MC Z<|Q<|zaF Z Z<|G<|zab Z (fun g3=>?_) (fun g3=>?_)
 ·refine SR <| MC Z <| AC Z <| G <| zai func172 Z (TP (v := .int .u8 _) Z) ?_
  rw [zjC hf (by omega) (Nn g2)]
  exact ⟨Z,V.pure⟩
 refine zag<|zah<|RG<|Q<|zaA Z Z Z zbt<|MI Z<|G<|zaD<|SR<|Q<|zaN Z Z<|G<|SQ<|zal (Vb (Df De))<|zaK (id:=0) Z<|SQ ?_
 refine RG<|AC Z<|G<|zai func172 Z (TP (v:=.int .u8 _) Z) ?_
 rw [zjC hf (by omega) (Nn g2)]
 exact ⟨congrArg (Value.int .u8) (Nn g3).symm,V.pure⟩
theorem zg4 (op:Int) (h0:0 ≤ op) (i:Int) (h1:i ≤ 9223372036854775807) (w:World):Ret prog 131 #[.int .u16 op,.int .i64 i] w (fun v w'=>v = .int .u8 (zaJ (zaW op) i) ∧ St w NoM [] [] w'):=by
 refine zav (args:=[.int .u16 op,.int .i64 i]) func131 Z Z Z ?_
 have V:=St.init w
 refine SR<|AC Z<|NSR<|MH Z<|Q<|zao (v1:=.int .u16 _) zr0 Z Z<|Ret.det (zpD _ O _) V fun w V=>Q<|zad (v:=.tuple #[zaO _ _ _ _ _ _ _ _,.bool _]) Z<|Q<|Ex (zaO _ _ _ _ _ _ _ _) Z Z<|Q<|Ex (.bool _) Z Z<|Q<|zar V zb5 fun w b5 V=>Q (SO (v:=zaO _ _ _ _ _ _ _ _) V zb5 Z Z .u0 fun w V=>?_)
 refine AB Z<|NSR<|Q<|zay (vs:=zbz _ _ _ _ _ _ _ _) zb5 Z Z Z (zac (n:=8) (V.objL Q0) _ Z)<|Q (zaf zoB zxe (.c (v:=zaO _ _ _ _ _ _ _ _) Z (h:=.nil)) ?_)
 refine MI Z<|Q<|zaE (v1:=zaO _ _ _ _ _ _ _ _) (v2:=.int .i64 _) zxx Z Z Z<|Ret.det (zke (zaW op) (zfd op) i h1 _) V fun w V=>AC Z<|G<|zai func131 Z (TP (v:=.int .u8 _) Z) ?_
 exact ⟨Z,V.pure⟩
theorem zi5 {op:Int} {fm:FormL} {ob:Bool} (h0:0 ≤ op) (hfm:zaW op = fm) (hob:(zc6 op).isSome = ob) (w:World):Ret prog 75 #[.int .u16 op] w fun v w'=>v = .tuple #[.agg (zrW fm).toArray,.bool ob] ∧ St w NoM [] [] w':=by
 subst hfm; subst hob; exact zpD op h0 w
theorem zls {c n:Int} {o:Option NameL} (h:namesL.find? (enN c n) = o) (h0:0 ≤ c) (h1:c ≤ 255) (w:World):Ret prog 152 #[.int .u8 c,.int .u32 n] w fun v w'=>v = nameV o ∧ St w NoM [] [] w':=by
 subst h; exact zuS c n h0 h1 w
end Go.SK
namespace Go.SK
open Go Go.Proofs Go.Proofs.Tryz
theorem zue:zaG prog 138:=⟨f138,_,func138,Kr,rfl⟩
open Go.RowKit
theorem zod (op:Int) (h0:0 ≤ op) (ks:List Int) (ao:Option Addr) (cp:Nat) (w:World) (hA:(Res.rs ao ks.length 1 (ks.flatMap u8C)).holds w) (hlen:ks.length ≤ 9000000000000000000):Ret prog 133 #[.int .u16 op,.slice ao ks.length cp] w (fun v w'=>v = znD (ze0 op ks) ∧ St w NoM [] [] w'):=by
 refine zav (args:=[.int .u16 op,.slice ao ks.length cp]) func133 Z Z Z ?_
 have V:St w NoM [] [Res.rs ao ks.length 1 (ks.flatMap u8C)] w:=St.init_D hA
 clear hA
 obtain ⟨fm,hfm⟩:∃ x,zaW op = x:=⟨_,rfl⟩
 obtain ⟨ob,hob⟩:∃ x,(zc6 op).isSome = x:=⟨_,rfl⟩
 have hf:=zfd op
 rw [hfm] at hf
 have hz:ob = false → fm = zeroF:=fun e=>by subst e; rw [← hfm]; exact ztl hob
 obtain ⟨hop,hmost,hfx,hrs,_,_,_,_⟩:=hf
 refine SR<|AI Z<|AB Z<|NSR<|MH Z<|Q<|zao (v1:=.int .u16 _) zr0 Z Z<|Ret.det (zi5 O hfm hob _) V fun w V=>Q<|zad (v:=.tuple #[zaO _ _ _ _ _ _ _ _,.bool _]) Z<|Q<|Ex (zaO _ _ _ _ _ _ _ _) Z Z<|Q<|Ex (.bool _) Z Z<|Q<|zar V zb5 fun w b6 V=>Q (SO (v:=zaO _ _ _ _ _ _ _ _) V zb5 Z Z .u0 fun w V=>?_)
 refine AB Z<|G<|SQ<|SR<|MB Z<|Q<|zaU Z<|G<|zaQ Z (fun g1=>?_) (fun g1=>?_)
 ·refine SR <| AI Z <| AB Z <| G <| zaq func133 Z (TP (v := .int .i64 _) Z) (TP (v := .bool _) Z) ?_
  exact ⟨(congrArg znD (zyq hob (by simpa using g1))).symm,V.pure⟩
 refine zag<|SR<|Q<|zay (vs:=zbz _ _ _ _ _ _ _ _) zb5 Z Z Z (zac (n:=8) (V.objL Q0) _ Z)<|Q (zaf zoB zxe (.c (v:=zaO _ _ _ _ _ _ _ _) Z (h:=.nil)) ?_)
 refine Q<|zar V zoB fun w b8 V=>Q (SO (v:=zaO _ _ _ _ _ _ _ _) V zoB Z Z .u0 fun w V=>?_)
 refine G<|SQ<|SR<|ML Z<|Q<|zaH (rest:=[]) zb9 Z<|MI Z<|G<|zak<|zaY<|zaZ [(1,.slice _ _ _),(8,Pp _ _),(21,.slice _ _ _),(22,.int .i64 _)] E4 (fun (i:Nat)=>[(23,.int .i64 (i:Int))]) (fun (i:Nat)=>[]) (fun (i:Nat)=>i ≤ ks.length ∧ zkz fm i (ks.drop i) = zkz fm 0 ks) (fun (i:Nat)=>ks.length - i) (0) V ⟨Nat.zero_le _,Z⟩ ⟨Z,trivial⟩ ?_
 intro i f w V hJ ih2
 refine SR<|Q<|zaN Z Z<|G<|SQ<|zab Z (fun g3=>?_) (fun g3=>?_)
 ·refine zag <| SQ <| zak <| SR <| MI Z ?_
  obtain ⟨bs4,os5,rfl⟩:=Res.rs_some (V.hD _ Q0) O
  refine Q<|zbd zb9 ty5 Z Z O O<|Q<|zae (v:=.int .u8 _) ty5 Z Z (Res.rs_cell (V.hD _ Q0) (zbD (g:=u8C) (d:=0) zxQ Z O))<|AI Z<|AC Z<|NSR<|MC Z<|Q<|zam Z Z<|MB Z<|zau (d:=30) Z (fun g6=>?_) (fun g6=>?_)
  ·refine OM (t := 30) Z (Vb (Dt g6)) Z <| OM (t := 30) Z (Vb (Dt g6)) Z <| OM (t := 30) Z (Vb (Dt g6)) Z <| OM (t := 30) Z (Vb (Dt g6)) Z <| OM (t := 30) Z (Vb (Dt g6)) Z <| OM (t := 30) Z (Vb (Dt g6)) Z <| Q <| zaB (u := .bool _) (Vb (Dt g6)) Z <| G <| zas (Vb (Z : true = _)) <| SR <| MI Z <| AI Z <| AB Z <| G ?_
   refine zaq func133 Z (TP (v:=.int .i64 _) Z) (TP (v:=.bool _) Z) ?_
   exact ⟨(congrArg znD ((zez hob hfm (by simpa using g1)).trans (znE (zut hJ.2 (by omega) (.inl g6))))).symm,V.pure⟩
  refine TK (t:=30) rfl (Vb (Df g6))<|zay (vs:=zbz _ _ _ _ _ _ _ _) zoB rfl rfl rfl (zac (n:=8) (V.objL Q0) _ rfl)<|TK (t:=30) rfl (Vb (Df g6))<|zad (v:=.int .i64 _) rfl<|TK (t:=30) rfl (Vb (Df g6)) (zaE (v1:=zaO _ _ _ _ _ _ _ _) (v2:=.int .i64 _) zxx rfl rfl rfl ((zke fm (by rw [← hfm]; exact zfd op) _ (by omega) _).mono fun v w hp=>?_))
  obtain ⟨rfl,hp⟩:=hp
  replace V:=V.keepc hp
  refine TK (t:=30) Z (Vb (Df g6)) (zao (v1:=.int .u8 _) zue Z Z ((zoc _ _).mono fun v w hp=>?_))
  obtain ⟨rfl,hp⟩:=hp
  replace V:=V.keepc hp
  refine TK (t:=30) Z (Vb (Df g6))<|zad (v:=.int .u8 _) Z<|TK (t:=30) Z (Vb (Df g6))<|zaF Z Z<|Q<|zax (u:=.bool _) (Vb (Df g6)) Z<|G<|zab Z (fun g7=>?_) (fun g7=>?_)
  ·refine SR <| MI Z <| AI Z <| AB Z <| G <| zaq func133 Z (TP (v := .int .i64 _) Z) (TP (v := .bool _) Z) ?_
   exact ⟨(congrArg znD ((zez hob hfm (by simpa using g1)).trans (znE (zut hJ.2 (by omega) (.inr g7))))).symm,V.pure⟩
  refine zag<|zah<|RG<|Q<|zaA Z Z Z zbt<|MI Z<|G<|zaD ?_
  exact ih2 (i + 1) _ w O V (⟨by omega,zwN hJ.2 O (fun h=>h.elim g6 g7)⟩) E4 ⟨(Vi O),trivial⟩
 refine zaK (id:=0) Z<|SR<|ML Z<|Q<|zaH (rest:=[]) zb9 Z<|Q<|zaa zcs Z<|Q<|zaa zhA Z<|Q<|zae (v:=str _) ty9 Z Z (V.cellL Q0 Z)<|Q<|zbb (rest:=[]) ty9 Z<|Q<|zbu Z Z Z zbt<|AI Z<|G<|SQ<|SQ<|RG ?_
 refine MI Z<|Q<|zaN Z Z<|MB Z<|zau (d:=49) Z (fun g8=>?_) (fun g8=>?_)
 ·refine OM (t := 49) Z (Vb (Dt g8)) Z <| OM (t := 49) Z (Vb (Dt g8)) Z <| OM (t := 49) Z (Vb (Dt g8)) Z <| OM (t := 49) Z (Vb (Dt g8)) Z <| OM (t := 49) Z (Vb (Dt g8)) Z <| zaL (t := 54) Z Z <| zaL (t := 54) Z Z <| zaL (t := 54) Z Z <| zaL (t := 54) Z Z <| zaL (t := 54) Z Z <| zaL (t := 54) Z Z <| zaL (t := 54) Z Z <| OM (t := 49) Z (Vb (Dt g8)) Z <| Q <| zaB (u := .bool _) (Vb (Dt g8)) Z <| G ?_
  refine zas (Vb (Z:true = _))<|SR<|ML Z<|Q<|zaH (rest:=[]) zb9 Z<|AI Z<|AB Z<|G<|zaq func133 Z (TP (v:=.int .i64 _) Z) (TP (v:=.bool _) Z) ?_
  exact ⟨(congrArg znD ((zez hob hfm (by simpa using g1)).trans (zjJ (zmn hJ.2 (by omega)) (by simp only [znb]; exact .inl (by omega))))).symm,V.pure⟩
 refine TK (t:=49) Z (Vb (Df g8))<|zaa zcs Z<|TK (t:=49) Z (Vb (Df g8))<|zaa zey Z<|TK (t:=49) Z (Vb (Df g8))<|zae (v:=str _) ty9 Z Z (V.cellL Q0 Z)<|TK (t:=49) Z (Vb (Df g8))<|zdo Z Z<|TK (t:=49) Z (Vb (Df g8))<|zad (v:=.bool _) Z<|zau (d:=54) Z (fun g9=>?_) (fun g9=>?_)
 ·have hrp : 0 < fm.rest.length := List.length_pos_iff.2 g9
  refine TK (t:=54) Z (Vb (Dt g9))<|zad (v:=.int .i64 _) Z<|TK (t:=54) Z (Vb (Dt g9))<|zaa zcs Z<|TK (t:=54) Z (Vb (Dt g9))<|zaa zey Z<|TK (t:=54) Z (Vb (Dt g9))<|zae (v:=str _) ty9 Z Z (V.cellL Q0 Z)<|TK (t:=54) Z (Vb (Dt g9)) (zbb (rest:=[]) ty9 Z ?_)
  first | refine TK (t:=54) rfl (Vb (Dt g9)) (zhO rfl rfl O O rfl ?_) | refine TK (t:=54) rfl (Vb (Dt g9)) (zki rfl rfl O ?_)
  refine TK (t:=54) Z (Vb (Dt g9))<|zaF Z Z<|TK (t:=49) Z (Vb (Df g8))<|zaB (u:=.bool _) (Vb (Dt g9)) Z<|Q<|zax (u:=.bool _) (Vb (Df g8)) Z<|G<|zaj [(1,.slice _ _ _),(63,.bool _)] E2 fun f=>zab Z (fun g10=>?_) (fun g10=>?_)
  ·refine SR <| ML Z <| Q <| zaH (rest := []) zb9 Z <| AI Z <| AB Z <| G <| zaq func133 Z (TP (v := .int .i64 _) Z) (TP (v := .bool _) Z) ?_
   exact ⟨(congrArg znD ((zez hob hfm (by simpa using g1)).trans (zjJ (zmn hJ.2 (by omega)) (by simp only [znb]; exact .inr ⟨g9,g10⟩)))).symm,V.pure⟩
  refine zag<|SR<|AI Z<|AB Z<|G<|zaq func133 Z (TP (v:=.int .i64 _) Z) (TP (v:=.bool _) Z) ?_
  exact ⟨(congrArg znD ((zez hob hfm (by simpa using g1)).trans (ziZ (zmn hJ.2 (by omega)) (by simp only [znb]; exact fun h=>h.elim (by omega) (fun h=>g10 h.2))))).symm,V.pure⟩
 refine OM (t:=54) Z (Vb (Df g9)) Z<|OM (t:=54) Z (Vb (Df g9)) Z<|OM (t:=54) Z (Vb (Df g9)) Z<|OM (t:=54) Z (Vb (Df g9)) Z<|OM (t:=54) Z (Vb (Df g9)) Z<|OM (t:=54) Z (Vb (Df g9)) Z<|OM (t:=54) Z (Vb (Df g9)) Z<|TK (t:=49) Z (Vb (Df g8))<|zax (u:=.bool _) (Vb (Df g9)) Z<|Q<|zax (u:=.bool _) (Vb (Df g8)) Z<|G<|zaj [(1,.slice _ _ _),(63,.bool _)] E2 fun f=>zal (Vb (Z:false = _))<|zag<|SQ<|RG ?_
 refine AI Z<|AB Z<|G<|zaq func133 Z (TP (v:=.int .i64 _) Z) (TP (v:=.bool _) Z) ?_
 exact ⟨(congrArg znD ((zez hob hfm (by simpa using g1)).trans (ziZ (zmn hJ.2 (by omega)) (by simp only [znb]; exact fun h=>h.elim (by omega) (fun h=>g9 h.1))))).symm,V.pure⟩
end Go.SK
namespace Go.SK
open Go Go.Proofs Go.Proofs.Tryz
theorem zys:zaG prog 99:=⟨f99,_,func99,Kr,rfl⟩
theorem zyv:zaG prog 49:=⟨f49,_,func49,Kr,rfl⟩
theorem zhB:FldF prog 110 2 2:=FldF.of (n:=0) Kr
theorem zxy:zaG prog 152:=⟨f152,_,func152,Kr,rfl⟩
theorem zyw:zaG prog 48:=⟨f48,_,func48,Kr,rfl⟩
open Go.RowKit
theorem zj6 (s:Tx) (w:World):Ret prog 48 #[str s] w (fun v w'=>v = .agg #[.int .u8 1,str s,.int .i64 0] ∧ St w NoM [] [] w'):=by
 refine zav (args:=[str s]) func48 Z Z Z ?_
 have V:=St.init w
 refine SR<|Q<|zar V zbw fun w b2 V=>NSR<|MS Z<|Q (zaf zbw zgA (.c (v:=.int .u8 _) Z (h:=(.c (v:=str _) Z (h:=.nil)))) ?_)
 refine Q (SO (v:=zbZ _ _ _) V zbw Z Z .u0 fun w V=>?_)
 refine G<|zai func48 Z (zat (vs:=ziS _ _ _) Z zbw Z Z (zac (n:=3) (V.objL Q0) _ Z)) ?_
 exact ⟨Z,V.pure⟩
theorem zw1 (u:Nat) (hu:u < 4294967296) (w:World) (hG:LxG.holds w):Ret prog 99 #[.int .u32 (u:Int)] w (fun v w'=>v = .agg #[.int .u8 2,str (Lib.decDigits u),.int .i64 0] ∧ St w NoM [] [] w'):=by
 refine zav (args:=[.int .u32 (u:Int)]) func99 Z Z Z ?_
 have V:St w NoM [] [LxG] w:=St.init_Ds (by simp only [List.forall_mem_cons]; exact ⟨hG,fun _ h=>absurd h List.not_mem_nil⟩)
 refine SR<|Q<|zar V zbw fun w b2 V=>NSR<|MU Z ?_
 first | refine Q (zaS za9 zca rfl zgL ?_) | refine Q (za0 za9 zca rfl ?_)
 refine Q<|zaE (v1:=.int .u64 _) (v2:=.int .i64 _) zyt Z Z Z<|Ret.det (zpy u hu _ (V.hD _ Q0)) V fun w V=>Q (zaf zbw zgA (.c (v:=.int .u8 _) Z (h:=(.c (v:=str _) Z (h:=.nil)))) ?_)
 refine Q (SO (v:=zbZ _ _ _) V zbw Z Z .u0 fun w V=>?_)
 refine G<|zai func99 Z (zat (vs:=ziS _ _ _) Z zbw Z Z (zac (n:=3) (V.objL Q0) _ Z)) ?_
 exact ⟨Z,V.pure⟩
theorem zpr (n:Int) (h0:0 ≤ n) (h1:n < 4294967296) (w:World) (hG:LxG.holds w):Ret prog 99 #[.int .u32 n] w (fun v w'=>v = .agg #[.int .u8 2,str (zdW n),.int .i64 0] ∧ St w NoM [] [] w'):=by
 obtain ⟨u,rfl⟩:=Int.eq_ofNat_of_zero_le h0
 exact zw1 u O w hG
theorem zn6 (u:Nat) (hu:u < 4294967296) (w:World) (hG:LxG.holds w):Ret prog 49 #[.int .u32 (u:Int)] w (fun v w'=>v = .agg #[.int .u8 3,str (Lib.decDigits u),.int .i64 0] ∧ St w NoM [] [] w'):=by
 refine zav (args:=[.int .u32 (u:Int)]) func49 Z Z Z ?_
 have V:St w NoM [] [LxG] w:=St.init_Ds (by simp only [List.forall_mem_cons]; exact ⟨hG,fun _ h=>absurd h List.not_mem_nil⟩)
 refine SR<|Q<|zar V zbw fun w b2 V=>NSR<|MU Z ?_
 first | refine Q (zaS za9 zca rfl zgL ?_) | refine Q (za0 za9 zca rfl ?_)
 refine Q<|zaE (v1:=.int .u64 _) (v2:=.int .i64 _) zyt Z Z Z<|Ret.det (zpy u hu _ (V.hD _ Q0)) V fun w V=>Q (zaf zbw zgA (.c (v:=.int .u8 _) Z (h:=(.c (v:=str _) Z (h:=.nil)))) ?_)
 refine Q (SO (v:=zbZ _ _ _) V zbw Z Z .u0 fun w V=>?_)
 refine G<|zai func49 Z (zat (vs:=ziS _ _ _) Z zbw Z Z (zac (n:=3) (V.objL Q0) _ Z)) ?_
 exact ⟨Z,V.pure⟩
theorem zg3 (n:Int) (h0:0 ≤ n) (h1:n < 4294967296) (w:World) (hG:LxG.holds w):Ret prog 49 #[.int .u32 n] w (fun v w'=>v = .agg #[.int .u8 3,str (zdW n),.int .i64 0] ∧ St w NoM [] [] w'):=by
 obtain ⟨u,rfl⟩:=Int.eq_ofNat_of_zero_le h0
 exact zn6 u O w hG
theorem zw2 (op:Int) (k:Nat) (a:ArgP) (w:World) (hG:LxG.holds w) (h0:0 ≤ a.n) (h1:a.n < 4294967296) (hop:0 ≤ op) (hk:k ≤ 9000000000000000000):Ret prog 100 #[.int .u16 op,.int .i64 (k:Int),.agg #[.int .u8 a.kind,.int .u32 a.n,str a.s]] w (fun v w'=>v = .agg #[.int .u8 (zg7 (zaJ (zaW op) (k:Int)) a).kind,str (zg7 (zaJ (zaW op) (k:Int)) a).text,.int .i64 (zg7 (zaJ (zaW op) (k:Int)) a).at_] ∧ St w NoM [] [] w'):=by
 refine zav (args:=[.int .u16 op,.int .i64 (k:Int),.agg #[.int .u8 a.kind,.int .u32 a.n,str a.s]]) func100 Z Z Z ?_
 have V:St w NoM [] [LxG] w:=St.init_Ds (by simp only [List.forall_mem_cons]; exact ⟨hG,fun _ h=>absurd h List.not_mem_nil⟩)
 refine SR<|Q<|zbi (v:=zeK _ _ _) V Z Z fun w b5 V=>Q<|zar V zbw fun w b6 V=>G<|SQ<|SR<|Q<|zaa zdE Z<|Q<|zae (v:=.int .u8 _) ty5 Z Z (V.cellL Q1 Z)<|G<|zak<|SR<|Q (zam Z Z ?_)
 refine AB Z<|G<|zab Z (fun g1=>?_) (fun g1=>?_)
 ·refine SR <| Q <| zaa zdD Z <| Q <| zae (v := .int .u32 _) za9 Z Z (V.cellL Q1 Z) <| Q <| zao (v1 := .int .u32 _) zys Z Z <| Ret.det (zpr a.n h0 h1 _ (V.hD _ Q0)) V fun w V => Q (SO (v := zbZ _ _ _) V zbw Z Z .u0 fun w V => ?_)
  refine G<|zai func100 Z (zat (vs:=ziS _ _ _) Z zbw Z Z (zac (n:=3) (V.objL Q0) _ Z)) ?_
  rw [argK1 g1]
  exact ⟨Z,V.pure⟩
 refine SR<|Q<|zam Z Z<|AB Z<|G<|zab Z (fun g2=>?_) (fun g2=>?_)
 ·refine SR <| Q <| zaa zdD Z <| Q <| zae (v := .int .u32 _) za9 Z Z (V.cellL Q1 Z) <| Q <| zao (v1 := .int .u32 _) zyv Z Z <| Ret.det (zg3 a.n h0 h1 _ (V.hD _ Q0)) V fun w V => Q (SO (v := zbZ _ _ _) V zbw Z Z .u0 fun w V => ?_)
  refine G<|zai func100 Z (zat (vs:=ziS _ _ _) Z zbw Z Z (zac (n:=3) (V.objL Q0) _ Z)) ?_
  rw [argK2 g1 g2]
  exact ⟨Z,V.pure⟩
 refine SR<|Q<|zam Z Z<|AB Z<|G<|zab Z (fun g3=>?_) (fun g3=>?_)
 ·refine SR <| Q <| zaa zhB Z <| Q <| zae (v := str _) ty9 Z Z (V.cellL Q1 Z) <| Q (zaf zbw zgA (.c (v := .int .u8 _) Z (h := (.c (v := str _) Z (h := .nil)))) ?_)
  refine Q (SO (v:=zbZ _ _ _) V zbw Z Z .u0 fun w V=>?_)
  refine G<|zai func100 Z (zat (vs:=ziS _ _ _) Z zbw Z Z (zac (n:=3) (V.objL Q0) _ Z)) ?_
  rw [argK3 g1 g2 g3]
  exact ⟨Z,V.pure⟩
 refine zag<|zah<|SQ<|zaC [] V (bs:=[0,0,3,0,8,31,63,127,127,255,1023]) (ds:=[some 27,some 28,some 29,some 30,some 31,some 32,some 26,some 33,some 34,some 7,some 8]) ⟨Kr,Kr,Kr⟩ (fun tab4=>?_)
 refine DO tab4 1 (fun _ _ _ hc=>zad (v:=.int .u16 _) (hc.old Z Z Z) hc.z)<|DO tab4 2 (fun _ _ _ hc=>zad (v:=.int .i64 _) (hc.old Z Z Z) hc.z)<|DO tab4 3 (fun _ _ _ hc=>zaE (v1:=.int .u16 _) (v2:=.int .i64 _) zqE Z (hc.d 0 Z Z Z Z) (hc.d 1 Z Z Z Z) ((zg4 op hop (k:Int) O _).mono fun v w hp=>⟨[],⟨hp.1,Z⟩,hc.st.keepc hp.2⟩))<|DO tab4 4 (fun _ _ _ hc=>zaa zdD (hc.old (v:=Pp _ _) Z Z Z) hc.z)<|DO tab4 5 (fun _ _ _ hc=>zae (v:=.int .u32 _) za9 Z (hc.d 3 Z Z Z Z) (hc.st.cellL (Ar Q1) Z) hc.z)<|DO tab4 6 (fun _ _ _ hc=>zaE (v1:=.int .u8 _) (v2:=.int .u32 _) zxy Z (hc.d 2 Z Z Z Z) (hc.d 4 Z Z Z Z) ((zls (o:=namesL.find? (enN (zaJ (zaW op) (k:Int)) a.n)) Z (zc1 _ _).1 (zc1 _ _).2 _).mono fun v w hp=>⟨[],⟨hp.1,Z⟩,hc.st.keepc hp.2⟩))<|DO tab4 7 (fun _ _ _ hc=>zad (v:=.tuple #[str _,.bool _]) (hc.d 5 Z Z Z Z) hc.z)<|DO tab4 8 (fun _ _ _ hc=>zbM (v:=str _) (hc.d 6 Z Z Z Z) Z hc.z)<|DO tab4 9 (fun _ _ _ hc=>zbM (v:=.bool _) (hc.d 6 Z Z Z Z) Z hc.z)<|DO tab4 10 (fun _ _ _ hc=>zap (v:=str _) (hc.d 7 Z Z Z Z) hc.z)<|RunD.fin zaw tab4 V Z (fun f5 w R8 hs6 hd7 hr9 V=>?_)
 obtain ⟨h27_,r0⟩:=hd7 0 27 rfl rfl
 obtain ⟨h28_,r1⟩:=hd7 1 28 rfl rfl
 obtain ⟨h29_,r2⟩:=hd7 2 29 rfl rfl
 obtain ⟨h30_,r3⟩:=hd7 3 30 rfl rfl
 obtain ⟨h31_,r4⟩:=hd7 4 31 rfl rfl
 obtain ⟨h32_,r5⟩:=hd7 5 32 rfl rfl
 obtain ⟨h26_,r6⟩:=hd7 6 26 rfl rfl
 obtain ⟨h33_,r7⟩:=hd7 7 33 rfl rfl
 obtain ⟨h34_,r8⟩:=hd7 8 34 rfl rfl
 obtain ⟨h7_,r9⟩:=hd7 9 7 rfl rfl
 simp only [rg10,Fc,Fn,Mc,Mn,r0,r1,r2,r3,r4,r5,r6,r7,r8,r9,Na,An,Ca] at V
 refine zaz (sl:=[(6,Pp _ _),(7,str _),(34,.bool _)]) ⟨(hs6 6 Z).trans Z,h7_,h34_,trivial⟩ ?_
 clear hs6 hd7 hr9 tab4
 refine AB Z<|G<|zaj [(6,Pp _ _),(7,str _)] E2 fun f=>SR<|MS Z<|Q<|zao (v1:=str _) zyw Z Z<|Ret.det (zj6 _ _) V fun w V=>Q (SO (v:=zbZ _ _ _) V zbw Z Z .u0 fun w V=>?_)
 refine G<|zai func100 Z (zat (vs:=ziS _ _ _) Z zbw Z Z (zac (n:=3) (V.objL Q0) _ Z)) ?_
 rw [argK4 g1 g2 g3]
 exact ⟨Z,V.pure⟩
theorem zi4 (b:Nat) (ao:Option Addr) (cp:Nat) (l:List TokL) (bm:Nat) (ms:List TokL) (w:World) (hR:(VsR 65 72 3 zeJ b ao cp l).holds w) (hM:(Res.row bm 72 (ms.flatMap zeJ)).holds w) (hRM:Apart (VsR 65 72 3 zeJ b ao cp l) (Res.row bm 72 (ms.flatMap zeJ))) (hl:(l.length + ms.length) * 32 ≤ 140737488355328):Ret prog 98 #[.slice (some ⟨bm,0,none⟩) ms.length ms.length,.pointer (some ⟨b,0,none⟩)] w (fun v w'=>∃ ao' cp',v = .tuple #[] ∧ St w (VsR 65 72 3 zeJ b ao cp l).foot [VsR 65 72 3 zeJ b ao' cp' (l ++ ms)] [] w'):=by
 refine zav (args:=[.slice (some ⟨bm,0,none⟩) ms.length ms.length,.pointer (some ⟨b,0,none⟩)]) func98 Z Z Z ?_
 have V:St w (VsR 65 72 3 zeJ b ao cp l).foot [VsR 65 72 3 zeJ b ao cp l] [Res.row bm 72 (ms.flatMap zeJ)] w:=St.enter1 hR (by simp only [List.forall_mem_cons]; exact ⟨hM,fun _ h=>absurd h List.not_mem_nil⟩) (by simp only [List.forall_mem_cons]; exact ⟨hRM,fun _ h=>absurd h List.not_mem_nil⟩)
 replace V:St _ _ [_,_] _ _:=V.unpack
 have hml:(ms.flatMap zeJ).length = ms.length * 3:=zdV (es:=3) zcP ms
 have hmo:(ms.flatMap zeJ).all zeu = true:=zfX (fun _=>rfl) _
 refine RG<|Q<|zae (v:=.slice _ _ _) zfI rfl rfl (V.cellL Q0 rfl)<|ML rfl<|Q<|zaP (news:=ms.flatMap zeJ) V zfI zbw rfl rfl .u1 rfl rfl hml (zac (n:=ms.length * 3) (V.objD Q0) _ (by rw [List.drop_zero,← hml,List.take_length])) hmo rfl (by omega) fun w aoN cpN V=>Q (SO (v:=.slice _ _ _) V zfI rfl rfl .u1 fun w V=>?_)
 refine G<|zdA func98 Z  ?_
 replace V:=V.pick (.c .u1 (.k1 .nil))
 exact ⟨_,_,Z,VsR.app V.noD⟩
end Go.SK
namespace Go.SK
open Go Go.Proofs Go.Proofs.Tryz
theorem zwu:zaG prog 98:=⟨f98,_,func98,Kr,rfl⟩
theorem ent100:zaG prog 100:=⟨f100,_,func100,Kr,rfl⟩
open Go.RowKit
theorem zuI {op:Int} {fm:FormL} (hfm:zaW op = fm) (k:Nat) (a:ArgP) (w:World) (hG:LxG.holds w) (h0:0 ≤ a.n) (h1:a.n < 4294967296) (hop:0 ≤ op) (hk:k ≤ 9000000000000000000):Ret prog 100 #[.int .u16 op,.int .i64 (k:Int),.agg #[.int .u8 a.kind,.int .u32 a.n,str a.s]] w (fun v w'=>v = .agg #[.int .u8 (zg7 (zaJ fm (k:Int)) a).kind,str (zg7 (zaJ fm (k:Int)) a).text,.int .i64 (zg7 (zaJ fm (k:Int)) a).at_] ∧ St w NoM [] [] w'):=by
 subst hfm; exact zw2 op k a w hG h0 h1 hop hk
theorem zj7 (p:InstP) (w:World) (hG:LxG.holds w) (hA0:(Res.rargs p).holds w) (hu:p.L.U32) (hop:0 ≤ p.op) (hsm:(p.args.map zaT).sum ≤ 900000000):Ret prog 50 #[.agg #[.int .u16 p.op,.int .u32 p.ty,.int .u32 p.res,.slice p.ao p.args.length p.cap]] w (fun v w'=>∃ ao cp,v = .slice ao (zhT p.L).length cp ∧ St w NoM [Res.sl ao (zhT p.L).length cp 72 3 ((zhT p.L).flatMap zeJ)] [] w'):=by
 refine zav (args:=[.agg #[.int .u16 p.op,.int .u32 p.ty,.int .u32 p.res,.slice p.ao p.args.length p.cap]]) func50 Z Z Z ?_
 have V:St w NoM [] [LxG,Res.rargs p] w:=St.init_Ds (by simp only [List.forall_mem_cons]; exact ⟨hG,hA0,fun _ h=>absurd h List.not_mem_nil⟩)
 have htR:(zoH p.L).length ≤ 2:=by unfold zoH; split <;> simp
 refine SR<|Q<|zbi (v:=zbf _ _ _ _ _ _) V Z Z fun w b1 V=>AL Z<|NSR<|Q<|zaa zfW Z<|Q (zae (v:=.int .u16 _) zlC Z Z (V.cellL Q0 Z) ?_)
 obtain ⟨fm,hfm⟩:∃ x,zaW p.op = x:=⟨_,rfl⟩
 obtain ⟨ob,hob⟩:∃ x,(zc6 p.op).isSome = x:=⟨_,rfl⟩
 refine Q<|zao (v1:=.int .u16 _) zr0 Z Z<|Ret.det (zi5 hop hfm hob _) V fun w V=>Q<|zad (v:=.tuple #[zaO _ _ _ _ _ _ _ _,.bool _]) Z<|Q<|Ex (zaO _ _ _ _ _ _ _ _) Z Z<|Q<|Ex (.bool _) Z Z<|Q<|zar V zb5 fun w b3 V=>Q (SO (v:=zaO _ _ _ _ _ _ _ _) V zb5 Z Z .u0 fun w V=>?_)
 refine AB Z<|NSR<|Q<|zar V zfI fun w b5 V=>G<|SQ ?_
 replace V:=V.pushNil 72 3
 replace V:=V.pick (.c .u1 (.k3 .nil))
 replace V:St _ _ (VsR 65 72 3 zeJ b5 none 0 ([]:List TokL) :: _) _ _:=St.pack (L1:=[_,_]) V
 have htl:=fun k=>zvF (i:=p.L) (fm:=fm) (k:=k) hu
 have hal:p.L.args.length ≤ 900000000:=Nat.le_trans (zh7 _) hsm
 refine RG<|Q<|zbQ<|Q<|zap (v:=.func _ _ _) rfl<|G<|SQ<|zfr (L1:=[_]) [(1,Pp _ _),(3,Pp _ _),(5,Pp _ _),(6,.func _ _ _)] V E4 (fun (qq:Option Addr × Nat)=>[]) (fun (qq:Option Addr × Nat)=>[VsR 65 72 3 zeJ b5 qq.1 qq.2 (zoH p.L)]) (fun (qq:Option Addr × Nat)=>True) (fun ⟨aq,cq⟩ f w V hJ2=>?_) (fun cut1=>?_)
 replace V:St _ _ ([VsR 65 72 3 zeJ b5 aq cq (zoH p.L)] ++ [_,_]) _ _:=V
 replace hJ2:True:=hJ2
 skip
 ·refine SR <| Q <| zad (v := .func _ _ _) Z <| Q <| zaa zqx Z <| Q <| zae (v := str _) ty9 Z Z (V.cellL Q1 Z) <| Q <| zao (v1 := str _) zyw Z Z <| Ret.det (zj6 _ _) V fun w V => Q (zaI (z0 := [.int .u8 0, str [], .int .i64 0]) V zfI zbw Z Z Kr (.c (v := zbZ _ _ _) Z (h := .nil)) fun w b29 V => ?_)
  replace V:=V.pick (.c .u1 (.k3 .nil))
  refine Q (zdx (v1:=.slice _ _ _) rfl rfl (zd1 zwu ((zi4 b5 aq cq (zoH p.L) b29 [⟨1,fm.name,0⟩] _ (V.hL _ Q0) (V.hL _ Q1) ((List.pairwise_cons.1 V.sep).1 _ Q0) (by simp only [List.length_append,List.length_cons,List.length_nil]; have h0:=htl 0; rw [zeP] at h0; have h1:=htR; omega)).mono fun v w hp=>?_)))
  obtain ⟨aq4,cq5,rfl,hp⟩:=hp
  replace V:St _ _ (_ :: _ :: _) _ _:=V.call1 hp
  replace V:=V.drop .u1
  refine G<|SQ<|zfr (L1:=[_]) [(1,Pp _ _),(5,Pp _ _),(6,.func _ _ _)] V E3 (fun (qq:Option Addr × Nat)=>[]) (fun (qq:Option Addr × Nat)=>[VsR 65 72 3 zeJ b5 qq.1 qq.2 (zrc p.L)]) (fun (qq:Option Addr × Nat)=>True) (fun ⟨aq,cq⟩ f w V hJ7=>?_) (fun cut6=>?_)
  replace V:St _ _ ([VsR 65 72 3 zeJ b5 aq cq (zrc p.L)] ++ [_,_]) _ _:=V
  replace hJ7:True:=hJ7
  skip
  ·refine SQ <| SR <| Q <| zaa zbA rfl <| Q <| zae (v := .slice _ _ _) zc4 rfl rfl (V.cellL Q2 rfl) <| Q <| zaH (rest := []) zc4 rfl <| MI rfl <| G <| zak <| zaY <| zaZ [(1, Pp _ _), (5, Pp _ _), (6, .func _ _ _), (40, .slice _ _ _), (41, .int .i64 _)] E5 (fun (qq : Nat × Option Addr × Nat) => [(42, .int .i64 (qq.1 : Int))]) (fun (qq : Nat × Option Addr × Nat) => [VsR 65 72 3 zeJ b5 qq.2.1 qq.2.2 (zsF p.L fm qq.1)]) (fun (qq : Nat × Option Addr × Nat) => qq.1 ≤ p.args.length) (fun (qq : Nat × Option Addr × Nat) => p.args.length - qq.1) ((0, aq, cq)) (by (try dsimp only); rw [zeP]; exact V) (Nat.zero_le _) ⟨rfl, trivial⟩ ?_
   intro ⟨i,aq,cq⟩ f w V hJ ih9
   replace V:St _ _ ([VsR 65 72 3 zeJ b5 aq cq (zsF p.L fm i)] ++ [_,_]) _ _:=V
   replace hJ:i ≤ p.args.length:=hJ
   refine za6 (sl:=[(42,.int .i64 (i:Int))]) ⟨Z,trivial⟩<|SR<|Q<|zaN Z Z<|G<|SQ<|zab Z (fun g10=>?_) (fun g10=>?_)
   ·have hi : i < p.L.args.length := by show i < p.args.length; omega
    have han:=hu.args _ (zbJ (d:=zeroA) hi)
    refine zag<|SQ<|zak<|SR<|MI Z<|Q<|zaR zc4 za1 (V.hD _ Q1) Z Z O O<|Q<|zay (vs:=zgJ _ _ _) za1 Z Z Z (Res.rs2_cells (m:=3) (V.hD _ Q1) _ (zbO (g:=zdX) (d:=zeroA) zeA _ _ O))<|Q<|zar V za1 fun w b8 V=>AI Z<|Q (SO (v:=zeK _ _ _) V za1 Z Z .u0 fun w V=>?_)
    refine NR<|Q<|zad (v:=.func _ _ _) Z<|Q<|zaa zfW Z<|Q<|zae (v:=.int .u16 _) zlC Z Z (V.cellL Q3 Z)<|MI Z<|Q<|zay (vs:=zgJ _ _ _) za1 Z Z Z (zac (n:=3) (V.objL Q0) _ Z)<|Q<|zbj (v1:=.int .u16 _) (v2:=.int .i64 _) (v3:=zeK _ _ _) ent100 Z Z Z Z<|Ret.det (zuI hfm i (p.args.getD ((i:Int).toNat) zeroA) _ (V.hD _ Q0) han.1 han.2 hop O) V fun w V=>Q (zaI (z0:=[.int .u8 0,str [],.int .i64 0]) V zfI zbw Z Z Kr (.c (v:=zbZ _ _ _) Z (h:=.nil)) fun w b53 V=>?_)
    replace V:=V.pick (.c .u2 (.k4 .nil))
    refine Q (zdx (v1:=.slice _ _ _) rfl rfl (zd1 zwu ((zi4 b5 aq cq (zsF p.L fm i) b53 [zg7 (zaJ fm (i:Int)) (p.L.args.getD i zeroA)] _ (V.hL _ Q0) (V.hL _ Q1) ((List.pairwise_cons.1 V.sep).1 _ Q0) (by have h2:=htl i; simp only [List.length_append,List.length_cons,List.length_nil]; have h0:=htl 0; rw [zeP] at h0; have h1:=htR; omega)).mono fun v w hp=>?_)))
    obtain ⟨aq11,cq12,rfl,hp⟩:=hp
    replace V:St _ _ (_ :: _ :: _) _ _:=V.call1 hp
    replace V:=V.drop .u1
    refine G<|zah<|RG<|Q<|zaA Z Z Z zbt<|MI Z<|G<|zaD ?_
    replace V:=V.pick (.k1 (.c .u1 (.c .u1 .nil)))
    exact ih9 ((i + 1,aq11,cq12)) _ w ((by (try dsimp only); omega)) (by (try dsimp only); rw [zs4 (i:=p.L) (fm:=fm) hi]; exact V) ((by (try dsimp only); omega)) E5 ⟨(Vi (by (try dsimp only); omega)),trivial⟩
   have hi:i = p.L.args.length:=by show i = p.args.length; omega
   refine zaK (id:=0) Z<|SQ ?_
   rw [zvG hfm hi] at V
   replace V:=V.pick (.k3 .nil)
   replace V:St _ _ (_ :: _ :: _) _ _:=V.unpack
   refine RG<|Q<|zae (v:=.slice _ _ _) zfI Z Z (V.cellL Q0 Z)<|AL Z<|G<|zai func50 Z (TP (v:=.slice _ _ _) Z) ?_
   replace V:=V.pick (.c .u1 .nil)
   exact ⟨_,_,Z,V.noD⟩
  ·refine SR <| Q <| zaa zfi Z <| Q <| zae (v := .bool _) ty4 Z Z (V.cellL Q1 Z) <| G <| zaQ Z (fun g13 => ?_) (fun g13 => ?_)
   ·refine RG <| Q <| zad (v := .func _ _ _) Z <| Q <| zaa zeH Z <| Q <| zae (v := .int .u32 _) za9 Z Z (V.cellL Q2 Z) <| Q <| zao (v1 := .int .u32 _) zys Z Z <| Ret.det (zpr p.ty hu.ty.1 hu.ty.2 _ (V.hD _ Q0)) V fun w V => Q (zaI (z0 := [.int .u8 0, str [], .int .i64 0]) V zfI zbw Z Z Kr (.c (v := zbZ _ _ _) Z (h := .nil)) fun w b37 V => ?_)
    replace V:=V.pick (.c .u1 (.k3 .nil))
    refine Q (zdx (v1:=.slice _ _ _) rfl rfl (zd1 zwu ((zi4 b5 aq4 cq5 ((zoH p.L) ++ [⟨1,fm.name,0⟩]) b37 [idK p.ty] _ (V.hL _ Q0) (V.hL _ Q1) ((List.pairwise_cons.1 V.sep).1 _ Q0) (by simp only [List.length_append,List.length_cons,List.length_nil]; have h0:=htl 0; rw [zeP] at h0; have h1:=htR; omega)).mono fun v w hp=>?_)))
    obtain ⟨aq14,cq15,rfl,hp⟩:=hp
    replace V:St _ _ (_ :: _ :: _) _ _:=V.call1 hp
    replace V:=V.drop .u1
    refine G ?_
    exact cut6 ((aq14,cq15)) _ w ((by rw [zvE (i:=p.L) hfm g13]; exact V)) (trivial) E3 trivial
   refine zag ?_
   exact cut6 ((aq4,cq5)) _ w ((by rw [zxV (i:=p.L) hfm g13]; exact V)) (trivial) E3 trivial
 ·refine SR <| Q <| zaa zdC Z <| Q <| zae (v := .bool _) ty4 Z Z (V.cellL Q1 Z) <| G <| zaQ Z (fun g16 => ?_) (fun g16 => ?_)
  ·refine RG <| Q <| zad (v := .func _ _ _) Z <| Q <| zaa zfV Z <| Q <| zae (v := .int .u32 _) za9 Z Z (V.cellL Q2 Z) <| Q <| zao (v1 := .int .u32 _) zys Z Z <| Ret.det (zpr p.res hu.res.1 hu.res.2 _ (V.hD _ Q0)) V fun w V => Q (zaf zbw zgA (.c (v := .int .u8 _) Z (h := (.c (v := str _) Z (h := .nil)))) ?_)
   refine Q (zaI (z0:=[.int .u8 0,str [],.int .i64 0,.int .u8 0,str [],.int .i64 0]) V zfI zbw Z Z Kr (.c (v:=zbZ _ _ _) Z (h:=(.c (v:=zbZ _ _ _) Z (h:=.nil)))) fun w b23 V=>?_)
   replace V:=V.pick (.c .u1 (.k3 .nil))
   refine Q (zdx (v1:=.slice _ _ _) rfl rfl (zd1 zwu ((zi4 b5 none 0 [] b23 [idK p.res,⟨5,[61],0⟩] _ (V.hL _ Q0) (V.hL _ Q1) ((List.pairwise_cons.1 V.sep).1 _ Q0) (by simp only [List.length_append,List.length_cons,List.length_nil]; have h0:=htl 0; rw [zeP] at h0; have h1:=htR; omega)).mono fun v w hp=>?_)))
   obtain ⟨aq17,cq18,rfl,hp⟩:=hp
   replace V:St _ _ (_ :: _ :: _) _ _:=V.call1 hp
   replace V:=V.drop .u1
   refine G ?_
   exact cut1 ((aq17,cq18)) _ w ((by rw [zvB (i:=p.L) hfm g16]; exact V)) (trivial) E4 trivial
  refine zag ?_
  exact cut1 ((none,0)) _ w ((by rw [zxU (i:=p.L) hfm g16]; exact V)) (trivial) E4 trivial
theorem zj5 (s:List UInt8) (w:World) (hl:s.length ≤ 9000000000000000000):Ret prog 183 #[str s] w (fun v w'=>v = .int .i64 ((s.length / 4 + 1:Nat):Int) ∧ St w NoM [] [] w'):=by
 refine zav (args:=[str s]) func183 Z Z Z ?_
 have V:=St.init w
 refine SR<|AI Z<|NSR<|MS Z<|Q (zbb (rest:=[]) ty9 Z ?_)
 first | refine Q (zmt rfl rfl O O rfl zbt ?_) | refine Q (zpO rfl rfl O ?_)
 refine Q<|zaA Z Z Z zbt<|AI Z<|G<|zai func183 Z (TP (v:=.int .i64 _) Z) ?_
 exact ⟨Vi O,V.pure⟩
end Go.SK
namespace Go.SK
open Go Go.Proofs Go.Proofs.Tryz
theorem zud:zaG prog 183:=⟨f183,_,func183,Kr,rfl⟩
open Go.RowKit
theorem zpq (s:List UInt8) (w:World) (hl:s.length ≤ 100000000000000):Ret prog 182 #[str s] w (fun v w'=>∃ ro rc,v = .tuple #[.slice ro (zcr s).length rc,.int .i64 (zcI s)] ∧ St w NoM [Res.sl ro (zcr s).length rc 22 1 ((zcr s).flatMap zci)] [] w'):=by
 refine zav (args:=[str s]) func182 Z Z Z ?_
 have V:=St.init w
 refine SR<|AL Z<|AI Z<|G<|SQ<|SR<|MS Z<|Q<|zbb (rest:=[]) ty9 Z<|MI Z<|G<|zak<|zaY<|zaZ [(0,str _),(8,.int .i64 _)] E2 (fun (i:Nat)=>[(9,.int .i64 (i:Int))]) (fun (i:Nat)=>[]) (fun (i:Nat)=>i ≤ s.length ∧ ∀ r,r < i → s.getD r 0 ≠ 0) (fun (i:Nat)=>s.length - i) (0) V ⟨Nat.zero_le _,fun r hr=>absurd hr O⟩ ⟨Z,trivial⟩ ?_
 intro i f w V hJ ih1
 refine SR<|Q<|zaN Z Z<|G<|SQ<|zab Z (fun g2=>?_) (fun g2=>?_)
 ·refine zag <| SQ <| zak <| SR <| MI Z <| AI Z <| NSR <| MS Z <| MI Z <| Q <| za5 ty9 Z Z O O <| Q <| zam Z Z <| G ?_
  refine zab Z (fun g3=>?_) (fun g3=>?_)
  ·refine SR <| AL Z <| AI Z <| G <| zaq func182 Z (TP (v := .slice _ _ _) Z) (TP (v := .int .i64 _) Z) ?_
   replace V:=V.pick .nil
   have he:=znc O g3 hJ.2
   rw [zfe (by rw [he]; decide),he]
   exact ⟨none,0,Z,(V.pushNil 22 1).noD⟩
  refine zag<|zah<|RG<|Q<|zaA Z Z Z zbt<|MI Z<|G<|zaD ?_
  exact ih1 (i + 1) _ w O V (⟨by omega,zcy hJ.2 (byte1 g3)⟩) E2 ⟨(Vi O),trivial⟩
 refine zaK (id:=0) Z<|SQ<|SR<|MS Z<|Q<|zao (v1:=str _) zud Z Z<|Ret.det (zj5 s _ O) V fun w V=>Q<|zbI Z Z<|G<|zab Z (fun g4=>?_) (fun g4=>?_)
 ·refine SR <| AL Z <| AI Z <| G <| zaq func182 Z (TP (v := .slice _ _ _) Z) (TP (v := .int .i64 _) Z) ?_
  replace V:=V.pick .nil
  have he:=zlU (s:=s) (fun r hr=>hJ.2 r O) O
  rw [zfe (by rw [he]; decide),he]
  exact ⟨none,0,Z,(V.pushNil 22 1).noD⟩
 refine zag<|SR<|MS Z<|Q<|zao (v1:=str _) zud Z Z<|Ret.det (zj5 s _ O) V fun w V=>Q (zfw (k:=s.length / 4 + 1) V zcn za9 Z Z Z De O O fun w bC V=>?_)
 rw [zt2] at V
 refine AL Z<|G<|SQ<|SR<|MS Z<|Q<|zbb (rest:=[]) ty9 Z<|MI Z<|G<|zak<|zaY<|zaZ [(0,str _),(5,.slice _ _ _),(24,.int .i64 _)] E3 (fun (i:Nat)=>[(25,.int .i64 (i:Int))]) (fun (i:Nat)=>[Res.sl (some ⟨bC,0,none⟩) (s.length / 4 + 1) (s.length / 4 + 1) 22 1 ((zbV (zdL s i)).flatMap zci)]) (fun (i:Nat)=>i ≤ s.length) (fun (i:Nat)=>s.length - i) (0) V (Nat.zero_le _) ⟨Z,trivial⟩ ?_
 intro i f w V hK ih5
 have hLl:=zfY (s:=s) (i:=i) hK
 refine SR<|Q<|zaN Z Z<|G<|SQ<|zab Z (fun g6=>?_) (fun g6=>?_)
 ·have hlow := zwo (s := s) (i := i) O
  refine zag<|SQ<|zak<|SR<|MI Z<|AI Z<|G<|zaC [] V (bs:=[0,0,2,7,15,0,0,96,224,0,512,1536,4064,8191,16383,32767]) (ds:=[some 28,some 29,some 30,some 31,some 32,some 33,some 34,some 35,some 36,some 37,some 38,some 39,some 40,some 41,some 42,none]) ⟨Kr,Kr,Kr⟩ (fun tab7=>?_)
  refine DO tab7 1 (fun _ _ _ hc=>zad (v:=.slice _ _ _) (hc.old Z Z Z) hc.z)<|DO tab7 2 (fun _ _ _ hc=>zad (v:=.int .i64 _) (hc.old Z Z Z) hc.z) ?_
  first | refine DO tab7 3 (fun _ _ _ hc=>zmt (hc.d 1 rfl rfl rfl rfl) rfl O O rfl zbt hc.z) ?_ | refine DO tab7 3 (fun _ _ _ hc=>zpO (hc.d 1 rfl rfl rfl rfl) rfl O hc.z) ?_
  refine DO tab7 4 (fun _ _ _ hc=>zbd zcn za9 (hc.d 0 Z Z Z Z) (hc.d 2 Z Z Z Z) O O hc.z)<|DO tab7 5 (fun _ _ _ hc=>zae (v:=.int .u32 _) za9 Z (hc.d 3 Z Z Z Z) (Res.sl_cell (hc.st.hL _ (Ar Q0)) (zbD (g:=zci) (d:=0) zcC Z O)) hc.z)<|DO tab7 6 (fun _ _ _ hc=>zad (v:=str _) (hc.old Z Z Z) hc.z)<|DO tab7 7 (fun _ _ _ hc=>zad (v:=.int .i64 _) (hc.old Z Z Z) hc.z)<|DO tab7 8 (fun _ _ _ hc=>za5 ty9 (hc.d 5 Z Z Z Z) (hc.d 6 Z Z Z Z) O O hc.z) ?_
  first | refine DO tab7 9 (fun _ _ _ hc=>zaS ty5 za9 (hc.d 7 rfl rfl rfl rfl) zsa hc.z) ?_ | refine DO tab7 9 (fun _ _ _ hc=>zaS ty5 za9 (hc.d 7 rfl rfl rfl rfl) (zfG _) hc.z) ?_ | refine DO tab7 9 (fun _ _ _ hc=>za0 ty5 za9 (hc.d 7 rfl rfl rfl rfl) hc.z) ?_
  refine DO tab7 10 (fun _ _ _ hc=>zad (v:=.int .i64 _) (hc.old Z Z Z) hc.z) ?_
  first | refine DO tab7 11 (fun _ _ _ hc=>zhO (hc.d 9 rfl rfl rfl rfl) rfl O O rfl hc.z) ?_ | refine DO tab7 11 (fun _ _ _ hc=>zki (hc.d 9 rfl rfl rfl rfl) rfl O hc.z) ?_
  refine DO tab7 12 (fun _ _ _ hc=>zdp Z (hc.d 10 Z Z Z Z) Z zbt hc.z)<|DO tab7 13 (fun _ _ _ hc=>zq0 (c:=((s.getD i 0).toNat:Int) * 256 ^ (i % 4)) (hc.d 8 Z Z Z Z) (hc.d 11 Z Z Z Z) O (by show _ ≤ 32; omega) (zvO (s.getD i 0) i) hc.z)<|RunD.fin zaw tab7 V Z (fun f8 w R11 hs9 hd10 hr12 V=>?_)
  obtain ⟨h28_,r0⟩:=hd10 0 28 rfl rfl
  obtain ⟨h29_,r1⟩:=hd10 1 29 rfl rfl
  obtain ⟨h30_,r2⟩:=hd10 2 30 rfl rfl
  obtain ⟨h31_,r3⟩:=hd10 3 31 rfl rfl
  obtain ⟨h32_,r4⟩:=hd10 4 32 rfl rfl
  obtain ⟨h33_,r5⟩:=hd10 5 33 rfl rfl
  obtain ⟨h34_,r6⟩:=hd10 6 34 rfl rfl
  obtain ⟨h35_,r7⟩:=hd10 7 35 rfl rfl
  obtain ⟨h36_,r8⟩:=hd10 8 36 rfl rfl
  obtain ⟨h37_,r9⟩:=hd10 9 37 rfl rfl
  obtain ⟨h38_,r10⟩:=hd10 10 38 rfl rfl
  obtain ⟨h39_,r11⟩:=hd10 11 39 rfl rfl
  obtain ⟨h40_,r12⟩:=hd10 12 40 rfl rfl
  simp only [rg13,Fc,Fn,Mc,Mn,r0,r1,r2,r3,r4,r5,r6,r7,r8,r9,r10,r11,r12,Na,An,Ca] at V
  refine zaz (sl:=[(0,str _),(5,.slice _ _ _),(24,.int .i64 _),(25,.int .i64 _),(28,.slice _ _ _),(30,.int .i64 _),(32,.int .u32 _),(40,.int .u32 _)]) ⟨(hs9 0 Z).trans Z,(hs9 5 Z).trans Z,(hs9 24 Z).trans Z,(hs9 25 Z).trans Z,h28_,h30_,h32_,h40_,trivial⟩ ?_
  clear hs9 hd10 hr12 tab7
  refine Q<|zsC (a:=(zbV (zdL s i)).getD (i / 4) 0) (m:=8 * (i % 4)) (q:=((s.getD i 0).toNat:Int)) (c:=(zbV (zdL s i)).getD (i / 4) 0 + ((s.getD i 0).toNat:Int) * 256 ^ (i % 4)) rfl rfl hlow.1 hlow.2.1 (by rw [zts (by omega)]) (by omega) rfl hlow.2.2<|Q<|zbd zcn za9 rfl rfl (by omega) (by omega)<|Q<|zfv (v:=.int .u32 _) V za9 rfl rfl rfl rfl rfl .u0 (by simp only [List.length_cons,List.length_nil]; omega) fun w V=>G<|zah<|RG<|Q<|zaA rfl rfl rfl zbt<|MI rfl<|G<|zaD ?_
  exact ih5 (i + 1) _ w (by omega) (by (try dsimp only); rw [← zt3 (s:=s) (i:=i) (by omega)]; exact V) (by omega) E3 ⟨(Vi (by omega)),trivial⟩
 have hi:i = s.length:=by omega
 subst hi
 have hpd:zdL s s.length = zhr s:=rfl
 rw [hpd] at V
 refine zaK (id:=2) Z<|SR<|ML Z<|AL Z<|AI Z<|G<|zaq func182 Z (TP (v:=.slice _ _ _) Z) (TP (v:=.int .i64 _) Z) ?_
 replace V:=V.pick (.k1 .nil)
 have he:=zrC (s:=s) (fun r hr=>hJ.2 r O) O
 have hpl:(zbV (zhr s)).length = s.length / 4 + 1:=by rw [zb3,zgh]; omega
 rw [zh4 he,he,hpl]
 exact ⟨_,_,Z,V.noD⟩
end Go.SK
namespace Go.SK
open Go Go.Proofs Go.Proofs.Tryz
theorem zov:TyF prog 85 (.slice 62) 1 24 [.slice none 0 0]:=zbp Kr Kr
open Go.RowKit
theorem zis (l:List RawP) (ao:Option Addr) (cp:Nat) (w:World) (hA:(Res.rs ao l.length 2 (l.flatMap zkW)).holds w) (hl:l.length ≤ 35184372088832) (hla:∀ r ∈ l,r.ws.length ≤ 35184372088832):Ret prog 107 #[.slice ao l.length cp] w (fun v w'=>v = cntV (zgB 5 0 (l.map ziy)) ∧ St w NoM [] [] w'):=by
 refine zav (args:=[.slice ao l.length cp]) func107 Z Z Z ?_
 have V:St w NoM [] [Res.rs ao l.length 2 (l.flatMap zkW)] w:=St.init_D hA
 clear hA
 refine SR<|AI Z<|Q<|zar V zaV fun w b3 V=>NSR<|AI Z<|G<|SQ<|SR<|ML Z<|Q<|zaH (rest:=[]) zov Z<|MI Z ?_
 refine G<|zak<|zaY<|zaZ [(3,Pp _ _),(7,.slice _ _ _),(8,.int .i64 _)] E3 (fun (q:Nat × Nat)=>[(4,.int .i64 (q.2:Int)),(9,.int .i64 (q.1:Int))]) (fun (q:Nat × Nat)=>[]) (fun (q:Nat × Nat)=>q.1 ≤ l.length ∧ q.2 ≤ 1048576 ∧ zgB 5 0 (l.map ziy) = zgB q.2 q.1 ((l.map ziy).drop q.1)) (fun (q:Nat × Nat)=>l.length - q.1) ((0,5)) V ⟨Nat.zero_le _,by decide,Z⟩ E2 ?_
 intro ⟨i,n⟩ f w V hJ ih1
 replace V:St _ _ ([] ++ [_]) _ _:=V
 replace hJ:i ≤ l.length ∧ n ≤ 1048576 ∧ zgB 5 0 (l.map ziy) = zgB n i ((l.map ziy).drop i):=hJ
 refine za6 (sl:=[(4,.int .i64 (n:Int)),(9,.int .i64 (i:Int))]) E2<|SR<|Q<|zaN Z Z<|G<|SQ<|zab Z (fun g2=>?_) (fun g2=>?_)
 ·have hlen := hla _ (zbJ (d := zbG) (i := i) O)
  have hidx:(l.getD ((i:Int).toNat) zbG).ws.length = (l.getD i zbG).ws.length:=rfl
  refine zag<|SQ<|zak<|SR<|MI Z<|Q<|zaR zov zcK (V.hD _ Q0) Z Z O O<|Q<|zay (vs:=lHL _ _ _ _) zcK Z Z Z (Res.rs2_cells (m:=2) (V.hD _ Q0) _ (zbO (g:=zkW) (d:=zbG) ziL _ _ O))<|Q<|zar V zcK fun w b6 V=>AI Z<|Q (SO (v:=gHL _ _ _ _) V zcK Z Z .u0 fun w V=>?_)
  refine NSR<|MI Z<|Q<|zaa zeb Z<|Q<|zae (v:=.slice _ _ _) zcn Z Z (V.cellL Q0 Z)<|Q<|zaH (rest:=[]) zcn Z<|Q<|zaA Z Z Z zbt<|Q<|zaA Z Z Z zbt<|AI Z<|G<|zak<|SR<|Q (zaa zeb Z ?_)
  refine Q<|zae (v:=.slice _ _ _) zcn Z Z (V.cellL Q0 Z)<|Q<|zaH (rest:=[]) zcn Z<|Q<|zbh Z Z<|AB Z<|G<|zab Z (fun g3=>?_) (fun g3=>?_)
  ·refine SR <| MI Z <| Q (zaf zaV zbW (.c (v := .int .i64 _) Z (h := (.c (v := .int .i64 _) Z (h := .nil)))) ?_)
   refine AI Z<|Q (SO (v:=gII _ _) V zaV Z Z .u1 fun w V=>?_)
   refine G<|zaq func107 Z (TP (v:=.int .i64 _) Z) (zat (vs:=lII _ _) Z zaV Z Z (zac (n:=2) (V.objL Q1) _ Z)) ?_
   rw [hJ.2.2,zur (by omega) (by omega)]
   exact ⟨Z,V.pure⟩
  refine SR<|MI Z<|Q<|zbI Z Z<|AB Z<|G<|zaj [(3,Pp _ _),(4,.int .i64 _),(5,.int .i64 _),(7,.slice _ _ _),(8,.int .i64 _),(9,.int .i64 _),(27,.bool _)] E7 fun f=>zab Z (fun g4=>?_) (fun g4=>?_)
  ·refine SR <| MI Z <| Q (zaf zaV zbW (.c (v := .int .i64 _) Z (h := (.c (v := .int .i64 _) Z (h := .nil)))) ?_)
   refine AI Z<|Q (SO (v:=gII _ _) V zaV Z Z .u1 fun w V=>?_)
   refine G<|zaq func107 Z (TP (v:=.int .i64 _) Z) (zat (vs:=lII _ _) Z zaV Z Z (zac (n:=2) (V.objL Q1) _ Z)) ?_
   rw [hJ.2.2,zuq (by omega) (by omega) (by omega)]
   exact ⟨Z,V.pure⟩
  refine zag<|zah<|zah<|RG<|Q<|zaA Z Z Z zbt<|MI Z<|G<|zaD ?_
  replace V:=V.pick (.c .u1 .nil)
  exact ih1 ((i + 1,n + 1 + (l.getD i zbG).ws.length)) _ w (by (try dsimp only); omega) V (⟨by (try dsimp only); omega,by (try dsimp only); omega,by (try dsimp only); rw [hJ.2.2,zwM (by omega) (by omega) (by omega)]⟩) E3 ⟨(Vi (by (try dsimp only); omega)),(Vi (by (try dsimp only); omega)),trivial⟩
 obtain rfl:i = l.length:=by omega
 refine zaK (id:=0) Z<|SR<|MI Z<|Q (zaf zaV zbW .nil ?_)
 refine AI Z<|Q (SO (v:=gII _ _) V zaV Z Z .u0 fun w V=>?_)
 refine G<|zaq func107 Z (TP (v:=.int .i64 _) Z) (zat (vs:=lII _ _) Z zaV Z Z (zac (n:=2) (V.objL Q0) _ Z)) ?_
 rw [hJ.2.2,zyE]
 exact ⟨Z,V.pure⟩
end Go.SK
namespace Go.SK
open Go Go.Proofs Go.Proofs.Tryz
theorem zxG:zaG prog 107:=⟨f107,_,func107,Kr,rfl⟩
open Go.RowKit
theorem zuV (l:List RawP) (ao:Option Addr) (cp:Nat) (w:World) (hA:(Res.rs ao l.length 2 (l.flatMap zkW)).holds w) (hl:l.length ≤ 35184372088832) (hla:∀ r ∈ l,r.ws.length ≤ 35184372088832):Ret prog 94 #[.slice ao l.length cp] w (fun v w'=>v = .tuple #[.int .i64 (zgB 5 0 (l.map ziy)).1,.int .i64 (zgB 5 0 (l.map ziy)).2.1] ∧ St w NoM [] [] w'):=by
 refine zav (args:=[.slice ao l.length cp]) func94 Z Z Z ?_
 have V:St w NoM [] [Res.rs ao l.length 2 (l.flatMap zkW)] w:=St.init_D hA
 clear hA
 refine SR<|AI Z<|AI Z<|NSR<|ML Z<|Q<|zao (v1:=.slice _ _ _) zxG Z Z<|Ret.det (zis _ _ _ _ (V.hD _ Q0) hl hla) V fun w V=>Q<|zad (v:=.tuple #[.int .i64 _,gII _ _]) Z<|Q<|Ex (.int .i64 _) Z Z<|Q<|Ex (gII _ _) Z Z<|Q<|zar V zaV fun w b5 V=>AI Z<|Q (SO (v:=gII _ _) V zaV Z Z .u0 fun w V=>?_)
 refine G<|SQ<|zaC [] V (bs:=[0,0,2,1,15]) (ds:=[some 11,some 12,some 13,some 2,some 3]) ⟨Kr,Kr,Kr⟩ (fun tab1=>?_)
 refine DO tab1 1 (fun _ _ _ hc=>zad (v:=.int .i64 _) (hc.old Z Z Z) hc.z)<|DO tab1 2 (fun _ _ _ hc=>zaa zbB (hc.old (v:=Pp _ _) Z Z Z) hc.z)<|DO tab1 3 (fun _ _ _ hc=>zae (v:=.int .i64 _) zdQ Z (hc.d 1 Z Z Z Z) (hc.st.cellL (Ar Q0) Z) hc.z)<|DO tab1 4 (fun _ _ _ hc=>zap (v:=.int .i64 _) (hc.d 0 Z Z Z Z) hc.z)<|RunD.fin zaw tab1 V Z (fun f2 w R5 hs3 hd4 hr6 V=>?_)
 obtain ⟨h11_,r0⟩:=hd4 0 11 rfl rfl
 obtain ⟨h12_,r1⟩:=hd4 1 12 rfl rfl
 obtain ⟨h13_,r2⟩:=hd4 2 13 rfl rfl
 obtain ⟨h2_,r3⟩:=hd4 3 2 rfl rfl
 simp only [rg4,Fc,Fn,Mc,Mn,r0,r1,r2,r3,Na,An,Ca] at V
 refine zaz (sl:=[(2,.int .i64 _),(13,.int .i64 _)]) ⟨h2_,h13_,trivial⟩ ?_
 clear hs3 hd4 hr6 tab1
 refine AI Z<|G<|zaq func94 Z (TP (v:=.int .i64 _) Z) (TP (v:=.int .i64 _) Z) ?_
 exact ⟨Z,V.pure⟩
end Go.SK
namespace Go.SK
open Go Go.Proofs Go.Proofs.Tryz
theorem zmP:zdm prog 62 [(0,1),(1,1)]:=⟨zbm prog 62,Kr,fun w=>Kr⟩
open Go.RowKit
theorem zmr (n Y:Int) (w:World):Ret prog 137 #[.int .u32 n,.int .u32 Y] w (fun v w'=>v = .int .i64 (idE n Y) ∧ St w NoM [] [] w'):=by
 refine zav (args:=[.int .u32 n,.int .u32 Y]) func137 Z Z Z ?_
 have V:=St.init w
 refine SR<|AI Z<|G<|SQ<|SR<|MU Z<|Q<|zam Z Z<|MB Z<|zau (d:=7) Z (fun g1=>?_) (fun g1=>?_)
 ·refine OM (t := 7) Z (Vb (Dt g1)) Z <| OM (t := 7) Z (Vb (Dt g1)) Z <| OM (t := 7) Z (Vb (Dt g1)) Z <| Q <| zaB (u := .bool _) (Vb (Dt g1)) Z <| G <| zas (Vb (Z : true = _)) <| SR <| AI Z <| G <| zai func137 Z (TP (v := .int .i64 _) Z) ?_
  exact ⟨Vi (by unfold idE; rw [if_pos (by omega)]),V.pure⟩
 refine TK (t:=7) Z (Vb (Df g1))<|zad (v:=.int .u32 _) Z<|TK (t:=7) Z (Vb (Df g1))<|zad (v:=.int .u32 _) Z<|TK (t:=7) Z (Vb (Df g1))<|zbh Z Z<|Q<|zax (u:=.bool _) (Vb (Df g1)) Z<|G<|zab Z (fun g2=>?_) (fun g2=>?_)
 ·refine SR <| AI Z <| G <| zai func137 Z (TP (v := .int .i64 _) Z) ?_
  exact ⟨Vi (by unfold idE; rw [if_pos (by omega)]),V.pure⟩
 refine zag<|SR<|AI Z<|G<|zai func137 Z (TP (v:=.int .i64 _) Z) ?_
 exact ⟨Vi (by unfold idE; rw [if_neg (by omega)]),V.pure⟩
theorem zlw (c n:Int) (h0:0 ≤ c) (h1:c ≤ 255) (w:World):Ret prog 140 #[.int .u8 c,.int .u32 n] w (fun v w'=>v = .int .i64 (zgX c n) ∧ St w NoM [] [] w'):=by
 refine zav (args:=[.int .u8 c,.int .u32 n]) func140 Z Z Z ?_
 have V:=St.init w
 obtain ⟨o,ho⟩:∃ o,namesL.find? (enN c n) = o:=⟨_,rfl⟩
 refine SR<|AI Z<|G<|SQ<|SR<|MC Z<|MU Z<|Q<|zaE (v1:=.int .u8 _) (v2:=.int .u32 _) zxy Z Z Z<|Ret.det (zls ho h0 h1 _) V fun w V=>Q<|zad (v:=.tuple #[str _,.bool _]) Z<|Q<|Ex (str _) Z Z<|Q<|Ex (.bool _) Z Z<|AS Z<|AB Z ?_
 refine NSR<|MB Z<|Q<|zaU Z<|G<|zaQ Z (fun g1=>?_) (fun g1=>?_)
 ·refine SR <| AI Z <| G <| zai func140 Z (TP (v := .int .i64 _) Z) ?_
  exact ⟨Vi (by unfold zgX; rw [ho,if_neg (by simpa using g1)]),V.pure⟩
 refine zag<|SR<|AI Z<|G<|zai func140 Z (TP (v:=.int .i64 _) Z) ?_
 exact ⟨Vi (by unfold zgX; rw [ho,if_pos (by simpa using g1)]),V.pure⟩
theorem zsn {op:Int} {ks:List Int} {fa:Int} {fb:Bool} {n:Nat} (hfit:ze0 op ks = (fa,fb)) (hn:n = ks.length) (h0:0 ≤ op) (ao:Option Addr) (cp:Nat) (w:World) (hA:(Res.rs ao n 1 (ks.flatMap u8C)).holds w) (hlen:n ≤ 9000000000000000):Ret prog 133 #[.int .u16 op,.slice ao n cp] w (fun v w'=>v = .tuple #[.int .i64 fa,.bool fb] ∧ St w NoM [] [] w'):=by
 subst hn
 exact (zod op h0 ks ao cp w hA (by omega)).mono fun v w' h=>⟨h.1.trans (by rw [hfit]),h.2⟩
theorem zih (fm:FormL) (hf:FOk fm) (l:List ArgP) (ao:Option Addr) (cp:Nat) (w:World) (hA:(Res.rs ao l.length 3 (l.flatMap zdX)).holds w) (hl:l.length ≤ 9000000000000):Ret prog 78 #[.agg #[.int .u16 fm.op,str fm.name,.bool fm.ty,.bool fm.res,str fm.fixed,str fm.rest,.int .i64 fm.most,.int .u8 fm.part],.slice ao l.length cp] w (fun v w'=>v = .int .i64 (zdG fm.op l) ∧ St w NoM [] [] w'):=by
 refine zav (args:=[.agg #[.int .u16 fm.op,str fm.name,.bool fm.ty,.bool fm.res,str fm.fixed,str fm.rest,.int .i64 fm.most,.int .u8 fm.part],.slice ao l.length cp]) func78 Z Z Z ?_
 have V:St w NoM [] [Res.rs ao l.length 3 (l.flatMap zdX)] w:=St.init_D hA
 clear hA
 obtain ⟨fa,fb,hfit⟩:∃ fa fb,ze0 fm.op (l.map ArgP.kind) = (fa,fb):=⟨_,_,rfl⟩
 refine SR<|Q<|zbi (v:=zaO _ _ _ _ _ _ _ _) V Z Z fun w b2 V=>AI Z<|NSR<|AL Z<|G<|SQ<|SR<|ML Z<|Q<|zaH (rest:=[]) zc4 Z<|MI Z ?_
 refine G<|zak<|zaY ?_
 replace V:=V.pushNil 5 1
 refine zaZ [(2,Pp _ _),(10,.slice _ _ _),(11,.int .i64 _)] E3 (fun (q:Nat × Option Addr × Nat)=>[(5,.slice q.2.1 q.1 q.2.2),(12,.int .i64 (q.1:Int))]) (fun (q:Nat × Option Addr × Nat)=>[Res.sl q.2.1 q.1 q.2.2 5 1 (((l.map ArgP.kind).take q.1).flatMap u8C)]) (fun (q:Nat × Option Addr × Nat)=>q.1 ≤ l.length) (fun (q:Nat × Option Addr × Nat)=>l.length - q.1) ((0,none,0)) V (Nat.zero_le _) E2 ?_
 intro ⟨i,aq,cq⟩ f w V hJ ih1
 replace V:St _ _ ([Res.sl aq i cq 5 1 (((l.map ArgP.kind).take i).flatMap u8C)] ++ [_]) _ _:=V
 replace hJ:i ≤ l.length:=hJ
 refine za6 (sl:=[(5,.slice aq i cq),(12,.int .i64 (i:Int))]) E2<|SR<|Q<|zaN Z Z<|G<|SQ<|zab Z (fun g2=>?_) (fun g2=>?_)
 ·have hidx : l.getD ((i : Int)).toNat zeroA = l.getD i zeroA := rfl
  refine zag<|SQ<|zak<|SR<|Q<|zaR zc4 za1 (V.hD _ Q0) Z Z O O<|Q<|zay (vs:=zgJ _ _ _) za1 Z Z Z (Res.rs2_cells (m:=3) (V.hD _ Q0) _ (zbO (g:=zdX) (d:=zeroA) zeA _ _ O))<|Q<|zar V za1 fun w b7 V=>Q (SO (v:=zeK _ _ _) V za1 Z Z .u0 fun w V=>?_)
  refine NR<|ML Z<|Q<|zaa zdE Z<|Q<|zae (v:=.int .u8 _) ty5 Z Z (V.cellL Q0 Z)<|Q (zaI (z0:=[.int .u8 0]) V zb9 ty5 Z Z Kr (.c (v:=.int .u8 _) Z (h:=.nil)) fun w b19 V=>?_)
  refine Q (zaP (news:=[.int .u8 _]) V zb9 ty5 Z Z .u2 Z Z Z (zac (n:=1) (V.objL Q0) _ Z) Z Z O fun w ao3 cp4 V=>?_)
  replace V:=V.drop .u1
  refine AL Z<|G<|zah<|RG<|Q<|zaA Z Z Z zbt<|MI Z<|G<|zaD ?_
  have e1:((l.map ArgP.kind).take i).flatMap u8C ++ [.int .u8 (l.getD i zeroA).kind] = ((l.map ArgP.kind).take (i + 1)).flatMap u8C:=by rw [zce (l:=l.map ArgP.kind) (d:=zeroA.kind) (by rw [List.length_map]; omega),zdJ _ _ (by omega),List.flatMap_append]; rfl
  replace V:=V.pick (.k1 (.c .u1 .nil))
  exact ih1 ((i + 1,ao3,cp4)) _ w (by (try dsimp only); omega) (by (try dsimp only); rw [← e1]; exact V) (by (try dsimp only); omega) E3 ⟨rfl,(Vi (by (try dsimp only); omega)),trivial⟩
 obtain rfl:i = l.length:=by omega
 have hlk:l.length = (l.map ArgP.kind).length:=by rw [List.length_map]
 rw [List.take_of_length_le (by omega)] at V
 refine zaK (id:=0) Z<|SQ<|SR<|Q<|zaa zgo Z<|Q<|zae (v:=.int .u16 _) zlC Z Z (V.cellL Q1 Z)<|ML Z<|Q<|zaE (v1:=.int .u16 _) (v2:=.slice _ _ _) zxC Z Z Z<|Ret.det (zsn hfit hlk hf.op.1 _ _ _ (Res.rs_of_sl (V.hL _ Q0)) O) V fun w V=>Q<|zad (v:=.tuple #[.int .i64 _,.bool _]) Z<|Q<|Ex (.int .i64 _) Z Z<|Q<|Ex (.bool _) Z Z<|AI Z<|AB Z<|G<|SQ ?_
 refine RG<|MB Z<|Q<|zaU Z<|G<|zaQ Z (fun g5=>?_) (fun g5=>?_)
 ·refine SR <| AI Z <| G <| zai func78 Z (TP (v := .int .i64 _) Z) ?_
  exact ⟨Vi (by unfold zdG; rw [hfit,if_neg (by simpa using g5)]),V.pure⟩
 refine zag<|SR<|AI Z<|G<|zai func78 Z (TP (v:=.int .i64 _) Z) ?_
 exact ⟨Vi (by unfold zdG; rw [hfit,if_pos (by simpa using g5)]),V.pure⟩
end Go.SK
namespace Go.SK
open Go Go.Proofs Go.Proofs.Tryz
theorem zqD:zaG prog 137:=⟨f137,_,func137,Kr,rfl⟩
theorem zxA:zaG prog 140:=⟨f140,_,func140,Kr,rfl⟩
open Go.RowKit
theorem zir {op c:Int} {fm:FormL} {i:Int} (h0:0 ≤ op) (hfm:zaW op = fm) (hc:zaJ fm i = c) (h1:i ≤ 9223372036854775807) (w:World):Ret prog 131 #[.int .u16 op,.int .i64 i] w (fun v w'=>v = .int .u8 c ∧ St w NoM [] [] w'):=by
 subst hfm; subst hc; exact zg4 op h0 i h1 w
theorem zlq {c kd:Int} (hk:zbR c = kd) (w:World):Ret prog 138 #[.int .u8 c] w (fun v w'=>v = .int .u8 kd ∧ St w NoM [] [] w'):=by
 subst hk; exact zoc c w
end Go.SK
namespace Go.SK
open Go Go.Proofs Go.Proofs.Tryz
theorem zyu:zaG prog 78:=⟨f78,_,func78,Kr,rfl⟩
theorem ent146:zaG prog 146:=⟨f146,_,func146,Kr,rfl⟩
open Go.RowKit
theorem zuQ (s:List UInt8) (w:World):Ret prog 146 #[str s,.int .u8 0] w (fun v w'=>v = .int .i64 (zyT s) ∧ St w NoM [] [] w'):=by
 refine zav (args:=[str s,.int .u8 0]) func146 Z Z Z ?_
 have V:=St.init w
 refine SR<|AI Z<|NSR<|MS Z<|MC Z<|Q<|zw8 (v1:=str s) (v2:=.int .u8 0) func193 Kr Kr Kr Kr Z Z Z (run_indexByte_string ⟨s.toArray⟩ 0 _)<|AI Z<|G<|zai func146 Z (TP (v:=.int .i64 _) Z) ?_
 exact ⟨Vi (zma s),V.pure⟩
theorem zoa (s:List UInt8) (w:World):Ret prog 87 #[str s,.int .u8 0] w (fun v w'=>v = .int .i64 (zyT s) ∧ St w NoM [] [] w'):=by
 refine zav (args:=[str s,.int .u8 0]) func87 Z Z Z ?_
 have V:=St.init w
 refine SR<|AI Z<|NSR<|MS Z<|MC Z<|Q<|zaE (v1:=str _) (v2:=.int .u8 _) ent146 Z Z Z<|Ret.det (zuQ _ _) V fun w V=>AI Z<|G<|zai func87 Z (TP (v:=.int .i64 _) Z) ?_
 exact ⟨Z,V.pure⟩
end Go.SK
namespace Go.SK
open Go Go.Proofs Go.Proofs.Tryz
theorem zhz:FldF prog 134 2 9:=FldF.of (n:=0) Kr
theorem zfh:FldF prog 134 3 10:=FldF.of (n:=0) Kr
theorem zxB:zaG prog 136:=⟨f136,_,func136,Kr,rfl⟩
theorem zqv:FldF prog 134 1 8:=FldF.of (n:=0) Kr
theorem ent182:zaG prog 182:=⟨f182,_,func182,Kr,rfl⟩
open Go.RowKit
theorem zqX (bq:Nat) (fm:FormL) (Y:Int) (ao:Option Addr) (cp:Nat) (ws:List Int) (room:Int) (n:Int) (w:World) (hR:(WrC 134 22 bq fm Y ao cp ws room).holds w) (hl:ws.length ≤ 1000000000000) (hr0:0 ≤ room) (hr1:room ≤ 1000000000000):Ret prog 136 #[.pointer (some ⟨bq,0,none⟩),.int .u32 n] w (fun v w'=>∃ ao' cp',St w (WrC 134 22 bq fm Y ao cp ws room).foot [WrC 134 22 bq fm Y ao' cp' (ws ++ [n]) (room + 1)] [] w'):=by
 refine zav (args:=[.pointer (some ⟨bq,0,none⟩),.int .u32 n]) func136 Z Z Z ?_
 have V:St w (WrC 134 22 bq fm Y ao cp ws room).foot [WrC 134 22 bq fm Y ao cp ws room] [] w:=St.enter1 hR (fun d hd=>by cases hd) (fun d hd=>by cases hd)
 replace V:St _ _ [_,_] _ _:=V.unpack
 refine SR<|MP Z<|MP Z<|Q<|zan Z<|Q<|zaa zhz Z<|Q<|zae (v:=.slice _ _ _) zcn Z Z (V.cellL Q0 Z)<|MU Z<|Q (zaI (z0:=[.int .u32 0]) V zcn za9 Z Z Kr (.c (v:=.int .u32 _) Z (h:=.nil)) fun w b10 V=>?_)
 refine Q (zaP (news:=[.int .u32 _]) V zcn za9 Z Z .u2 Z Z Z (zac (n:=1) (V.objL Q0) _ Z) Z Z O fun w ao1 cp2 V=>?_)
 replace V:=V.drop .u1
 refine Q<|zan Z<|Q<|zaa zhz Z<|Q (SO (v:=.slice _ _ _) V zcn Z Z .u1 fun w V=>?_)
 refine NR<|MP Z<|Q<|zan Z<|Q<|zaa zfh Z<|Q<|zae (v:=.int .i64 _) ty3 Z Z (V.cellL Q1 Z)<|Q<|zaA Z Z Z zbt<|Q<|zan Z<|Q<|zaa zfh Z<|Q (SO (v:=.int .i64 _) V ty3 Z Z .u1 fun w V=>?_)
 refine G<|zdA func136 Z  ?_
 replace V:=V.pick (.c .u1 (.k1 .nil))
 have e1:ws.length + 1 = (ws ++ [n]).length:=by simp
 have e2:ws.flatMap zci ++ [.int .u32 n] = (ws ++ [n]).flatMap zci:=by simp
 rw [e1,e2] at V
 exact ⟨_,_,(St.pack (L1:=[_,_]) (L2:=[]) V)⟩
theorem zlt (bq:Nat) (fm:FormL) (Y:Int) (ao:Option Addr) (cp:Nat) (ws:List Int) (room:Int) (must:Bool) (n lacks:Int) (hk:lacks ≠ 0) (w:World) (hR:(WrC 134 22 bq fm Y ao cp ws room).holds w) (hl:ws.length ≤ 1000000000000) (hr0:0 ≤ room) (hr1:room ≤ 1000000000000):Ret prog 76 #[.pointer (some ⟨bq,0,none⟩),.bool must,.int .u32 n,.int .i64 lacks] w (fun v w'=>∃ ao' cp' ws' room',v = .int .i64 (idH must n Y lacks) ∧ ((idH must n Y lacks) = 0 → ws' = ws ++ zrF must n ∧ room' = room + b2n must) ∧ ws'.length ≤ ws.length + 1 ∧ 0 ≤ room' ∧ room' ≤ room + 1 ∧ St w (WrC 134 22 bq fm Y ao cp ws room).foot [WrC 134 22 bq fm Y ao' cp' ws' room'] [] w'):=by
 refine zav (args:=[.pointer (some ⟨bq,0,none⟩),.bool must,.int .u32 n,.int .i64 lacks]) func76 Z Z Z ?_
 have V:St w (WrC 134 22 bq fm Y ao cp ws room).foot [WrC 134 22 bq fm Y ao cp ws room] [] w:=St.enter1 hR (fun d hd=>by cases hd) (fun d hd=>by cases hd)
 replace V:St _ _ [_,_] _ _:=V.unpack
 refine SR<|AI Z<|G<|SQ<|zak<|SR<|MB Z<|MU Z<|Q<|zaF Z Z<|Q<|zq1 ty4 Z Z<|AB Z<|G<|zaQ Z (fun g1=>?_) (fun g1=>?_)
 ·refine SR <| MI Z <| AI Z <| G <| zai func76 Z (TP (v := .int .i64 _) Z) ?_
  replace V:=V.pick (.k2 .nil)
  have hE:=ztW (must:=must) (n:=n) (Y:=Y) (e:=lacks) (bne_iff_ne.1 g1)
  rw [hE]
  exact ⟨ao,cp,ws,room,Z,fun h=>absurd h hk,by omega,hr0,by omega,(St.pack (L1:=[_,_]) (L2:=[]) V)⟩
 refine SR<|MB Z<|Q<|zaU Z<|AB Z<|G<|zaQ Z (fun g2=>?_) (fun g2=>?_)
 ·refine SR <| AI Z <| G <| zai func76 Z (TP (v := .int .i64 _) Z) ?_
  replace V:=V.pick (.k2 .nil)
  have hm:must = false:=by simpa using g2
  have hE:=idH_no (must:=must) (n:=n) (Y:=Y) (e:=lacks) (fun hx=>by have hy:=bne_iff_ne.2 hx; rw [g1] at hy; cases hy) hm
  rw [hE]
  exact ⟨ao,cp,ws,room,rfl,fun _=>⟨by rw [zrF,hm]; simp,by rw [b2n,hm]; simp⟩,by omega,hr0,by omega,(St.pack (L1:=[_,_]) (L2:=[]) V)⟩
 refine zag<|zah<|SR<|MP Z<|MU Z ?_
 replace V:=V.pick (.k2 .nil)
 replace V:St _ _ (WrC 134 22 bq fm Y ao cp ws room :: _) _ _:=V.pack (L1:=[_,_])
 refine Q (zaE (v1:=Pp _ _) (v2:=.int .u32 _) zxB Z Z Z ((zqX bq fm Y ao cp ws room _ _ (V.hL _ Q0) hl hr0 hr1).mono fun v w hp=>?_))
 obtain ⟨ao2,cp2,hp⟩:=hp
 replace V:St _ _ (WrC 134 22 bq fm Y ao2 cp2 (ws ++ [n]) (room + 1) :: _) _ _:=V.call1 hp
 replace V:St _ _ (_ :: _ :: _) _ _:=V.unpack
 refine NSR<|MU Z<|MP Z<|Q<|zan Z<|Q<|zaa zqv Z<|Q<|zae (v:=.int .u32 _) za9 Z Z (V.cellL Q0 Z)<|Q<|zaE (v1:=.int .u32 _) (v2:=.int .u32 _) zqD Z Z Z<|Ret.det (zmr _ _ _) V fun w V=>AI Z<|G<|zai func76 Z (TP (v:=.int .i64 _) Z) ?_
 replace V:=V.pick (.k2 .nil)
 have hm:must = true:=by simpa using g2
 have hE:=idH_id (must:=must) (n:=n) (Y:=Y) (e:=lacks) (fun hx=>by have hy:=bne_iff_ne.2 hx; rw [g1] at hy; cases hy) hm
 rw [hE]
 exact ⟨ao2,cp2,ws ++ [n],room + 1,rfl,fun _=>⟨by rw [zrF,hm]; rfl,by rw [b2n,hm]; rfl⟩,by simp,by omega,by omega,(St.pack (L1:=[_,_]) (L2:=[]) V)⟩
theorem zsu (bq:Nat) (fm:FormL) (Y:Int) (ao:Option Addr) (cp:Nat) (ws:List Int) (room:Int) (s:List UInt8) (hs:s.length ≤ 100000000000) (w:World) (hR:(WrC 134 22 bq fm Y ao cp ws room).holds w) (hl:ws.length ≤ 1000000000000) (hr0:0 ≤ room) (hr1:room ≤ 1000000000000):Ret prog 139 #[.pointer (some ⟨bq,0,none⟩),str s] w (fun v w'=>∃ ao' cp' ws' room',v = .int .i64 (zoK s) ∧ ((zoK s) = 0 → ws' = ws ++ zcr s ∧ room' = room + ((s.length / 4 + 1:Nat):Int)) ∧ ws'.length ≤ ws.length + (s.length / 4 + 1) ∧ 0 ≤ room' ∧ room' ≤ room + ((s.length / 4 + 1:Nat):Int) ∧ St w (WrC 134 22 bq fm Y ao cp ws room).foot [WrC 134 22 bq fm Y ao' cp' ws' room'] [] w'):=by
 refine zav (args:=[.pointer (some ⟨bq,0,none⟩),str s]) func139 Z Z Z ?_
 have V:St w (WrC 134 22 bq fm Y ao cp ws room).foot [WrC 134 22 bq fm Y ao cp ws room] [] w:=St.enter1 hR (fun d hd=>by cases hd) (fun d hd=>by cases hd)
 replace V:St _ _ [_,_] _ _:=V.unpack
 have hle:=ztA s
 refine SR<|AI Z<|G<|SQ<|SR<|MS Z<|Q<|zaE (v1:=str _) (v2:=.int .u8 _) ent87 Z Z Z<|Ret.det (zoa s _) V fun w V=>Q<|zbh Z Z<|G<|zab Z (fun g1=>?_) (fun g1=>?_)
 ·refine SR <| AI Z <| G <| zai func139 Z (TP (v := .int .i64 _) Z) ?_
  replace V:=V.pick (.k2 .nil)
  have hE:zoK s = 13:=if_pos (idxZ_neg.1 (by omega))
  rw [hE]
  exact ⟨ao,cp,ws,room,Z,fun h=>absurd h De,by omega,hr0,by omega,(St.pack (L1:=[_,_]) (L2:=[]) V)⟩
 refine zag<|SR<|MS Z<|Q (zao (v1:=str _) ent182 Z Z ((zpq s _ O).mono fun v w hp=>?_))
 obtain ⟨aT,cT,rfl,hp⟩:=hp
 replace V:St _ _ (_ :: _) _ _:=V.call0 hp
 refine Q<|zad (v:=.tuple #[.slice _ _ _,.int .i64 _]) Z<|Q<|Ex (.slice _ _ _) Z Z<|Q<|Ex (.int .i64 _) Z Z<|AL Z<|AI Z<|G<|SQ<|SR<|MI Z<|Q<|zaF Z Z<|G<|zab Z (fun g2=>?_) (fun g2=>?_)
 ·refine SQ <| zaC [] V (bs := [0, 1, 3, 7, 0, 16, 63, 127, 255, 511]) (ds := [some 17, some 18, some 19, some 20, some 21, some 22, some 23, some 24, some 25, none]) ⟨Kr, Kr, Kr⟩ (fun tab3 => ?_)
  refine DO tab3 1 (fun _ _ _ hc=>zad (v:=Pp _ _) (hc.old Z Z Z) hc.z)<|DO tab3 2 (fun _ _ _ hc=>zan (hc.d 0 Z Z Z Z) hc.z)<|DO tab3 3 (fun _ _ _ hc=>zaa zfh (hc.d 1 Z Z Z Z) hc.z)<|DO tab3 4 (fun _ _ _ hc=>zae (v:=.int .i64 _) ty3 Z (hc.d 2 Z Z Z Z) (hc.st.cellL (Ar Q1) Z) hc.z)<|DO tab3 5 (fun _ _ _ hc=>zad (v:=str _) (hc.old Z Z Z) hc.z)<|DO tab3 6 (fun _ _ _ hc=>zao (v1:=str _) zud Z (hc.d 4 Z Z Z Z) ((zj5 s _ O).mono fun v w hp=>⟨[],⟨hp.1,Z⟩,hc.st.keepc hp.2⟩))<|RunD.fin zaw tab3 V Z (fun f4 w R7 hs5 hd6 hr8 V=>?_)
  obtain ⟨h17_,r0⟩:=hd6 0 17 rfl rfl
  obtain ⟨h18_,r1⟩:=hd6 1 18 rfl rfl
  obtain ⟨h19_,r2⟩:=hd6 2 19 rfl rfl
  obtain ⟨h20_,r3⟩:=hd6 3 20 rfl rfl
  obtain ⟨h21_,r4⟩:=hd6 4 21 rfl rfl
  obtain ⟨h22_,r5⟩:=hd6 5 22 rfl rfl
  simp only [rg6,Fc,Fn,Mc,Mn,r0,r1,r2,r3,r4,r5,Na,An,Ca] at V
  refine zaz (sl:=[(17,Pp _ _),(20,.int .i64 _),(22,.int .i64 _)]) ⟨h17_,h20_,h22_,trivial⟩ ?_
  clear hs5 hd6 hr8 tab3
  refine Q<|zaA Z Z Z zbt<|Q<|zan Z<|Q<|zaa zfh Z<|Q (SO (v:=.int .i64 _) V ty3 Z Z .u1 fun w V=>?_)
  refine G<|zaj [] trivial fun f=>SR<|AI Z<|G<|zai func139 Z (TP (v:=.int .i64 _) Z) ?_
  replace V:=V.pick (.c .u1 (.c .u1 .nil))
  have hE:zoK s = 0:=if_neg (fun h=>by have:=idxZ_neg.2 h; omega)
  rw [hE]
  have hT:zcr s = []:=zfe g2
  exact ⟨ao,cp,ws,room + ((s.length / 4 + 1:Nat):Int),rfl,fun _=>⟨by rw [hT]; simp,rfl⟩,by omega,by omega,by omega,(St.pack (L1:=[_,_]) (L2:=[]) V)⟩
 refine zag<|SR<|MP Z<|MP Z<|Q<|zan Z<|Q<|zaa zhz Z<|Q<|zae (v:=.slice _ _ _) zcn Z Z (V.cellL Q1 Z)<|ML Z<|Q<|zc3 V zcn za9 Z Z .u2 Z Z (Res.rs_of_sl (V.hL _ Q0)) (zfX (fun _=>rfl) _) Z O fun w ao2 cp2 V=>Q<|zan Z<|Q<|zaa zhz Z<|Q (SO (v:=.slice _ _ _) V zcn Z Z .u2 fun w V=>?_)
 refine G<|zaj [(0,Pp _ _),(5,.slice _ _ _)] E2 fun f=>SR<|MP Z<|Q<|zan Z<|Q<|zaa zfh Z<|Q<|zae (v:=.int .i64 _) ty3 Z Z (V.cellL Q2 Z)<|ML Z<|Q<|zaH (rest:=[]) zcn Z<|Q<|zaA Z Z Z zbt<|Q<|zan Z<|Q<|zaa zfh Z<|Q (SO (v:=.int .i64 _) V ty3 Z Z .u2 fun w V=>?_)
 refine NSR<|AI Z<|G<|zai func139 Z (TP (v:=.int .i64 _) Z) ?_
 replace V:=V.pick (.c .u2 (.k1 .nil))
 have hE:zoK s = 0:=if_neg (fun h=>by have:=idxZ_neg.2 h; omega)
 rw [hE]
 have hT:=zh3 (Nn g2)
 have e1:ws.length + (zcr s).length = (ws ++ zcr s).length:=by simp
 have e2:ws.flatMap zci ++ (zcr s).flatMap zci = (ws ++ zcr s).flatMap zci:=by simp
 rw [e1,e2] at V
 exact ⟨ao2,cp2,ws ++ zcr s,room + ((zcr s).length:Int),rfl,fun _=>⟨rfl,by rw [hT]⟩,by rw [List.length_append]; omega,by omega,by omega,(St.pack (L1:=[_,_]) (L2:=[]) V)⟩
end Go.SK
namespace Go.SK
open Go Go.Proofs Go.Proofs.Tryz
theorem zwl:FldF prog 134 0 0:=FldF.of (n:=7) Kr
theorem ent139:zaG prog 139:=⟨f139,_,func139,Kr,rfl⟩
open Go.RowKit
theorem zuY (bq:Nat) (fm:FormL) (Y:Int) (ao:Option Addr) (cp:Nat) (ws:List Int) (room:Int) (k:Nat) (hk:k ≤ 9000000000000000) (a:ArgP) (hs:a.s.length ≤ 100000000000) (c:Int) (hfm:zaW fm.op = fm) (hc:zaJ fm (k:Int) = c) (w:World) (hR:(WrC 134 22 bq fm Y ao cp ws room).holds w) (hl:ws.length ≤ 1000000000000) (hr0:0 ≤ room) (hr1:room ≤ 1000000000000):Ret prog 77 #[.pointer (some ⟨bq,0,none⟩),.int .i64 (k:Int),.agg #[.int .u8 a.kind,.int .u32 a.n,str a.s]] w (fun v w'=>∃ ao' cp' ws' room',v = .int .i64 (zbv c a Y) ∧ ((zbv c a Y) = 0 → ws' = ws ++ zr7 a ∧ room' = room + (zaT a:Int)) ∧ ws'.length ≤ ws.length + zaT a ∧ 0 ≤ room' ∧ room' ≤ room + (zaT a:Int) ∧ St w (WrC 134 22 bq fm Y ao cp ws room).foot [WrC 134 22 bq fm Y ao' cp' ws' room'] [] w'):=by
 refine zav (args:=[.pointer (some ⟨bq,0,none⟩),.int .i64 (k:Int),.agg #[.int .u8 a.kind,.int .u32 a.n,str a.s]]) func77 Z Z Z ?_
 have V:St w (WrC 134 22 bq fm Y ao cp ws room).foot [WrC 134 22 bq fm Y ao cp ws room] [] w:=St.enter1 hR (fun d hd=>by cases hd) (fun d hd=>by cases hd)
 replace V:St _ _ [_,_] _ _:=V.unpack
 have hf:FOk fm:=hfm ▸ zfd fm.op
 have hop:=hf.op
 have hcb:0 ≤ c ∧ c ≤ 255:=hc ▸ zc1 fm _
 obtain ⟨kd,hkd⟩:∃ kd,zbR c = kd:=⟨_,rfl⟩
 refine SR<|Q<|zbi (v:=zeK _ _ _) V Z Z fun w b5 V=>AI Z<|NSR<|MP Z<|Q<|zan Z<|Q<|zaa zwl Z<|Q<|zaa zgo Z<|Q<|zae (v:=.int .u16 _) zlC Z Z (V.cellL Q1 Z)<|MI Z<|Q<|zaE (v1:=.int .u16 _) (v2:=.int .i64 _) zqE Z Z Z<|Ret.det (zir hop.1 hfm hc O _) V fun w V=>AC Z ?_
 refine NSR<|Q<|zaa zdE Z<|Q<|zae (v:=.int .u8 _) ty5 Z Z (V.cellL Q0 Z)<|Q<|zam Z Z<|AB Z<|G<|SQ<|zak<|SQ<|zaC [] V (bs:=[0,1,3,7,15,7,39,127,255,511,1023,2047,4095,8191,16383,32767,65535,131071,262143,524287,1048575,2097151,4194303,8388607,16777215,33554431,67108863]) (ds:=[some 20,some 21,some 22,some 23,some 24,some 25,some 26,some 27,some 28,some 29,some 30,some 31,some 32,some 33,some 34,some 35,some 36,some 37,some 38,some 39,some 40,some 41,some 42,some 43,some 44,some 45,some 19]) ⟨Kr,Kr,Kr⟩ (fun tab1=>?_)
 refine DO tab1 1 (fun _ _ _ hc=>zad (v:=.int .u8 _) (hc.old Z Z Z) hc.z)<|DO tab1 2 (fun _ _ _ hc=>zam (hc.d 0 Z Z Z Z) Z hc.z)<|DO tab1 3 (fun _ _ _ hc=>zad (v:=.bool _) (hc.d 1 Z Z Z Z) hc.z)<|zef (j:=2) Z (fun g2=>?_) (fun g2=>?_)
 ·refine zaX tab1 4 Z Z (fun _ _ _ hc=>(hc.d 2 Z Z Z Z).trans (Vb (Dt g2))) <| zaX tab1 5 Z Z (fun _ _ _ hc=>(hc.d 2 Z Z Z Z).trans (Vb (Dt g2))) <| zaX tab1 6 Z Z (fun _ _ _ hc=>(hc.d 2 Z Z Z Z).trans (Vb (Dt g2))) <| zaX tab1 7 Z Z (fun _ _ _ hc => (hc.d 2 Z Z Z Z).trans (Vb (Dt g2))) <| RunD.fin zaw tab1 V Z (fun f3 w R6 hs4 hd5 hr7 V => ?_)
  obtain ⟨h20_,r0⟩:=hd5 0 20 rfl rfl
  obtain ⟨h21_,r1⟩:=hd5 1 21 rfl rfl
  obtain ⟨h22_,r2⟩:=hd5 2 22 rfl rfl
  obtain ⟨h23_,r3⟩:=hd5 3 23 rfl rfl
  obtain ⟨h24_,r4⟩:=hd5 4 24 rfl rfl
  obtain ⟨h25_,r5⟩:=hd5 5 25 rfl rfl
  obtain ⟨h26_,r6⟩:=hd5 6 26 rfl rfl
  simp only [rg7,Fc,Fn,Mc,Mn,r0,r1,r2,r3,r4,r5,r6,Na,An,Ca] at V
  refine zaz (sl:=[(0,Pp _ _),(5,Pp _ _),(7,.int .u8 _),(8,.bool _),(22,.bool _),(24,_),(26,_)]) ⟨(hs4 0 Z).trans Z,(hs4 5 Z).trans Z,(hs4 7 Z).trans Z,(hs4 8 Z).trans Z,h22_,h24_,h26_,trivial⟩ ?_
  clear hs4 hd5 hr7 tab1
  refine OM (t:=22) Z (Vb (Dt g2)) Z<|Q<|zaB (u:=.bool _) (Vb (Dt g2)) Z<|MB Z<|OM (t:=29) Z (Vb (Z:true = _)) Z<|OM (t:=29) Z (Vb (Z:true = _)) Z<|zaL (t:=31) Z Z<|zaL (t:=31) Z Z<|zaL (t:=31) Z Z<|OM (t:=29) Z (Vb (Z:true = _)) Z<|Q<|zaB (u:=.bool _) (Vb (Z:true = _)) Z<|MB Z<|OM (t:=37) Z (Vb (Z:true = _)) Z<|OM (t:=37) Z (Vb (Z:true = _)) Z<|OM (t:=37) Z (Vb (Z:true = _)) Z<|zaL (t:=40) Z Z ?_
  refine zaL (t:=40) Z Z<|zaL (t:=40) Z Z<|OM (t:=37) Z (Vb (Z:true = _)) Z<|Q<|zaB (u:=.bool _) (Vb (Z:true = _)) Z<|AB Z<|G<|zaj [(0,Pp _ _),(5,Pp _ _),(7,.int .u8 _),(8,.bool _),(19,.bool _)] E5 fun f=>zas (Vb (Z:true = _))<|SR<|AI Z<|G<|zai func77 Z (TP (v:=.int .i64 _) Z) ?_
  replace V:=V.pick (.c .u1 (.c .u1 .nil))
  have hX:zbv c a Y = 42:=zfa (.inl O)
  rw [hX]
  exact ⟨ao,cp,ws,room,Z,fun h=>absurd h De,by omega,hr0,by omega,(St.pack (L1:=[_,_]) (L2:=[]) V)⟩
 refine RunD.take (det _) tab1 4 Z (fun _ _ _ hc=>(hc.d 2 Z Z Z Z).trans (Vb (Df g2))) (fun _ _ _ hc=>zaa zdE (hc.old (v:=Pp _ _) Z Z Z) hc.z)<|RunD.take (det _) tab1 5 Z (fun _ _ _ hc=>(hc.d 2 Z Z Z Z).trans (Vb (Df g2))) (fun _ _ _ hc=>zae (v:=.int .u8 _) ty5 Z (hc.d 3 Z Z Z Z) (hc.st.cellL (Ar Q0) Z) hc.z)<|RunD.take (det _) tab1 6 Z (fun _ _ _ hc=>(hc.d 2 Z Z Z Z).trans (Vb (Df g2))) (fun _ _ _ hc=>zad (v:=.int .u8 _) (hc.old Z Z Z) hc.z)<|RunD.take (det _) tab1 7 Z (fun _ _ _ hc=>(hc.d 2 Z Z Z Z).trans (Vb (Df g2))) (fun _ _ _ hc=>zao (v1:=.int .u8 _) zue Z (hc.d 5 Z Z Z Z) ((zlq hkd _).mono fun v w hp=>⟨[],⟨hp.1,Z⟩,hc.st.keepc hp.2⟩))<|RunD.fin zaw tab1 V Z (fun f8 w R11 hs9 hd10 hr12 V=>?_)
 obtain ⟨h20_,r0⟩:=hd10 0 20 rfl rfl
 obtain ⟨h21_,r1⟩:=hd10 1 21 rfl rfl
 obtain ⟨h22_,r2⟩:=hd10 2 22 rfl rfl
 obtain ⟨h23_,r3⟩:=hd10 3 23 rfl rfl
 obtain ⟨h24_,r4⟩:=hd10 4 24 rfl rfl
 obtain ⟨h25_,r5⟩:=hd10 5 25 rfl rfl
 obtain ⟨h26_,r6⟩:=hd10 6 26 rfl rfl
 simp only [rg7,Fc,Fn,Mc,Mn,r0,r1,r2,r3,r4,r5,r6,Na,An,Ca] at V
 refine zaz (sl:=[(0,Pp _ _),(5,Pp _ _),(7,.int .u8 _),(8,.bool _),(22,.bool _),(24,.int .u8 _),(26,.int .u8 _)]) ⟨(hs9 0 Z).trans Z,(hs9 5 Z).trans Z,(hs9 7 Z).trans Z,(hs9 8 Z).trans Z,h22_,h24_,h26_,trivial⟩ ?_
 clear hs9 hd10 hr12 tab1
 refine TK (t:=22) Z (Vb (Df g2))<|zaF Z Z<|Q<|zax (u:=.bool _) (Vb (Df g2)) Z<|MB Z<|zau (d:=29) Z (fun g13=>?_) (fun g13=>?_)
 ·refine OM (t := 29) Z (Vb (Dt g13)) Z <| OM (t := 29) Z (Vb (Dt g13)) Z <| zaL (t := 31) Z Z <| zaL (t := 31) Z Z <| zaL (t := 31) Z Z <| OM (t := 29) Z (Vb (Dt g13)) Z <| Q <| zaB (u := .bool _) (Vb (Dt g13)) Z <| MB Z <| OM (t := 37) Z (Vb (Z : true = _)) Z <| OM (t := 37) Z (Vb (Z : true = _)) Z <| OM (t := 37) Z (Vb (Z : true = _)) Z <| zaL (t := 40) Z Z <| zaL (t := 40) Z Z <| zaL (t := 40) Z Z <| OM (t := 37) Z (Vb (Z : true = _)) Z ?_
  refine Q<|zaB (u:=.bool _) (Vb (Z:true = _)) Z<|AB Z<|G<|zaj [(0,Pp _ _),(5,Pp _ _),(7,.int .u8 _),(8,.bool _),(19,.bool _)] E5 fun f=>zas (Vb (Z:true = _))<|SR<|AI Z<|G<|zai func77 Z (TP (v:=.int .i64 _) Z) ?_
  replace V:=V.pick (.c .u1 (.c .u1 .nil))
  have hX:zbv c a Y = 42:=zfa (.inr (.inl (by rw [hkd]; omega)))
  rw [hX]
  exact ⟨ao,cp,ws,room,Z,fun h=>absurd h De,by omega,hr0,by omega,(St.pack (L1:=[_,_]) (L2:=[]) V)⟩
 refine TK (t:=29) Z (Vb (Df g13))<|zad (v:=.bool _) Z<|TK (t:=29) Z (Vb (Df g13))<|zad (v:=.bool _) Z<|zau (d:=31) Z (fun g14=>?_) (fun g14=>?_)
 ·refine TK (t := 31) Z (Vb (Dt g14)) <| zaa zdD Z <| TK (t := 31) Z (Vb (Dt g14)) <| zae (v := .int .u32 _) za9 Z Z (V.cellL Q0 Z) <| TK (t := 31) Z (Vb (Dt g14)) <| zaF Z Z <| TK (t := 29) Z (Vb (Df g13)) <| zaB (u := .bool _) (Vb (Dt g14)) Z <| Q <| zax (u := .bool _) (Vb (Df g13)) Z <| MB Z <| zau (d := 37) Z (fun g15 => ?_) (fun g15 => ?_)
  ·refine OM (t := 37) Z (Vb (Dt g15)) Z <| OM (t := 37) Z (Vb (Dt g15)) Z <| OM (t := 37) Z (Vb (Dt g15)) Z <| zaL (t := 40) Z Z <| zaL (t := 40) Z Z <| zaL (t := 40) Z Z <| OM (t := 37) Z (Vb (Dt g15)) Z <| Q <| zaB (u := .bool _) (Vb (Dt g15)) Z <| AB Z <| G <| zaj [(0, Pp _ _), (5, Pp _ _), (7, .int .u8 _), (8, .bool _), (19, .bool _)] E5 fun f => zas (Vb (Z : true = _)) <| SR <| AI Z ?_
   refine G<|zai func77 Z (TP (v:=.int .i64 _) Z) ?_
   replace V:=V.pick (.c .u1 (.c .u1 .nil))
   have hX:zbv c a Y = 42:=zfa (.inr (.inr (.inl ⟨by omega,by omega⟩)))
   rw [hX]
   exact ⟨ao,cp,ws,room,Z,fun h=>absurd h De,by omega,hr0,by omega,(St.pack (L1:=[_,_]) (L2:=[]) V)⟩
  refine TK (t:=37) Z (Vb (Df g15))<|zad (v:=.bool _) Z<|TK (t:=37) Z (Vb (Df g15))<|zhP Z<|TK (t:=37) Z (Vb (Df g15))<|zad (v:=.bool _) Z<|zau (d:=40) Z (fun g16=>?_) (fun g16=>?_)
  ·exfalso
   omega
  refine OM (t:=40) Z (Vb (Df g16)) Z<|OM (t:=40) Z (Vb (Df g16)) Z<|OM (t:=40) Z (Vb (Df g16)) Z<|TK (t:=37) Z (Vb (Df g15))<|zax (u:=.bool _) (Vb (Df g16)) Z<|Q<|zax (u:=.bool _) (Vb (Df g15)) Z<|AB Z<|G<|zaj [(0,Pp _ _),(5,Pp _ _),(7,.int .u8 _),(8,.bool _),(19,.bool _)] E5 fun f=>zal (Vb (Z:false = _))<|SR<|MB Z<|AB Z<|G<|zab Z (fun g17=>?_) (fun g17=>?_)
  ·refine SR <| MP Z <| Q <| zaa zhB Z <| Q (zae (v := str _) ty9 Z Z (V.cellL Q0 Z) ?_)
   replace V:=V.pick (.c .u1 (.c .u1 (.k1 .nil)))
   replace V:St _ _ (WrC 134 22 bq fm Y ao cp ws room :: _) _ _:=V.pack (L1:=[_,_])
   refine Q (zaE (v1:=Pp _ _) (v2:=str _) ent139 Z Z Z ((zsu bq fm Y ao cp ws room a.s hs _ (V.hL _ Q0) hl hr0 hr1).mono fun v w hp=>?_))
   obtain ⟨ao2,cp2,ws2,room2,rfl,hE,hw2,hr2,hr3,hp⟩:=hp
   replace V:St _ _ (WrC 134 22 bq fm Y ao2 cp2 ws2 room2 :: _) _ _:=V.call1 hp
   refine AI Z<|G<|zai func77 Z (TP (v:=.int .i64 _) Z) ?_
   replace V:=V.pick (.k1 .nil)
   have hX:=zjc (c:=c) (a:=a) (Y:=Y) (by omega) (by rw [hkd]; omega) (by omega) (by omega)
   have hY:=zee (a:=a) O
   rw [hX,hY.1,hY.2]
   exact ⟨ao2,cp2,ws2,room2,Z,hE,hw2,hr2,hr3,V⟩
  exfalso
  omega
 refine OM (t:=31) Z (Vb (Df g14)) Z<|OM (t:=31) Z (Vb (Df g14)) Z<|OM (t:=31) Z (Vb (Df g14)) Z<|TK (t:=29) Z (Vb (Df g13))<|zax (u:=.bool _) (Vb (Df g14)) Z<|Q<|zax (u:=.bool _) (Vb (Df g13)) Z<|MB Z<|TK (t:=37) Z (Vb (Z:false = _))<|zad (v:=.bool _) Z<|TK (t:=37) Z (Vb (Z:false = _))<|zhP Z<|TK (t:=37) Z (Vb (Z:false = _))<|zad (v:=.bool _) Z<|zau (d:=40) Z (fun g18=>?_) (fun g18=>?_)
 ·refine TK (t := 40) Z (Vb (Dt g18)) <| zaa zhB Z <| TK (t := 40) Z (Vb (Dt g18)) <| zae (v := str _) ty9 Z Z (V.cellL Q0 Z) <| TK (t := 40) Z (Vb (Dt g18)) <| zdo Z Z <| TK (t := 37) Z (Vb (Z : false = _)) <| zaB (u := .bool _) (Vb (Dt g18)) Z <| Q <| zax (u := .bool _) (Vb (Z : false = _)) Z <| AB Z <| G <| zaj [(0, Pp _ _), (5, Pp _ _), (7, .int .u8 _), (8, .bool _), (19, .bool _)] E5 fun f => zab Z (fun g19 => ?_) (fun g19 => ?_)
  ·refine SR <| AI Z <| G <| zai func77 Z (TP (v := .int .i64 _) Z) ?_
   replace V:=V.pick (.c .u1 (.c .u1 .nil))
   have hX:zbv c a Y = 42:=zfa (.inr (.inr (.inr ⟨by omega,by simpa using g19⟩)))
   rw [hX]
   exact ⟨ao,cp,ws,room,Z,fun h=>absurd h De,by omega,hr0,by omega,(St.pack (L1:=[_,_]) (L2:=[]) V)⟩
  refine SR<|MB Z<|AB Z<|G<|zab Z (fun g20=>?_) (fun g20=>?_)
  ·exfalso
   omega
  refine zag<|zah<|SR<|MP Z<|Q<|zaa zdD Z<|Q (zae (v:=.int .u32 _) za9 Z Z (V.cellL Q0 Z) ?_)
  replace V:=V.pick (.c .u1 (.c .u1 (.k1 .nil)))
  replace V:St _ _ (WrC 134 22 bq fm Y ao cp ws room :: _) _ _:=V.pack (L1:=[_,_])
  refine Q (zaE (v1:=Pp _ _) (v2:=.int .u32 _) zxB Z Z Z ((zqX bq fm Y ao cp ws room _ _ (V.hL _ Q0) hl hr0 hr1).mono fun v w hp=>?_))
  obtain ⟨ao2,cp2,hp⟩:=hp
  replace V:St _ _ (WrC 134 22 bq fm Y ao2 cp2 (ws ++ [a.n]) (room + 1) :: _) _ _:=V.call1 hp
  replace V:St _ _ (_ :: _ :: _) _ _:=V.unpack
  refine G<|SQ<|SR<|Q<|zaa zdE Z<|Q<|zae (v:=.int .u8 _) ty5 Z Z (V.cellL Q2 Z)<|G<|zak<|SR<|Q<|zam Z Z<|AB Z<|G<|zab Z (fun g21=>?_) (fun g21=>?_)
  ·refine SQ <| zaC [] V (bs := [0, 1, 0, 4, 12, 28, 63, 127]) (ds := [some 60, some 61, some 62, some 63, some 64, some 65, some 66, some 6]) ⟨Kr, Kr, Kr⟩ (fun tab22 => ?_)
   refine DO tab22 1 (fun _ _ _ hc=>zaa zdD (hc.old (v:=Pp _ _) Z Z Z) hc.z)<|DO tab22 2 (fun _ _ _ hc=>zae (v:=.int .u32 _) za9 Z (hc.d 0 Z Z Z Z) (hc.st.cellL (Ar Q2) Z) hc.z)<|DO tab22 3 (fun _ _ _ hc=>zad (v:=Pp _ _) (hc.old Z Z Z) hc.z)<|DO tab22 4 (fun _ _ _ hc=>zan (hc.d 2 Z Z Z Z) hc.z)<|DO tab22 5 (fun _ _ _ hc=>zaa zqv (hc.d 3 Z Z Z Z) hc.z)<|DO tab22 6 (fun _ _ _ hc=>zae (v:=.int .u32 _) za9 Z (hc.d 4 Z Z Z Z) (hc.st.cellL (Ar Q0) Z) hc.z)<|RunD.fin zaw tab22 V Z (fun f23 w R26 hs24 hd25 hr27 V=>?_)
   obtain ⟨h60_,r0⟩:=hd25 0 60 rfl rfl
   obtain ⟨h61_,r1⟩:=hd25 1 61 rfl rfl
   obtain ⟨h62_,r2⟩:=hd25 2 62 rfl rfl
   obtain ⟨h63_,r3⟩:=hd25 3 63 rfl rfl
   obtain ⟨h64_,r4⟩:=hd25 4 64 rfl rfl
   obtain ⟨h65_,r5⟩:=hd25 5 65 rfl rfl
   simp only [rg6,Fc,Fn,Mc,Mn,r0,r1,r2,r3,r4,r5,Na,An,Ca] at V
   refine zaz (sl:=[(61,.int .u32 _),(65,.int .u32 _)]) ⟨h61_,h65_,trivial⟩ ?_
   clear hs24 hd25 hr27 tab22
   refine Q<|zaE (v1:=.int .u32 _) (v2:=.int .u32 _) zqD Z Z Z<|Ret.det (zmr _ _ _) V fun w V=>AI Z<|G<|zai func77 Z (TP (v:=.int .i64 _) Z) ?_
   replace V:=V.pick (.k2 .nil)
   have hX:=zf8 (c:=c) (a:=a) (Y:=Y) (by omega) (by rw [hkd]; omega) (by omega) (by simpa using g19)
   have hY:=zfo (a:=a) O
   rw [if_pos (by omega)] at hX
   rw [hX,hY.1,hY.2]
   exact ⟨ao2,cp2,ws ++ [a.n],room + 1,rfl,fun _=>⟨rfl,rfl⟩,by simp,by omega,by omega,(St.pack (L1:=[_,_]) (L2:=[]) V)⟩
  refine SR<|Q<|zam Z Z<|AB Z<|G<|zab Z (fun g28=>?_) (fun g28=>?_)
  ·refine SR <| MC Z <| Q <| zaa zdD Z <| Q <| zae (v := .int .u32 _) za9 Z Z (V.cellL Q2 Z) <| Q <| zaE (v1 := .int .u8 _) (v2 := .int .u32 _) zxA Z Z Z <| Ret.det (zlw _ _ hcb.1 hcb.2 _) V fun w V => AI Z <| G <| zai func77 Z (TP (v := .int .i64 _) Z) ?_
   replace V:=V.pick (.k2 .nil)
   have hX:=zf8 (c:=c) (a:=a) (Y:=Y) (by omega) (by rw [hkd]; omega) (by omega) (by simpa using g19)
   have hY:=zfo (a:=a) O
   rw [if_neg (by omega),if_pos (by omega)] at hX
   rw [hX,hY.1,hY.2]
   exact ⟨ao2,cp2,ws ++ [a.n],room + 1,rfl,fun _=>⟨rfl,rfl⟩,by simp,by omega,by omega,(St.pack (L1:=[_,_]) (L2:=[]) V)⟩
  refine zag<|zah<|SR<|AI Z<|G<|zai func77 Z (TP (v:=.int .i64 _) Z) ?_
  replace V:=V.pick (.k2 .nil)
  have hX:=zf8 (c:=c) (a:=a) (Y:=Y) (by omega) (by rw [hkd]; omega) (by omega) (by simpa using g19)
  have hY:=zfo (a:=a) O
  rw [if_neg (by omega),if_neg (by omega)] at hX
  rw [hX,hY.1,hY.2]
  exact ⟨ao2,cp2,ws ++ [a.n],room + 1,rfl,fun _=>⟨rfl,rfl⟩,by simp,by omega,by omega,(St.pack (L1:=[_,_]) (L2:=[]) V)⟩
 exfalso
 omega
end Go.SK
namespace Go.SK
open Go Go.Proofs Go.Proofs.Tryz
theorem ty134:TyF prog 134 (.struct (zbm prog 134)) 11 120 [.int .u16 0,str [],.bool false,.bool false,str [],str [],.int .i64 0,.int .u8 0,.int .u32 0,.slice none 0 0,.int .i64 0]:=zbp Kr Kr
theorem stf134:zdm prog 134 [(0,8),(8,1),(9,1),(10,1)]:=⟨zbm prog 134,Kr,fun w=>Kr⟩
theorem ent76:zaG prog 76:=⟨f76,_,func76,Kr,rfl⟩
theorem ent77:zaG prog 77:=⟨f77,_,func77,Kr,rfl⟩
open Go.RowKit
theorem zqZ (p:InstP) (Y:Int) (h0:0 ≤ p.op) (w:World) (hA:(Res.rargs p).holds w) (hsm:(p.args.map zaT).sum ≤ 900000000) (hla:∀ a ∈ p.args,a.s.length ≤ 100000000000):Ret prog 37 #[.agg #[.int .u16 p.op,.int .u32 p.ty,.int .u32 p.res,.slice p.ao p.args.length p.cap],.int .u32 Y] w (fun v w'=>∃ ro rc,v = .tuple #[.agg #[.int .u16 (zkV Y p.L).1.1,.slice ro (zkV Y p.L).1.2.length rc],.int .i64 (zkV Y p.L).2] ∧ St w NoM [Res.sl ro (zkV Y p.L).1.2.length rc 22 1 ((zkV Y p.L).1.2.flatMap zci)] [] w'):=by
 refine zav (args:=[.agg #[.int .u16 p.op,.int .u32 p.ty,.int .u32 p.res,.slice p.ao p.args.length p.cap],.int .u32 Y]) func37 Z Z Z ?_
 have V:St w NoM [] [Res.rargs p] w:=St.init_D hA
 clear hA
 obtain ⟨fm,hfm⟩:∃ fm,zaW p.op = fm:=⟨_,rfl⟩
 obtain ⟨ob,hob⟩:∃ ob,(zc6 p.op).isSome = ob:=⟨_,rfl⟩
 obtain ⟨we,hwe⟩:∃ we,zdG fm.op p.args = we:=⟨_,rfl⟩
 have hf:FOk fm:=hfm ▸ zfd p.op
 have hlen:=zh7 p.args
 refine SR<|Q<|zbi (v:=zbf _ _ _ _ _ _) V Z Z fun w b2 V=>Q<|zar V zcK fun w b4 V=>AI Z<|NSR<|Q<|zaa zfW Z<|Q<|zae (v:=.int .u16 _) zlC Z Z (V.cellL Q1 Z)<|Q<|zao (v1:=.int .u16 _) zr0 Z Z<|Ret.det (zi5 h0 hfm hob _) V fun w V=>Q<|zad (v:=.tuple #[zaO _ _ _ _ _ _ _ _,.bool _]) Z<|Q<|Ex (zaO _ _ _ _ _ _ _ _) Z Z<|Q<|Ex (.bool _) Z Z<|Q (zar V zb5 fun w b6 V=>?_)
 refine Q (SO (v:=zaO _ _ _ _ _ _ _ _) V zb5 Z Z .u0 fun w V=>?_)
 refine AB Z<|G<|SQ<|SR<|MB Z<|Q<|zaU Z<|G<|zaQ Z (fun g1=>?_) (fun g1=>?_)
 ·refine SR <| Q (zaf zcK zmP .nil ?_)
  refine Q (SO (v:=gHL _ _ _ _) V zcK Z Z .u1 fun w V=>?_)
  refine AI Z<|G<|zaq func37 Z (zat (vs:=lHL _ _ _ _) Z zcK Z Z (zac (n:=2) (V.objL Q1) _ Z)) (TP (v:=.int .i64 _) Z) ?_
  replace V:=V.pick .nil
  have hI:=zhm (Y:=Y) (i:=p.L) (znI (by rw [hob]; simpa using g1)) (by decide)
  rw [hI]
  exact ⟨none,0,Z,(V.pushNil 22 1).noD⟩
 have hobt:ob = true:=by simpa using g1
 have hisS:(zc6 p.op).isSome = true:=hob.trans hobt
 have hfo:fm.op = p.op:=by rw [← hfm]; exact (zm0 hisS).2
 have hfm2:zaW fm.op = fm:=by rw [hfo]; exact hfm
 refine zag<|SR<|Q<|zay (vs:=zbz _ _ _ _ _ _ _ _) zb5 Z Z Z (zac (n:=8) (V.objL Q0) _ Z)<|MU Z<|Q (zaf ty134 stf134 (.c (v:=zaO _ _ _ _ _ _ _ _) Z (h:=(.c (v:=.int .u32 _) Z (h:=.nil)))) ?_)
 refine Q<|zbi (v:=.agg #[.int .u16 _,str _,.bool _,.bool _,str _,str _,.int .i64 _,.int .u8 _,.int .u32 _,.slice _ _ _,.int .i64 _]) V Z Z fun w b25 V=>AP Z<|G<|SQ ?_
 replace V:=V.pushNil 22 1
 replace V:=V.pick (.c .u1 (.k4 .nil))
 replace V:St _ _ (WrC 134 22 b25 fm Y none 0 [] 0 :: _) _ _:=V.pack (L1:=[_,_])
 refine RG<|MP Z<|Q<|zaa zfi Z<|Q<|zae (v:=.bool _) ty4 Z Z (V.cellL Q1 Z)<|Q<|zaa zeH Z<|Q (zae (v:=.int .u32 _) za9 Z Z (V.cellL Q3 Z) ?_)
 replace V:=V.pick (.k4 .nil)
 refine Q (zoq (v1:=Pp _ _) (v2:=.bool _) (v3:=.int .u32 _) (v4:=.int .i64 _) ent76 Z Z Z Z Z ((zlt b25 fm Y none 0 [] 0 fm.ty p.ty 40 De _ (V.hL _ Q0) De De De).mono fun v w hp=>?_))
 obtain ⟨ao1,cp1,ws1,rm1,rfl,hE1,hw1,hr1,hs1,hp⟩:=hp
 replace V:St _ _ (WrC 134 22 b25 fm Y ao1 cp1 ws1 rm1 :: _) _ _:=V.call1 hp
 refine AI rfl<|G<|zaj [(2,Pp _ _),(4,Pp _ _),(6,Pp _ _),(8,Pp _ _),(9,.int .i64 _)] E5 fun f=>SQ<|zfr (L1:=[_]) [(2,Pp _ _),(4,Pp _ _),(6,Pp _ _),(8,Pp _ _)] V E4 (fun (q:Option Addr × Nat × List Int × Int × Int)=>[(9,.int .i64 q.2.2.2.2)]) (fun (q:Option Addr × Nat × List Int × Int × Int)=>[WrC 134 22 b25 fm Y q.1 q.2.1 q.2.2.1 q.2.2.2.1]) (fun (q:Option Addr × Nat × List Int × Int × Int)=>RW Y p.L 0 q.2.2.1 q.2.2.2.1 q.2.2.2.2) (fun ⟨ao0,cp0,ws0,rm0,e0⟩ f w V hJ1=>?_) (fun cut2=>?_)
 replace V:St _ _ ([WrC 134 22 b25 fm Y ao0 cp0 ws0 rm0] ++ [_,_,_]) _ _:=V
 replace hJ1:RW Y p.L 0 ws0 rm0 e0:=hJ1
 refine za6 (sl:=[(9,.int .i64 e0)]) ⟨Z,trivial⟩ ?_
 ·refine SR <| MP Z <| Q <| zbQ <| Q <| zap (v := .func _ _ _) Z <| G <| SQ <| SR <| Q <| zaa zbA Z <| Q <| zae (v := .slice _ _ _) zc4 Z Z (V.cellL Q3 Z) <| Q <| zaH (rest := []) zc4 Z <| MI Z <| G <| zak ?_
  refine zaY<|zaZ [(2,Pp _ _),(4,Pp _ _),(6,Pp _ _),(8,Pp _ _),(10,.func _ _ _),(43,.slice _ _ _),(44,.int .i64 _)] E7 (fun (q:Nat × Option Addr × Nat × List Int × Int × Int)=>[(9,.int .i64 q.2.2.2.2.2),(45,.int .i64 (q.1:Int))]) (fun (q:Nat × Option Addr × Nat × List Int × Int × Int)=>[WrC 134 22 b25 fm Y q.2.1 q.2.2.1 q.2.2.2.1 q.2.2.2.2.1]) (fun (q:Nat × Option Addr × Nat × List Int × Int × Int)=>q.1 ≤ p.args.length ∧ RW Y p.L q.1 q.2.2.2.1 q.2.2.2.2.1 q.2.2.2.2.2) (fun (q:Nat × Option Addr × Nat × List Int × Int × Int)=>p.args.length - q.1) ((0,ao0,cp0,ws0,rm0,e0)) V ⟨Nat.zero_le _,hJ1⟩ E2 ?_
  intro ⟨k,ao,cp,ws,room,e⟩ f w V hK0 ih4
  replace V:St _ _ ([WrC 134 22 b25 fm Y ao cp ws room] ++ [_,_,_]) _ _:=V
  replace hK0:k ≤ p.args.length ∧ RW Y p.L k ws room e:=hK0
  refine za6 (sl:=[(9,.int .i64 e),(45,.int .i64 (k:Int))]) E2 ?_
  have hK:=hK0.2
  refine SR<|Q<|zaN Z Z<|G<|SQ<|zab Z (fun g5=>?_) (fun g5=>?_)
  ·have hsum : ztb p.L.args k ≤ (p.args.map zaT).sum := zta
   have hlk:=hK.len
   have hrk:=hK.r1
   have hr0:=hK.r0
   have hmem:(p.args.getD k zeroA) ∈ p.args:=zbJ O
   have hsl:=hla _ hmem
   have hidx:p.args.getD ((k:Int)).toNat zeroA = (p.args.getD k zeroA):=rfl
   refine zag<|SQ<|zak<|SR<|MI Z<|Q<|zaR zc4 za1 (V.hD _ Q0) Z Z O O<|Q<|zay (vs:=zgJ _ _ _) za1 Z Z Z (Res.rs2_cells (m:=3) (V.hD _ Q0) _ (zbO (g:=zdX) (d:=zeroA) zeA _ _ O))<|Q<|zar V za1 fun w b12 V=>AI Z<|Q (SO (v:=zeK _ _ _) V za1 Z Z .u0 fun w V=>?_)
   refine NSR<|MI Z<|Q<|zam Z Z<|G<|zab Z (fun g6=>?_) (fun g6=>?_)
   ·refine RG <| Q <| zad (v := .func _ _ _) Z <| MI Z <| Q (zay (vs := zgJ _ _ _) za1 Z Z Z (zac (n := 3) (V.objL Q0) _ Z) ?_)
    replace V:=V.pick (.c .u1 (.k4 .nil))
    obtain rfl:e = 0:=by omega
    refine Q (ze6 (v1:=.int .i64 _) (v2:=zeK _ _ _) Z Z Z (zdy ent77 ((zuY b25 fm Y ao cp ws room k O (p.args.getD k zeroA) hsl _ hfm2 Z _ (V.hL _ Q0) O hr0 O).mono fun v w hp=>?_)))
    obtain ⟨ao3,cp3,ws3,rm3,rfl,hE3,hw3,hr3,hs3,hp⟩:=hp
    replace V:St _ _ (WrC 134 22 b25 fm Y ao3 cp3 ws3 rm3 :: _) _ _:=V.call1 hp
    refine AI Z<|G<|zah<|RG<|Q<|zaA Z Z Z zbt<|MI Z<|G<|zaD ?_
    replace V:=V.pick (.k5 .nil)
    have hst2:=hK.step (ws2:=ws3) (room2:=rm3) hisS (by (try dsimp only); omega) (by rw [hfm]; exact hE3) hw3 hr3 hs3
    rw [hfm] at hst2
    replace V:=V.pick (.k1 (.c .u1 (.c .u1 (.c .u1 .nil))))
    exact ih4 ((k + 1,ao3,cp3,ws3,rm3,(zbv (zaJ fm (k:Int)) (p.args.getD k zeroA) Y))) _ w Od V (⟨by (try dsimp only); omega,hst2⟩) E7 ⟨rfl,(Vi Od),trivial⟩
   refine zag<|zah<|RG<|Q<|zaA Z Z Z zbt<|MI Z<|G<|zaD ?_
   replace V:=V.pick (.c .u1 (.k4 .nil))
   have hst2:=hK.skip g6 Od
   replace V:=V.pick (.k1 (.c .u1 (.c .u1 (.c .u1 .nil))))
   exact ih4 ((k + 1,ao,cp,ws,room,e)) _ w Od V (⟨by (try dsimp only); omega,hst2⟩) E7 ⟨rfl,(Vi Od),trivial⟩
  obtain rfl:k = p.args.length:=by omega
  refine zaK (id:=0) Z<|SQ<|SR<|MI Z<|Q<|zam Z Z<|G<|zab Z (fun g7=>?_) (fun g7=>?_)
  ·refine RG <| Q <| zay (vs := zbz _ _ _ _ _ _ _ _) zb5 Z Z Z (zac (n := 8) (V.objL Q1) _ Z) <| Q <| zaa zbA Z <| Q (zae (v := .slice _ _ _) zc4 Z Z (V.cellL Q3 Z) ?_)
   obtain rfl:e = 0:=by omega
   have hfu:=hK.full hisS
   have hsum:=zta (l:=p.args) (k:=p.args.length)
   have hrk:=hK.r1
   have hr0:=hK.r0
   refine Q<|zaE (v1:=zaO _ _ _ _ _ _ _ _) (v2:=.slice _ _ _) zyu Z Z Z<|zqS (zih fm hf p.args _ _ _ (V.hD _ Q0) O) (Vi hwe) V fun w V=>AI Z<|G<|SQ<|SQ ?_
   replace V:=V.pick (.k4 .nil)
   replace V:St _ _ (_ :: _ :: _) _ _:=V.unpack
   refine RG<|MI Z<|Q<|zam Z Z<|MB Z<|zau (d:=65) Z (fun g8=>?_) (fun g8=>?_)
   ·refine TK (t := 65) Z (Vb (Dt g8)) <| zad (v := Pp _ _) Z <| TK (t := 65) Z (Vb (Dt g8)) <| zan Z <| TK (t := 65) Z (Vb (Dt g8)) <| zaa zfh Z <| TK (t := 65) Z (Vb (Dt g8)) <| zae (v := .int .i64 _) ty3 Z Z (V.cellL Q0 Z) <| TK (t := 65) Z (Vb (Dt g8)) <| zbh Z Z <| Q <| zaB (u := .bool _) (Vb (Dt g8)) Z <| G <| zab Z (fun g9 => ?_) (fun g9 => ?_)
    ·refine RG <| AI Z <| G <| SQ <| SR <| MI Z <| Q <| zaF Z Z <| G <| zaj [(2, Pp _ _), (4, Pp _ _), (8, Pp _ _), (9, .int .i64 _), (73, .bool _)] E5 fun f => zab Z (fun g10 => ?_) (fun g10 => ?_)
     ·refine SR <| Q (zaf zcK zmP .nil ?_)
      refine MI Z<|Q (SO (v:=gHL _ _ _ _) V zcK Z Z .u3 fun w V=>?_)
      refine AI Z<|G<|zaq func37 Z (zat (vs:=lHL _ _ _ _) Z zcK Z Z (zac (n:=2) (V.objL Q3) _ Z)) (TP (v:=.int .i64 _) Z) ?_
      replace V:=V.pick .nil
      have hf2:=hfu.2.2
      rw [show zdG p.L.op p.L.args = we from by rw [← hwe,hfo]] at hf2
      rw [if_neg (fun h=>h (by omega))] at hf2
      have hr2:=hfu.2.1
      rw [hfm] at hr2 hf2
      rw [if_pos (by (try dsimp only at hr2 ⊢); omega)] at hf2
      have hI:=zhm (Y:=Y) (i:=p.L) (hf2) De
      rw [hI]
      exact ⟨none,0,Z,(V.pushNil 22 1).noD⟩
     exfalso
     exact g10 De
    refine zag<|SQ<|SR<|MI Z<|Q<|zaF Z Z<|G<|zaj [(2,Pp _ _),(4,Pp _ _),(8,Pp _ _),(9,.int .i64 _),(73,.bool _)] E5 fun f=>zab Z (fun g11=>?_) (fun g11=>?_)
    ·exfalso
     omega
    refine zag<|SQ<|zaC [] V (bs:=[0,1,0,4,12,28,63,127,255]) (ds:=[some 76,some 77,some 78,some 79,some 80,some 81,some 82,none,some 5]) ⟨Kr,Kr,Kr⟩ (fun tab12=>?_)
    refine DO tab12 1 (fun _ _ _ hc=>zaa zfW (hc.old (v:=Pp _ _) Z Z Z) hc.z)<|DO tab12 2 (fun _ _ _ hc=>zae (v:=.int .u16 _) zlC Z (hc.d 0 Z Z Z Z) (hc.st.cellL (Ar Q4) Z) hc.z)<|DO tab12 3 (fun _ _ _ hc=>zad (v:=Pp _ _) (hc.old Z Z Z) hc.z)<|DO tab12 4 (fun _ _ _ hc=>zan (hc.d 2 Z Z Z Z) hc.z)<|DO tab12 5 (fun _ _ _ hc=>zaa zhz (hc.d 3 Z Z Z Z) hc.z)<|DO tab12 6 (fun _ _ _ hc=>zae (v:=.slice _ _ _) zcn Z (hc.d 4 Z Z Z Z) (hc.st.cellL (Ar Q0) Z) hc.z)<|RunD.fin zaw tab12 V Z (fun f13 w R16 hs14 hd15 hr17 V=>?_)
    obtain ⟨h76_,r0⟩:=hd15 0 76 rfl rfl
    obtain ⟨h77_,r1⟩:=hd15 1 77 rfl rfl
    obtain ⟨h78_,r2⟩:=hd15 2 78 rfl rfl
    obtain ⟨h79_,r3⟩:=hd15 3 79 rfl rfl
    obtain ⟨h80_,r4⟩:=hd15 4 80 rfl rfl
    obtain ⟨h81_,r5⟩:=hd15 5 81 rfl rfl
    simp only [rg6,Fc,Fn,Mc,Mn,r0,r1,r2,r3,r4,r5,Na,An,Ca] at V
    refine zaz (sl:=[(4,Pp _ _),(77,.int .u16 _),(81,.slice _ _ _)]) ⟨(hs14 4 Z).trans Z,h77_,h81_,trivial⟩ ?_
    clear hs14 hd15 hr17 tab12
    refine Q (zaf zcK zmP (.c (v:=.int .u16 _) Z (h:=(.c (v:=.slice _ _ _) Z (h:=.nil)))) ?_)
    refine Q (SO (v:=gHL _ _ _ _) V zcK Z Z .u3 fun w V=>?_)
    refine AI Z<|G<|zaq func37 Z (zat (vs:=lHL _ _ _ _) Z zcK Z Z (zac (n:=2) (V.objL Q3) _ Z)) (TP (v:=.int .i64 _) Z) ?_
    replace V:=V.pick (.c .u1 .nil)
    have hf2:=hfu.2.2
    rw [show zdG p.L.op p.L.args = we from by rw [← hwe,hfo]] at hf2
    rw [if_neg (fun h=>h (by omega))] at hf2
    have hr2:=hfu.2.1
    rw [hfm] at hr2 hf2
    rw [if_neg (by (try dsimp only at hr2 ⊢); omega)] at hf2
    have hI:=zjs (Y:=Y) (i:=p.L) hf2
    rw [hI,← hfu.1]
    exact ⟨ao,cp,Z,V.noD⟩
   refine OM (t:=65) Z (Vb (Df g8)) Z<|OM (t:=65) Z (Vb (Df g8)) Z<|OM (t:=65) Z (Vb (Df g8)) Z<|OM (t:=65) Z (Vb (Df g8)) Z<|OM (t:=65) Z (Vb (Df g8)) Z<|Q<|zax (u:=.bool _) (Vb (Df g8)) Z<|G<|zal (Vb (Z:false = _))<|zag<|SQ<|SR<|MI Z<|Q<|zaF Z Z<|G ?_
   refine zab Z (fun g18=>?_) (fun g18=>?_)
   ·refine SR <| Q (zaf zcK zmP .nil ?_)
    refine MI Z<|Q (SO (v:=gHL _ _ _ _) V zcK Z Z .u3 fun w V=>?_)
    refine AI Z<|G<|zaq func37 Z (zat (vs:=lHL _ _ _ _) Z zcK Z Z (zac (n:=2) (V.objL Q3) _ Z)) (TP (v:=.int .i64 _) Z) ?_
    replace V:=V.pick .nil
    have hf2:=hfu.2.2
    rw [show zdG p.L.op p.L.args = we from by rw [← hwe,hfo]] at hf2
    rw [if_pos g8] at hf2
    have hI:=zhm (Y:=Y) (i:=p.L) (hf2) g8
    rw [hI]
    exact ⟨none,0,Z,(V.pushNil 22 1).noD⟩
   exfalso
   omega
  refine zag<|SQ<|SQ ?_
  replace V:=V.pick (.k4 .nil)
  replace V:St _ _ (_ :: _ :: _) _ _:=V.unpack
  refine RG<|MI Z<|Q<|zam Z Z<|MB Z<|zau (d:=65) Z (fun g19=>?_) (fun g19=>?_)
  ·exfalso
   omega
  refine OM (t:=65) Z (Vb (Df g19)) Z<|OM (t:=65) Z (Vb (Df g19)) Z<|OM (t:=65) Z (Vb (Df g19)) Z<|OM (t:=65) Z (Vb (Df g19)) Z<|OM (t:=65) Z (Vb (Df g19)) Z<|Q<|zax (u:=.bool _) (Vb (Df g19)) Z<|G<|zal (Vb (Z:false = _))<|zag<|SQ<|SR<|MI Z<|Q<|zaF Z Z<|G ?_
  refine zab Z (fun g20=>?_) (fun g20=>?_)
  ·refine SR <| Q (zaf zcK zmP .nil ?_)
   refine MI Z<|Q (SO (v:=gHL _ _ _ _) V zcK Z Z .u3 fun w V=>?_)
   refine AI Z<|G<|zaq func37 Z (zat (vs:=lHL _ _ _ _) Z zcK Z Z (zac (n:=2) (V.objL Q3) _ Z)) (TP (v:=.int .i64 _) Z) ?_
   replace V:=V.pick .nil
   have hI:=zhm (Y:=Y) (i:=p.L) (hK.err g7) g7
   rw [hI]
   exact ⟨none,0,Z,(V.pushNil 22 1).noD⟩
  exfalso
  omega
 ·refine SR <| MI Z <| Q <| zam Z Z <| G <| zab Z (fun g21 => ?_) (fun g21 => ?_)
  ·refine RG <| MP Z <| Q <| zaa zdC Z <| Q <| zae (v := .bool _) ty4 Z Z (V.cellL Q1 Z) <| Q <| zaa zfV Z <| Q (zae (v := .int .u32 _) za9 Z Z (V.cellL Q3 Z) ?_)
   replace V:=V.pick (.k4 .nil)
   have h10:idH fm.ty p.ty Y 40 = 0:=by simpa using g21
   have hx1:=hE1 h10
   have hw1b:ws1.length ≤ 1:=hw1
   refine Q (zoq (v1:=Pp _ _) (v2:=.bool _) (v3:=.int .u32 _) (v4:=.int .i64 _) ent76 Z Z Z Z Z ((zlt b25 fm Y ao1 cp1 ws1 rm1 fm.res p.res 41 De _ (V.hL _ Q0) O hr1 O).mono fun v w hp=>?_))
   obtain ⟨ao2,cp2,ws2,rm2,rfl,hE2,hw2,hr2,hs2,hp⟩:=hp
   replace V:St _ _ (WrC 134 22 b25 fm Y ao2 cp2 ws2 rm2 :: _) _ _:=V.call1 hp
   refine AI Z<|G ?_
   replace V:=V.pick (.k4 .nil)
   exact cut2 ((ao2,cp2,ws2,rm2,idH fm.res p.res Y 41)) _ w (V) ((by have hq:=RW.start (i:=p.L) (Y:=Y) (ws2:=ws2) (room2:=rm2) hisS (by rw [hfm]; exact h10) (fun he=>by rw [hfm] at he ⊢; have h2:=hE2 he; rw [hx1.1,hx1.2] at h2; exact h2) (by omega) hr2 (by omega); rw [hfm] at hq; exact hq)) E4 ⟨rfl,trivial⟩
  refine zag ?_
  replace V:=V.pick (.k4 .nil)
  have hq:=RW.ty (i:=p.L) (Y:=Y) (ws:=ws1) (room:=rm1) hisS (by rw [hfm]; exact g21) hw1 hr1 (by omega)
  rw [hfm] at hq
  exact cut2 ((ao1,cp1,ws1,rm1,idH fm.ty p.ty Y 40)) _ w (V) (hq) E4 ⟨Z,trivial⟩
end Go.SK
namespace Go.SK
open Go Go.Proofs Go.Proofs.Tryz
theorem ent94:zaG prog 94:=⟨f94,_,func94,Kr,rfl⟩
open Go.RowKit
theorem zkf {p:InstP} {Y rop re:Int} {rws:List Int} (hR:zkV Y p.L = ((rop,rws),re)) (h0:0 ≤ p.op) (w:World) (hA:(Res.rargs p).holds w) (hsm:(p.args.map zaT).sum ≤ 900000000) (hla:∀ a ∈ p.args,a.s.length ≤ 100000000000):Ret prog 37 #[.agg #[.int .u16 p.op,.int .u32 p.ty,.int .u32 p.res,.slice p.ao p.args.length p.cap],.int .u32 Y] w (fun v w'=>∃ ro rc,v = .tuple #[.agg #[.int .u16 rop,.slice ro rws.length rc],.int .i64 re] ∧ St w NoM [Res.sl ro rws.length rc 22 1 (rws.flatMap zci)] [] w'):=by
 have h:=zqZ p Y h0 w hA hsm hla
 rw [hR] at h; exact h
theorem zoe (w:World):Ret prog 94 #[.slice none 0 0] w (fun v w'=>v = .tuple #[.int .i64 5,.int .i64 0] ∧ St w NoM [] [] w'):=zuV [] none 0 w ⟨rfl,.inl rfl⟩ De (fun _ h=>by cases h)
theorem zuZ (gn bd:Int) (l:List InstP) (ao:Option Addr) (cp:Nat) (w:World) (hA:(Res.rmod ao l).holds w) (hl:l.length ≤ 3000000000000) (hop:∀ i ∈ l,0 ≤ i.op) (hsm:∀ i ∈ l,(i.args.map zaT).sum ≤ 900000000) (hla:∀ i ∈ l,∀ a ∈ i.args,a.s.length ≤ 100000000000):Ret prog 46 #[.agg #[.int .u32 gn,.int .u32 bd,.slice ao l.length cp]] w (fun v w'=>∃ ro rc done,v = .tuple #[.slice ro done.length rc,.agg #[.int .i64 (zbl bd (l.map InstP.L)).1,.int .i64 (zbl bd (l.map InstP.L)).2]] ∧ done.map RawP.L = (if (zbl bd (l.map InstP.L)).1 = 0 then zd6 bd (l.map InstP.L) else []) ∧ St w NoM [Res.oraws 62 22 ro rc done] [] w'):=by
 refine zav (args:=[.agg #[.int .u32 gn,.int .u32 bd,.slice ao l.length cp]]) func46 Z Z Z ?_
 have V:St w NoM [] [Res.rmod ao l] w:=St.init_D hA
 clear hA
 refine SR<|Q<|zbi (v:=zc7 _ _ _ _ _) V Z Z fun w b1 V=>AL Z<|Q<|zar V zaV fun w b3 V=>G<|SQ<|SR<|Q<|zaa zcZ Z<|Q<|zae (v:=.int .u32 _) za9 Z Z (V.cellL Q1 Z)<|Q<|zam Z Z<|MB Z<|zau (d:=14) Z (fun g1=>?_) (fun g1=>?_)
 ·refine OM (t := 14) Z (Vb (Dt g1)) Z <| OM (t := 14) Z (Vb (Dt g1)) Z <| OM (t := 14) Z (Vb (Dt g1)) Z <| Q <| zaB (u := .bool _) (Vb (Dt g1)) Z <| G <| zas (Vb (Z : true = _)) <| SR <| Q (zaf zaV zbW (.c (v := .int .i64 _) Z (h := .nil)) ?_)
  refine AL Z<|Q (SO (v:=gII _ _) V zaV Z Z .u0 fun w V=>?_)
  refine G<|zaq func46 Z (TP (v:=.slice _ _ _) Z) (zat (vs:=lII _ _) Z zaV Z Z (zac (n:=2) (V.objL Q0) _ Z)) ?_
  replace V:=V.pick .nil
  have hS:=zfL (Y:=bd) (l:=(l.map InstP.L)) O
  have hne:(24:Int) ≠ 0:=by decide
  replace V:=St.starCons ((V.starNil).pushNil 62 2)
  refine ⟨none,0,[],?_,?_,V.noD⟩
  ·rw [hS] <;> rfl
  ·rw [hS,if_neg hne] <;> rfl
 refine TK (t:=14) Z (Vb (Df g1))<|zaa zcZ Z<|TK (t:=14) Z (Vb (Df g1))<|zae (v:=.int .u32 _) za9 Z Z (V.cellL Q1 Z)<|TK (t:=14) Z (Vb (Df g1))<|zbI Z Z<|Q<|zax (u:=.bool _) (Vb (Df g1)) Z<|G<|zab Z (fun g2=>?_) (fun g2=>?_)
 ·refine SR <| Q (zaf zaV zbW (.c (v := .int .i64 _) Z (h := .nil)) ?_)
  refine AL Z<|Q (SO (v:=gII _ _) V zaV Z Z .u0 fun w V=>?_)
  refine G<|zaq func46 Z (TP (v:=.slice _ _ _) Z) (zat (vs:=lII _ _) Z zaV Z Z (zac (n:=2) (V.objL Q0) _ Z)) ?_
  replace V:=V.pick .nil
  have hS:=zfL (Y:=bd) (l:=(l.map InstP.L)) O
  have hne:(24:Int) ≠ 0:=by decide
  replace V:=St.starCons ((V.starNil).pushNil 62 2)
  refine ⟨none,0,[],?_,?_,V.noD⟩
  ·rw [hS] <;> rfl
  ·rw [hS,if_neg hne] <;> rfl
 refine zag<|SR<|Q<|zao (v1:=.slice _ _ _) ent94 Z Z<|Ret.det (zoe _) V fun w V=>Q<|zad (v:=.tuple #[.int .i64 _,.int .i64 _]) Z<|Q<|Ex (.int .i64 _) Z Z<|Q<|Ex (.int .i64 _) Z Z<|AI Z<|AI Z<|NSR<|MI Z<|Q<|zbu Z Z Z zbt<|AI Z ?_
 refine G<|zaj [(1,Pp _ _),(3,Pp _ _),(4,.int .i64 _)] E3 fun f=>SR<|AL Z<|G<|SQ<|SQ ?_
 replace V:=V.pushNil 62 2
 replace V:=V.starNil
 refine RG<|Q<|zaa zbX Z<|Q<|zae (v:=.slice _ _ _) zdO Z Z (V.cellL Q3 Z)<|Q<|zaH (rest:=[]) zdO Z<|MI Z<|G<|zak<|zaY<|zaZ [(1,Pp _ _),(3,Pp _ _),(27,.slice _ _ _),(28,.int .i64 _)] E4 (fun (q:Nat × Nat × Option Addr × Nat × List RawP)=>[(4,.int .i64 (1048576 - (q.2.1:Int))),(6,.slice q.2.2.1 q.2.2.2.2.length q.2.2.2.1),(29,.int .i64 (q.1:Int))]) (fun (q:Nat × Nat × Option Addr × Nat × List RawP)=>[Res.star (q.2.2.2.2.map (Res.oword 22)),Res.sl q.2.2.1 q.2.2.2.2.length q.2.2.2.1 62 2 (q.2.2.2.2.flatMap zkW)]) (fun (q:Nat × Nat × Option Addr × Nat × List RawP)=>q.1 ≤ l.length ∧ zcl bd 5 0 (l.map InstP.L) = zcl bd q.2.1 q.1 ((l.map InstP.L).drop q.1) ∧ q.2.1 ≤ 1048576 ∧ q.2.2.2.2.map RawP.L = zd6 bd ((l.map InstP.L).take q.1)) (fun (q:Nat × Nat × Option Addr × Nat × List RawP)=>l.length - q.1) ((0,5,none,0,[])) V ⟨Nat.zero_le _,Z,by decide,Z⟩ E3 ?_
 intro ⟨i,n,aq,cq,done⟩ f w V hJ ih3
 replace V:St _ _ ([Res.star (done.map (Res.oword 22)),Res.sl aq done.length cq 62 2 (done.flatMap zkW)] ++ [_,_]) _ _:=V
 replace hJ:i ≤ l.length ∧ zcl bd 5 0 (l.map InstP.L) = zcl bd n i ((l.map InstP.L).drop i) ∧ n ≤ 1048576 ∧ done.map RawP.L = zd6 bd ((l.map InstP.L).take i):=hJ
 refine za6 (sl:=[(4,.int .i64 (1048576 - (n:Int))),(6,.slice aq done.length cq),(29,.int .i64 (i:Int))]) E3<|SR<|Q<|zaN Z Z<|G<|SQ<|zab Z (fun g4=>?_) (fun g4=>?_)
 ·have hmem : (l.getD i zeroI) ∈ l := zbJ O
  have hidx:l.getD ((i:Int)).toNat zeroI = (l.getD i zeroI):=rfl
  obtain ⟨⟨⟨rop,rws⟩,re⟩,hR⟩:∃ q,zkV bd (l.getD i zeroI).L = q:=⟨_,rfl⟩
  have hrl:=zp8 hR
  have hsh:=zoO (Y:=bd) (n:=n) (k:=i) (l:=(l.map InstP.L)) (j:=i) (by rw [List.length_map]; omega)
  rw [znf (by omega),← hrl.1] at hsh
  have hdl:done.length ≤ i:=by have:=congrArg List.length hJ.2.2.2; simp only [zd6,List.length_map,List.length_take] at this; omega
  have hrn:rws.length < 65535:=by
   by_cases he:re = 0
   ·exact (hrl.2.1 he).2.1
   ·rw [show rws = [] from congrArg Prod.snd (hrl.2.2 he)]; decide
  refine zag<|SQ<|zak<|SR<|MI Z<|Q<|zaR zdO zbo (Res.rmod_insts (V.hD _ Q0)) Z Z O O<|Q<|zay (vs:=zbq _ _ _ _ _ _) zbo Z Z Z (Res.rs2_cells (m:=4) (Res.rmod_insts (V.hD _ Q0)) _ (zbO (g:=zdK) (d:=zeroI) zcM _ _ O))<|Q<|zar V zbo fun w b8 V=>AI Z<|Q (SO (v:=zbf _ _ _ _ _ _) V zbo Z Z .u0 fun w V=>?_)
  refine NSR<|Q<|zay (vs:=zbq _ _ _ _ _ _) zbo Z Z Z (zac (n:=4) (V.objL Q0) _ Z)<|Q<|zaa zcZ Z<|Q<|zae (v:=.int .u32 _) za9 Z Z (V.cellL Q4 Z)<|Q (zaE (v1:=zbf _ _ _ _ _ _) (v2:=.int .u32 _) zww Z Z Z ((zkf hR (hop _ hmem) _ (Res.rmod_argsI (V.hD _ Q0) (i:=i) O) (hsm _ hmem) (hla _ hmem)).mono fun v w hp=>?_))
  obtain ⟨ro,rc,rfl,hp⟩:=hp
  replace V:St _ _ (_ :: _) _ _:=V.call0 hp
  refine Q<|zad (v:=.tuple #[gHL _ _ _ _,.int .i64 _]) Z<|Q<|Ex (gHL _ _ _ _) Z Z<|Q<|Ex (.int .i64 _) Z Z<|Q<|zar V zcK fun w b9 V=>Q (SO (v:=gHL _ _ _ _) V zcK Z Z .u0 fun w V=>?_)
  refine AI Z<|NSR<|MI Z<|Q<|zaa zeb Z<|Q<|zae (v:=.slice _ _ _) zcn Z Z (V.cellL Q0 Z)<|Q<|zaH (rest:=[]) zcn Z<|Q<|zaA Z Z Z zbt<|Q<|zbu Z Z Z zbt<|AI Z<|G<|zaj [(1,Pp _ _),(3,Pp _ _),(4,.int .i64 _),(6,.slice _ _ _),(7,.int .i64 _),(9,Pp _ _),(10,.int .i64 _),(27,.slice _ _ _),(28,.int .i64 _),(29,.int .i64 _)] E10 fun f=>SQ<|zak ?_
  refine SR<|MI Z<|Q<|zaF Z Z<|AB Z<|G<|zab Z (fun g5=>?_) (fun g5=>?_)
  ·refine SR <| MI Z <| MI Z <| Q (zaf zaV zbW (.c (v := .int .i64 _) Z (h := (.c (v := .int .i64 _) Z (h := .nil)))) ?_)
   refine AL Z<|Q (SO (v:=gII _ _) V zaV Z Z .u5 fun w V=>?_)
   refine G<|zaq func46 Z (TP (v:=.slice _ _ _) Z) (zat (vs:=lII _ _) Z zaV Z Z (zac (n:=2) (V.objL Q5) _ Z)) ?_
   replace V:=V.pick .nil
   rw [if_pos g5] at hsh
   have hS:=zd5 (Y:=bd) (l:=(l.map InstP.L)) O O
   rw [hJ.2.1,hsh] at hS
   have hne:=g5
   replace V:=St.starCons ((V.starNil).pushNil 62 2)
   refine ⟨none,0,[],?_,?_,V.noD⟩
   ·rw [hS] <;> rfl
   ·rw [hS,if_neg hne] <;> rfl
  refine SR<|MI Z<|Q<|zaN Z Z<|AB Z<|G<|zab Z (fun g6=>?_) (fun g6=>?_)
  ·refine SR <| MI Z <| Q (zaf zaV zbW (.c (v := .int .i64 _) Z (h := (.c (v := .int .i64 _) Z (h := .nil)))) ?_)
   refine AL Z<|Q (SO (v:=gII _ _) V zaV Z Z .u5 fun w V=>?_)
   refine G<|zaq func46 Z (TP (v:=.slice _ _ _) Z) (zat (vs:=lII _ _) Z zaV Z Z (zac (n:=2) (V.objL Q5) _ Z)) ?_
   replace V:=V.pick .nil
   have hr0:re = 0:=Nn g5
   have hrm:=(hrl.2.1 hr0).1
   dsimp only at hrm hsh
   rw [if_neg g5,if_pos (by omega)] at hsh
   have hS:=zd5 (Y:=bd) (l:=(l.map InstP.L)) O O
   rw [hJ.2.1,hsh] at hS
   have hne:(4:Int) ≠ 0:=by decide
   replace V:=St.starCons ((V.starNil).pushNil 62 2)
   refine ⟨none,0,[],?_,?_,V.noD⟩
   ·rw [hS] <;> rfl
   ·rw [hS,if_neg hne] <;> rfl
  refine zag<|zah<|RG<|ML Z<|Q<|zay (vs:=lHL _ _ _ _) zcK Z Z Z (zac (n:=2) (V.objL Q0) _ Z)<|Q (zaI (z0:=[.int .u16 0,.slice none 0 0]) V zov zcK Z Z Kr (.c (v:=gHL _ _ _ _) Z (h:=.nil)) fun w b60 V=>?_)
  refine Q (zaP (news:=(lHL _ _ _ _)) V zov zcK Z Z .u5 Z Z Z (zac (n:=2) (V.objL Q0) _ Z) Z Z O fun w ao7 cp8 V=>?_)
  replace V:=V.drop .u1
  refine AL Z<|G<|zah<|RG<|Q<|zaA Z Z Z zbt<|MI Z<|G<|zaD ?_
  replace V:=V.pick (.c .u2 (.c .u3 (.k5 .nil)))
  replace V:=V.starSnoc
  have e1:done.length + 1 = (done ++ [(⟨rop,ro,rc,rws⟩:RawP)]).length:=by simp
  have e2:done.flatMap zkW ++ [.int .u16 rop,.slice ro rws.length rc] = (done ++ [(⟨rop,ro,rc,rws⟩:RawP)]).flatMap zkW:=by simp
  have e3:done.map (Res.oword 22) ++ [Res.sl ro rws.length rc 22 1 (rws.flatMap zci)] = (done ++ [(⟨rop,ro,rc,rws⟩:RawP)]).map (Res.oword 22):=by simp
  rw [e1,e2,e3] at V
  have hr0:re = 0:=Nn g5
  have hrm:=(hrl.2.1 hr0).1
  dsimp only at hrm hsh
  rw [if_neg g5,if_neg (by omega)] at hsh
  have hI2:(done ++ [(⟨rop,ro,rc,rws⟩:RawP)]).map RawP.L = zd6 bd ((l.map InstP.L).take (i + 1)):=by rw [List.map_append,hJ.2.2.2,zru (by omega),hR]; rfl
  replace V:=V.pick (.k2 (.c .u2 (.c .u2 .nil)))
  exact ih3 ((i + 1,n + zbY (zaW (l.getD i zeroI).op) (l.getD i zeroI).args,ao7,cp8,done ++ [(⟨rop,ro,rc,rws⟩:RawP)])) _ w (by (try dsimp only); omega) V (⟨by (try dsimp only); omega,hJ.2.1.trans hsh,by (try dsimp only); omega,hI2⟩) E4 ⟨(Vi (by (try dsimp only); omega)),(by (try dsimp only); rw [← e1]; rfl),(Vi (by (try dsimp only); omega)),trivial⟩
 obtain rfl:i = l.length:=by omega
 refine zaK (id:=0) Z<|SR<|ML Z<|Q (zaf zaV zbW .nil ?_)
 refine AL Z<|Q (SO (v:=gII _ _) V zaV Z Z .u2 fun w V=>?_)
 refine G<|zaq func46 Z (TP (v:=.slice _ _ _) Z) (zat (vs:=lII _ _) Z zaV Z Z (zac (n:=2) (V.objL Q2) _ Z)) ?_
 replace V:=V.pick (.c .u1 (.k1 .nil))
 have hll:l.length = (l.map InstP.L).length:=by rw [List.length_map]
 have hS:=zd5 (Y:=bd) (l:=(l.map InstP.L)) O O
 rw [hJ.2.1,hll,zrn] at hS
 refine ⟨aq,cq,done,?_,?_,(St.starCons V).noD⟩
 ·rw [hS]
 ·rw [hS,if_pos rfl,hJ.2.2.2,hll,List.take_length]
end Go.SK
namespace Go.SK
open Go Go.Proofs Go.Proofs.Tryz
theorem ent46:zaG prog 46:=⟨f46,_,func46,Kr,rfl⟩
open Go.RowKit
theorem zlv (gn bd:Int) (l:List InstP) (ao:Option Addr) (cp:Nat) {se sa:Int} (hS:zbl bd (l.map InstP.L) = (se,sa)) (w:World) (hA:(Res.rmod ao l).holds w) (hl:l.length ≤ 3000000000000) (hop:∀ i ∈ l,0 ≤ i.op) (hsm:∀ i ∈ l,(i.args.map zaT).sum ≤ 900000000) (hla:∀ i ∈ l,∀ a ∈ i.args,a.s.length ≤ 100000000000):Ret prog 46 #[.agg #[.int .u32 gn,.int .u32 bd,.slice ao l.length cp]] w (fun v w'=>∃ ro rc done,v = .tuple #[.slice ro done.length rc,.agg #[.int .i64 se,.int .i64 sa]] ∧ done.map RawP.L = (if se = 0 then zd6 bd (l.map InstP.L) else []) ∧ St w NoM [Res.oraws 62 22 ro rc done] [] w'):=by
 have h:=zuZ gn bd l ao cp w hA hl hop hsm hla
 rw [hS] at h; exact h
theorem zsv (gn bd:Int) (l:List InstP) (ao:Option Addr) (cp:Nat) (w:World) (hA:(Res.rmod ao l).holds w) (hl:l.length ≤ 3000000000000) (hop:∀ i ∈ l,0 ≤ i.op) (hsm:∀ i ∈ l,(i.args.map zaT).sum ≤ 900000000) (hla:∀ i ∈ l,∀ a ∈ i.args,a.s.length ≤ 100000000000):Ret prog 19 #[.agg #[.int .u32 gn,.int .u32 bd,.slice ao l.length cp]] w (fun v w'=>v = .agg #[.int .i64 (zbl bd (l.map InstP.L)).1,.int .i64 (zbl bd (l.map InstP.L)).2] ∧ St w NoM [] [] w'):=by
 refine zav (args:=[.agg #[.int .u32 gn,.int .u32 bd,.slice ao l.length cp]]) func19 Z Z Z ?_
 have V:St w NoM [] [Res.rmod ao l] w:=St.init_D hA
 clear hA
 obtain ⟨se,sa,hS⟩:∃ se sa,zbl bd (l.map InstP.L) = (se,sa):=⟨_,_,rfl⟩
 refine SR<|Q<|zbi (v:=zc7 _ _ _ _ _) V Z Z fun w b1 V=>Q<|zar V zaV fun w b2 V=>NSR<|Q<|zay (vs:=zh8 _ _ _ _ _) zcx Z Z Z (zac (n:=3) (V.objL Q1) _ Z)<|Q (zao (v1:=zc7 _ _ _ _ _) ent46 Z Z ((zlv _ _ _ _ _ hS _ (V.hD _ Q0) hl hop hsm hla).mono fun v w hp=>?_))
 obtain ⟨aR,cR,done,rfl,hd,hp⟩:=hp
 replace V:St _ _ (_ :: _) _ _:=V.call0 hp
 refine Q<|zad (v:=.tuple #[.slice _ _ _,gII _ _]) Z<|Q<|Ex (.slice _ _ _) Z Z<|Q<|Ex (gII _ _) Z Z<|Q<|zar V zaV fun w b4 V=>AL Z<|Q (SO (v:=gII _ _) V zaV Z Z .u0 fun w V=>?_)
 refine NSR<|Q<|zay (vs:=lII _ _) zaV Z Z Z (zac (n:=2) (V.objL Q0) _ Z)<|Q (SO (v:=gII _ _) V zaV Z Z .u2 fun w V=>?_)
 refine G<|zai func19 Z (zat (vs:=lII _ _) Z zaV Z Z (zac (n:=2) (V.objL Q2) _ Z)) ?_
 rw [hS]
 exact ⟨Z,V.pure⟩
theorem zpK (gn bd:Int) (l:List InstP) (ao:Option Addr) (cp:Nat) {se sa:Int} (hS:zbl bd (l.map InstP.L) = (se,sa)) (w:World) (hA:(Res.rmod ao l).holds w) (hl:l.length ≤ 3000000000000) (hop:∀ i ∈ l,0 ≤ i.op) (hsm:∀ i ∈ l,(i.args.map zaT).sum ≤ 900000000) (hla:∀ i ∈ l,∀ a ∈ i.args,a.s.length ≤ 100000000000):Ret prog 19 #[.agg #[.int .u32 gn,.int .u32 bd,.slice ao l.length cp]] w (fun v w'=>v = .agg #[.int .i64 se,.int .i64 sa] ∧ St w NoM [] [] w'):=by
 have h:=zsv gn bd l ao cp w hA hl hop hsm hla
 rw [hS] at h; exact h
end Go.SK
namespace Go.SK
open Go Go.Proofs Go.Proofs.Tryz
theorem ent63:zaG prog 63:=⟨f63,_,func63,Kr,rfl⟩
theorem zpb:FldF prog 92 0 0:=FldF.of (n:=1) Kr
theorem ent95:zaG prog 95:=⟨f95,_,func95,Kr,rfl⟩
theorem ent96:zaG prog 96:=⟨f96,_,func96,Kr,rfl⟩
theorem ty92:TyF prog 92 (.struct (zbm prog 92)) 2 32 [.pointer none,.slice none 0 0]:=zbp Kr Kr
theorem ent47:zaG prog 47:=⟨f47,_,func47,Kr,rfl⟩
theorem ent50:zaG prog 50:=⟨f50,_,func50,Kr,rfl⟩
theorem ent51:zaG prog 51:=⟨f51,_,func51,Kr,rfl⟩
theorem zwA:zaG prog 21:=⟨f21,_,func21,Kr,rfl⟩
open Go.RowKit
theorem zj8 {gn bd se sa:Int} {l:List InstP} (hS:zbl bd (l.map InstP.L) = (se,sa)) (ao:Option Addr) (cp:Nat) (w:World) (hA:(Res.rmod ao l).holds w) (hs:Small l):Ret prog 19 #[.agg #[.int .u32 gn,.int .u32 bd,.slice ao l.length cp]] w (fun v w'=>v = .agg #[.int .i64 se,.int .i64 sa] ∧ St w NoM [] [] w') :=
 zpK gn bd l ao cp hS w hA hs.len hs.op hs.sum hs.txt
theorem zn7 (b:Nat) (p:Value) (ao:Option Addr) (cp:Nat) (l:Tx) (ts:List TokL) (ao2:Option Addr) (c2:Nat) (rT:Res) (hrs:∀ w:World,rT.holds w → (Res.rs ao2 ts.length 3 (ts.flatMap zeJ)).holds w) (w:World) (hG:LxG.holds w) (hR:(BdR 92 5 b p ao cp l).holds w) (hp0:p = .pointer none ∨ p = .pointer (some ⟨b,0,none⟩)) (hT:rT.holds w) (hRG:Apart (BdR 92 5 b p ao cp l) LxG) (hRT:Apart (BdR 92 5 b p ao cp l) rT) (hlt:ts.length ≤ 1099511627776) (hwt:wsz ts ≤ 1099511627776) (hl:l.length + (wrS ts).length + 1 ≤ 140737488355328):Ret prog 47 #[.pointer (some ⟨b,0,none⟩),.slice ao2 ts.length c2] w (fun v w'=>∃ ao' cp',v = .tuple #[] ∧ St w (BdR 92 5 b p ao cp l).foot [BdR 92 5 b (.pointer (some ⟨b,0,none⟩)) ao' cp' (l ++ wrS ts ++ [10])] [] w'):=by
 refine zav (args:=[.pointer (some ⟨b,0,none⟩),.slice ao2 ts.length c2]) func47 Z Z Z ?_
 have V:St w (BdR 92 5 b p ao cp l).foot [BdR 92 5 b p ao cp l] [LxG,rT] w:=St.enter1 hR (by simp only [List.forall_mem_cons]; exact ⟨hG,hT,fun _ h=>absurd h List.not_mem_nil⟩) (by simp only [List.forall_mem_cons]; exact ⟨hRG,hRT,fun _ h=>absurd h List.not_mem_nil⟩)
 refine SR<|ML Z<|Q<|zao (v1:=.slice _ _ _) ent63 Z Z<|Ret.det (zkc ts _ _ _ (V.hD _ Q0) (hrs _ (V.hD _ Q1)) hlt hwt) V fun w V=>Q<|zad (v:=.tuple #[str _,.int .i64 _]) Z<|Q<|Ex (str _) Z Z<|Q<|Ex (.int .i64 _) Z Z<|AS Z<|AI Z<|NSR<|MP Z<|Q<|zan Z<|Q (zaa zpb Z ?_)
 refine MS Z<|Q (zaE (v1:=Pp _ _) (v2:=str _) ent95 Z Z Z ((ziD b p ao cp l (wrS ts) _ (V.hL _ Q0) hp0 O).mono fun v w hp=>?_))
 obtain ⟨ao1,cp1,rfl,hp⟩:=hp
 replace V:St _ _ [_] _ _:=V.call1 hp
 refine NR<|MP rfl<|Q<|zan rfl<|Q<|zaa zpb rfl<|Q (zaE (v1:=Pp _ _) (v2:=.int .u8 _) ent96 rfl rfl rfl ((zkB b _ ao1 cp1 (l ++ wrS ts) _ (V.hL _ Q0) (.inr rfl) (by rw [List.length_append]; omega)).mono fun v w hp=>?_))
 obtain ⟨ao3,cp3,rfl,hp⟩:=hp
 replace V:St _ _ [_] _ _:=V.call1 hp
 refine G<|zdA func47 Z  ?_
 replace V:=V.pick (.k1 .nil)
 exact ⟨_,_,Z,V.noD⟩
theorem zuJ (gn bd:Int) (l:List InstP) (ao:Option Addr) (cp:Nat) (w:World) (hG:LxG.holds w) (hA0:(Res.rmod ao l).holds w) (hs:Small l) (hu:∀ x ∈ l,x.L.U32) (hgn:0 ≤ gn ∧ gn < 4294967296) (hbd:0 ≤ bd ∧ bd < 4294967296):Ret prog 21 #[.agg #[.int .u32 gn,.int .u32 bd,.slice ao l.length cp]] w (fun v w'=>v = .tuple #[str (zcV gn bd (l.map InstP.L)).1,.agg #[.int .i64 (zcV gn bd (l.map InstP.L)).2.1,.int .i64 (zcV gn bd (l.map InstP.L)).2.2]] ∧ St w NoM [] [] w'):=by
 refine zav (args:=[.agg #[.int .u32 gn,.int .u32 bd,.slice ao l.length cp]]) func21 Z Z Z ?_
 have V:St w NoM [] [LxG,Res.rmod ao l] w:=St.init_Ds (by simp only [List.forall_mem_cons]; exact ⟨hG,hA0,fun _ h=>absurd h List.not_mem_nil⟩)
 have hln:=hs.len
 refine SR<|Q<|zbi (v:=zc7 _ _ _ _ _) V Z Z fun w b1 V=>AS Z<|Q<|zar V zaV fun w b3 V=>G<|SQ<|SR<|Q (zay (vs:=zh8 _ _ _ _ _) zcx Z Z Z (zac (n:=3) (V.objL Q1) _ Z) ?_)
 obtain ⟨se,sa,hS⟩:∃ se sa,zbl bd (l.map InstP.L) = (se,sa):=⟨_,_,rfl⟩
 refine Q<|zao (v1:=zc7 _ _ _ _ _) ent19 Z Z<|Ret.det (zj8 hS _ _ _ (V.hD _ Q1) hs) V fun w V=>Q<|zar V zaV fun w b4 V=>Q (SO (v:=gII _ _) V zaV Z Z .u0 fun w V=>?_)
 refine NSR<|Q<|zaa zbB Z<|Q<|zae (v:=.int .i64 _) zdQ Z Z (V.cellL Q0 Z)<|Q<|zaF Z Z<|G<|zab Z (fun g1=>?_) (fun g1=>?_)
 ·refine SQ <| zaC [] V (bs := [0, 0, 3]) (ds := [some 13, some 2, none]) ⟨Kr, Kr, Kr⟩ (fun tab2 => ?_)
  refine DO tab2 1 (fun _ _ _ hc=>zay (vs:=lII _ _) zaV Z (hc.old (v:=Pp _ _) Z Z Z) Z (zac (n:=2) (hc.st.objL (Ar Q0)) _ Z) hc.z)<|DO tab2 2 (fun _ _ _ hc=>zap (v:=str _) Z hc.z)<|RunD.fin zaw tab2 V Z (fun f3 w R6 hs4 hd5 hr7 V=>?_)
  obtain ⟨h13_,r0⟩:=hd5 0 13 rfl rfl
  obtain ⟨h2_,r1⟩:=hd5 1 2 rfl rfl
  simp only [rg2,Fc,Fn,Mc,Mn,r0,r1,Na,An,Ca] at V
  refine zaz (sl:=[(2,str _),(3,Pp _ _),(13,gII _ _)]) ⟨h2_,(hs4 3 Z).trans Z,h13_,trivial⟩ ?_
  clear hs4 hd5 hr7 tab2
  refine Q (SO (v:=gII _ _) V zaV Z Z .u1 fun w V=>?_)
  refine G<|zaq func21 Z (TP (v:=str _) Z) (zat (vs:=lII _ _) Z zaV Z Z (zac (n:=2) (V.objL Q1) _ Z)) ?_
  rw [zvH (gn:=gn) (by rw [hS]; exact g1),hS]
  exact ⟨Z,V.pure⟩
 have hs0:(zbl bd (l.map InstP.L)).1 = 0:=by rw [hS]; exact Nn g1
 refine zag<|SR<|Q<|zar V ty92 fun w b5 V=>G<|SQ ?_
 replace V:=V.pushNil 5 1
 replace V:=V.pick (.c .u1 (.k4 .nil))
 replace V:St _ _ (BdR 92 5 b5 (.pointer none) none 0 ([]:Tx) :: _) _ _:=St.pack (L1:=[_,_]) V
 have hwh:=zwe (gn:=gn) (bd:=bd) hgn hbd
 have hjl:=fun i=>zri (gn:=gn) hs0 hgn hbd.1 hu i
 have hj0:=hjl 0
 rw [zjh,List.length_append] at hj0
 refine zaC [] V (bs:=[0,0,2,7,0,16,63,127,255]) (ds:=[some 14,some 15,some 16,some 17,some 18,some 19,some 20,some 21,some 22]) ⟨Kr,Kr,Kr⟩ (fun tab8=>?_)
 refine DO tab8 1 (fun _ _ _ hc=>zao (v1:=str _) zyw Z Z ((zj6 modW _).mono fun v w hp=>⟨[],⟨hp.1,Z⟩,hc.st.keepc hp.2⟩))<|DO tab8 2 (fun _ _ _ hc=>zaa zfg (hc.old (v:=Pp _ _) Z Z Z) hc.z)<|DO tab8 3 (fun _ _ _ hc=>zae (v:=.int .u32 _) za9 Z (hc.d 1 Z Z Z Z) (hc.st.cellL (Ar Q3) Z) hc.z)<|DO tab8 4 (fun _ _ _ hc=>zao (v1:=.int .u32 _) zyv Z (hc.d 2 Z Z Z Z) ((zg3 gn hgn.1 hgn.2 _ (hc.st.hD _ Q0)).mono fun v w hp=>⟨[],⟨hp.1,Z⟩,hc.st.keepc hp.2⟩))<|DO tab8 5 (fun _ _ _ hc=>zaa zcZ (hc.old (v:=Pp _ _) Z Z Z) hc.z)<|DO tab8 6 (fun _ _ _ hc=>zae (v:=.int .u32 _) za9 Z (hc.d 4 Z Z Z Z) (hc.st.cellL (Ar Q3) Z) hc.z)<|RunD.fin zaw tab8 V Z (fun f9 w R12 hs10 hd11 hr13 V=>?_)
 obtain ⟨h14_,r0⟩:=hd11 0 14 rfl rfl
 obtain ⟨h15_,r1⟩:=hd11 1 15 rfl rfl
 obtain ⟨h16_,r2⟩:=hd11 2 16 rfl rfl
 obtain ⟨h17_,r3⟩:=hd11 3 17 rfl rfl
 obtain ⟨h18_,r4⟩:=hd11 4 18 rfl rfl
 obtain ⟨h19_,r5⟩:=hd11 5 19 rfl rfl
 simp only [rg6,Fc,Fn,Mc,Mn,r0,r1,r2,r3,r4,r5,Na,An,Ca] at V
 refine zaz (sl:=[(1,Pp _ _),(3,Pp _ _),(5,Pp _ _),(14,zbZ _ _ _),(17,zbZ _ _ _),(19,.int .u32 _)]) ⟨(hs10 1 Z).trans Z,(hs10 3 Z).trans Z,(hs10 5 Z).trans Z,h14_,h17_,h19_,trivial⟩ ?_
 clear hs10 hd11 hr13 tab8
 refine Q<|zao (v1:=.int .u32 _) zyv Z Z<|Ret.det (zg3 bd hbd.1 hbd.2 _ (V.hD _ Q0)) V fun w V=>Q (zaI (z0:=[.int .u8 0,str [],.int .i64 0,.int .u8 0,str [],.int .i64 0,.int .u8 0,str [],.int .i64 0]) V zfI zbw Z Z Kr (.c (v:=zbZ _ _ _) Z (h:=(.c (v:=zbZ _ _ _) Z (h:=(.c (v:=zbZ _ _ _) Z (h:=.nil)))))) fun w b21 V=>?_)
 replace V:=V.pick (.c .u1 (.k4 .nil))
 refine Q (zaE (v1:=Pp _ _) (v2:=.slice _ _ _) ent47 rfl rfl rfl ((zn7 b5 (.pointer none) none 0 [] (ziA gn bd) (some ⟨b21,0,none⟩) _ (Res.row b21 72 ((ziA gn bd).flatMap zeJ)) (fun w h=>zxf h rfl) _ (V.hD _ Q0) (V.hL _ Q0) (.inl rfl) (V.hL _ Q1) (V.sepD _ Q0 _ Q0) ((List.pairwise_cons.1 V.sep).1 _ Q0) (by show 3 ≤ 1099511627776; omega) (by omega) (by simp only [List.length_nil,List.length_cons] at hj0 ⊢; omega)).mono fun v w hp=>?_))
 obtain ⟨aq0,cq0,rfl,hp⟩:=hp
 replace V:St _ _ (_ :: _) _ _:=V.call1 hp
 replace V:=V.drop .u1
 refine G<|zaj [(1,Pp _ _),(3,Pp _ _),(5,Pp _ _)] E3 fun f=>SQ<|SR<|Q<|zaa zbX rfl<|Q<|zae (v:=.slice _ _ _) zdO rfl rfl (V.cellL Q3 rfl)<|Q<|zaH (rest:=[]) zdO rfl<|MI rfl<|G<|zak<|zaY<|zaZ [(3,Pp _ _),(5,Pp _ _),(24,.slice _ _ _),(25,.int .i64 _)] E4 (fun (qq:Nat × Option Addr × Nat)=>[(26,.int .i64 (qq.1:Int))]) (fun (qq:Nat × Option Addr × Nat)=>[BdR 92 5 b5 (.pointer (some ⟨b5,0,none⟩)) qq.2.1 qq.2.2 (zfJ gn bd (l.map InstP.L) qq.1)]) (fun (qq:Nat × Option Addr × Nat)=>qq.1 ≤ l.length) (fun (qq:Nat × Option Addr × Nat)=>l.length - qq.1) ((0,aq0,cq0)) (by (try dsimp only); rw [zjh]; exact V) (Nat.zero_le _) ⟨rfl,trivial⟩ ?_
 intro ⟨i,aq,cq⟩ f w V hJ ih14
 replace V:St _ _ ([BdR 92 5 b5 (.pointer (some ⟨b5,0,none⟩)) aq cq (zfJ gn bd (l.map InstP.L) i)] ++ [_,_,_]) _ _:=V
 replace hJ:i ≤ l.length:=hJ
 refine za6 (sl:=[(26,.int .i64 (i:Int))]) ⟨Z,trivial⟩<|SR<|Q<|zaN Z Z<|G<|SQ<|zab Z (fun g15=>?_) (fun g15=>?_)
 ·have hi : i < l.length := by omega
  have hym:(l.getD i zeroI) ∈ l:=zbJ hi
  have hyu:=hu _ hym
  have hyo:=hs.op _ hym
  have hys:=hs.sum _ hym
  have hyw:=zkM hyu hys
  have hyn:=zrh (gn:=gn) hi hs0 hbd.1 hu
  refine zag<|SQ<|zak<|SR<|Q<|zaR zdO zbo (Res.rmod_insts (V.hD _ Q1)) Z Z O O<|Q<|zay (vs:=zbq _ _ _ _ _ _) zbo Z Z Z (Res.rs2_cells (m:=4) (Res.rmod_insts (V.hD _ Q1)) _ (zbO (g:=zdK) (d:=zeroI) zcM _ _ O))<|Q<|zar V zbo fun w b7 V=>Q (SO (v:=zbf _ _ _ _ _ _) V zbo Z Z .u0 fun w V=>?_)
  refine NR<|Q<|zay (vs:=zbq _ _ _ _ _ _) zbo Z Z Z (zac (n:=4) (V.objL Q0) _ Z)<|Q (zao (v1:=zbf _ _ _ _ _ _) ent50 Z Z ((zj7 (l.getD ((i:Int).toNat) zeroI) _ (V.hD _ Q0) (Res.rmod_argsI (V.hD _ Q1) hi) hyu hyo hys).mono fun v w hp=>?_))
  obtain ⟨aoK,cpK,rfl,hp⟩:=hp
  replace V:St _ _ (_ :: _) _ _:=V.call0 hp
  replace V:=V.pick (.c .u2 (.k5 .nil))
  refine Q (zaE (v1:=Pp _ _) (v2:=.slice _ _ _) ent47 rfl rfl rfl ((zn7 b5 (.pointer (some ⟨b5,0,none⟩)) aq cq (zfJ gn bd (l.map InstP.L) i) (zhT (l.getD i zeroI).L) aoK _ _ (fun w h=>Res.rs_of_sl h) _ (V.hD _ Q0) (V.hL _ Q0) (.inr rfl) (V.hL _ Q1) (V.sepD _ Q0 _ Q0) ((List.pairwise_cons.1 V.sep).1 _ Q0) hyw.2 hyw.1 (by have h1:=congrArg List.length hyn.1; simp only [List.length_append,List.length_cons,List.length_nil] at h1; have h2:=hjl (i + 1); show (zfJ gn bd (l.map InstP.L) i).length + (wrS (zhT (l.getD i zeroI).L)).length + 1 ≤ _; omega)).mono fun v w hp=>?_))
  obtain ⟨aq2,cq2,rfl,hp⟩:=hp
  replace V:St _ _ (_ :: _) _ _:=V.call1 hp
  rw [hyn.1] at V
  refine G<|zah<|RG<|Q<|zaA Z Z Z zbt<|MI Z<|G<|zaD ?_
  replace V:=V.pick (.k1 (.c .u2 (.c .u2 (.c .u2 .nil))))
  exact ih14 ((i + 1,aq2,cq2)) _ w (Od) V (Od) E4 ⟨(Vi Od),trivial⟩
 have hi:i = l.length:=by omega
 refine zaK (id:=0) Z<|SR<|Q (zaa zpb Z ?_)
 replace V:=V.pick (.k4 .nil)
 refine Q (zao (v1:=Pp _ _) ent51 Z Z ((zpu b5 _ aq cq _ _ (V.hL _ Q0) zvI).mono fun v w hp=>?_))
 obtain ⟨rfl,hp⟩:=hp
 replace V:St _ _ _ _ _:=V.call1 hp
 rw [List.nil_append] at V
 refine Q (zaf zaV zbW .nil ?_)
 refine AS Z<|Q (SO (v:=gII _ _) V zaV Z Z .u1 fun w V=>?_)
 refine G<|zaq func21 Z (TP (v:=str _) Z) (zat (vs:=lII _ _) Z zaV Z Z (zac (n:=2) (V.objL Q1) _ Z)) ?_
 rw [zmL (gn:=gn) hs0,List.length_map,← hi]
 exact ⟨Z,V.pure⟩
theorem zgu {gn bd se sa:Int} {l:List InstP} {x:Tx} (hT:zcV gn bd (l.map InstP.L) = (x,(se,sa))) (ao:Option Addr) (cp:Nat) (w:World) (hG:LxG.holds w) (hA0:(Res.rmod ao l).holds w) (hs:Small l) (hu:∀ x ∈ l,x.L.U32) (hgn:0 ≤ gn ∧ gn < 4294967296) (hbd:0 ≤ bd ∧ bd < 4294967296):Ret prog 21 #[.agg #[.int .u32 gn,.int .u32 bd,.slice ao l.length cp]] w (fun v w'=>v = .tuple #[str x,.agg #[.int .i64 se,.int .i64 sa]] ∧ St w NoM [] [] w'):=by
 have h:=zuJ gn bd l ao cp w hG hA0 hs hu hgn hbd
 rw [hT] at h; exact h
theorem zuM (s:Tx) (w:World) (hl:s.length ≤ 140737488355328):Ret prog 142 #[str s,str [10]] w (fun v w'=>v = .tuple #[str (zlf s),str (zjY s),.bool (decide (0 ≤ Lib.indexByte s 10))] ∧ St w NoM [] [] w'):=by
 refine zav (args:=[str s,str [10]]) func142 Z Z Z ?_
 have V:=St.init w
 have hix:=zhw s
 have hige:=idx_ge s
 have h10:([10]:Tx).length = 1:=rfl
 refine SR<|AS Z<|AS Z<|AB Z<|G<|SQ<|SR<|MS Z<|MS Z<|Q<|zaE (v1:=str _) (v2:=str _) ent185 Z Z Z<|Ret.det (lx_IX s 10 _) V fun w V=>AI Z<|G<|SQ ?_
 refine RG<|MI Z<|Q<|zbh Z Z<|G<|zab Z (fun g1=>?_) (fun g1=>?_)
 ·refine SQ <| zaC [] V (bs := [0, 0, 3, 0, 0, 0, 32, 112, 248, 7, 1023, 2047]) (ds := [some 13, some 14, some 15, some 16, some 17, some 18, some 19, some 20, some 21, some 4, some 5, some 6]) ⟨Kr, Kr, Kr⟩ (fun tab2 => ?_)
  refine DO tab2 1 (fun _ _ _ hc=>zad (v:=str _) (hc.old Z Z Z) hc.z)<|DO tab2 2 (fun _ _ _ hc=>zad (v:=.int .i64 _) (hc.old Z Z Z) hc.z)<|DO tab2 3 (fun _ _ _ hc=>zdw ty9 (hc.d 0 Z Z Z Z) (hc.d 1 Z Z Z Z) O O hc.z)<|DO tab2 4 (fun _ _ _ hc=>zad (v:=str _) (hc.old Z Z Z) hc.z)<|DO tab2 5 (fun _ _ _ hc=>zad (v:=.int .i64 _) (hc.old Z Z Z) hc.z)<|DO tab2 6 (fun _ _ _ hc=>zad (v:=str _) (hc.old Z Z Z) hc.z)<|DO tab2 7 (fun _ _ _ hc=>zbb (rest:=[]) ty9 (hc.d 5 Z Z Z Z) hc.z)<|DO tab2 8 (fun _ _ _ hc=>zaA (hc.d 4 Z Z Z Z) (hc.d 6 Z Z Z Z) Z zbt hc.z)<|DO tab2 9 (fun _ _ _ hc=>zcF ty9 (hc.d 3 Z Z Z Z) (hc.d 7 Z Z Z Z) O O hc.z)<|DO tab2 10 (fun _ _ _ hc=>zap (v:=str _) (hc.d 2 Z Z Z Z) hc.z)<|RunD.fin zaw tab2 V Z (fun f3 w R6 hs4 hd5 hr7 V=>?_)
  obtain ⟨h13_,r0⟩:=hd5 0 13 rfl rfl
  obtain ⟨h14_,r1⟩:=hd5 1 14 rfl rfl
  obtain ⟨h15_,r2⟩:=hd5 2 15 rfl rfl
  obtain ⟨h16_,r3⟩:=hd5 3 16 rfl rfl
  obtain ⟨h17_,r4⟩:=hd5 4 17 rfl rfl
  obtain ⟨h18_,r5⟩:=hd5 5 18 rfl rfl
  obtain ⟨h19_,r6⟩:=hd5 6 19 rfl rfl
  obtain ⟨h20_,r7⟩:=hd5 7 20 rfl rfl
  obtain ⟨h21_,r8⟩:=hd5 8 21 rfl rfl
  obtain ⟨h4_,r9⟩:=hd5 9 4 rfl rfl
  simp only [rg10,Fc,Fn,Mc,Mn,r0,r1,r2,r3,r4,r5,r6,r7,r8,r9,Na,An,Ca] at V
  refine zaz (sl:=[(4,str _),(21,str _)]) ⟨h4_,h21_,trivial⟩ ?_
  clear hs4 hd5 hr7 tab2
  refine AS Z<|AB Z<|G<|zbe func142 Z (TP (v:=str _) Z) (TP (v:=str _) Z) (TP (v:=.bool _) Z) ?_
  obtain ⟨h1,h2,h3⟩:=zyl (r:=s) O
  rw [h2,h3,Dt g1]
  exact ⟨Z,V.pure⟩
 refine zag<|SR<|MS Z<|AS Z<|AS Z<|AB Z<|G<|zbe func142 Z (TP (v:=str _) Z) (TP (v:=str _) Z) (TP (v:=.bool _) Z) ?_
 obtain ⟨h2,h3⟩:=zym (r:=s) O
 rw [h2,h3,Df g1]
 exact ⟨Z,V.pure⟩
theorem zqV (s:Tx) (w:World) (hl:s.length ≤ 140737488355328):Ret prog 82 #[str s,str [10]] w (fun v w'=>v = .tuple #[str (zlf s),str (zjY s),.bool (decide (0 ≤ Lib.indexByte s 10))] ∧ St w NoM [] [] w'):=by
 refine zav (args:=[str s,str [10]]) func82 Z Z Z ?_
 have V:=St.init w
 refine SR<|AS Z<|AS Z<|AB Z<|NSR<|MS Z<|MS Z<|Q<|zaE (v1:=str _) (v2:=str _) ent142 Z Z Z<|Ret.det (zuM s _ hl) V fun w V=>Q<|Ex (str _) Z Z<|Q<|Ex (str _) Z Z<|Q<|Ex (.bool _) Z Z<|AS Z ?_
 refine AS Z<|AB Z<|G<|zbe func82 Z (TP (v:=str _) Z) (TP (v:=str _) Z) (TP (v:=.bool _) Z) ?_
 exact ⟨Z,V.pure⟩
theorem zkd (t:Tx) (w:World):Ret prog 39 #[str t] w (fun v w'=>∃ b,v = .func (.func 81) #[] #[.pointer (some ⟨b,0,none⟩)] ∧ St w NoM [Res.row b 9 [str t]] [] w'):=by
 refine zav (args:=[str t]) func39 Z Z Z ?_
 have V:=St.init w
 refine SR<|Q<|zbi (v:=str _) V Z Z fun w b1 V=>Q<|zap (v:=_) Z<|NSR<|Q<|zbQ<|Q<|zap (v:=.func _ _ _) Z<|G<|zai func39 Z (TP (v:=.func _ _ _) Z) ?_
 exact ⟨_,Z,V⟩
end Go.SK
