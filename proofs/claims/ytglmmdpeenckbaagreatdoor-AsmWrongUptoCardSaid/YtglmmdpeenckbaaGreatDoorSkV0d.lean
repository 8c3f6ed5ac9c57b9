/-
  Steps of functions,plain law,and walks of functions: what the laws rest on.
-/
import Derived.Test.YtglmmdpeenckbaaGreatDoorSkV0c
set_option linter.unusedVariables false
set_option linter.unusedSimpArgs false
set_option linter.unusedSectionVars false
namespace Go.SK
open Go Go.Proofs Go.Proofs.Tryz
open Go.RowKit
theorem zm7 {op:Int} {fm:FormL} {ob:Bool} (h0:0 ≤ op) (hfm:za5 op = fm) (hob:(zbd op).isSome = ob) (w:World):Ret prog 75 #[.int .u16 op] w fun v w'=>v = .tuple #[.agg (zlJ fm).toArray,.bool ob] ∧ St w NoM [] [] w':=by
 subst hfm; subst hob; exact zl3 op h0 w
theorem zkK {op:Int} {fm:FormL} {ob:Bool} (hfm:za5 op = fm) (hob:(zbd op).isSome = ob) (w:World):Ret prog 90 #[.int .u16 op] w fun v w'=>v = .tuple #[.agg (zlJ fm).toArray,.bool ob] ∧ St w NoM [] [] w':=by
 subst hfm; subst hob; exact zsm op w
theorem zog {c n:Int} {o:Option NameL} (h:namesL.find? (enN c n) = o) (h0:0 ≤ c) (h1:c ≤ 255) (w:World):Ret prog 152 #[.int .u8 c,.int .u32 n] w fun v w'=>v = ztw o ∧ St w NoM [] [] w':=by
 subst h; exact zqy c n h0 h1 w
theorem zkL (op:Int) (h0:0 ≤ op) (i:Int) (h1:i ≤ 9223372036854775807) (w:World):Ret prog 69 #[.int .u16 op,.int .i64 i] w (fun v w'=>v = .int .u8 (zaN (za5 op) i) ∧ St w NoM [] [] w'):=by
 refine zax (args:=[.int .u16 op,.int .i64 i]) func69 Z Z Z ?_
 have V:=St.init w
 obtain ⟨fm,hfm⟩:∃ x,za5 op = x:=⟨_,rfl⟩
 obtain ⟨ob,hob⟩:∃ x,(zbd op).isSome = x:=⟨_,rfl⟩
 have hf:=zeQ op
 rw [hfm] at hf
 have hz:ob = false → fm = zeroF:=fun e=>by subst e; rw [← hfm]; exact zjW hob
 obtain ⟨_,hmost,hfx,hrs,_,_,_,_⟩:=hf
 have hre:fm.rest = [] ↔ fm.rest.length = 0:=List.length_eq_zero_iff.symm
 refine SR<|AC Z<|NSR<|MH Z<|Q<|zav (v1:=.int .u16 _) ent90 Z Z<|Ret.det (zkK hfm hob _) V fun w V=>Q<|zad (v:=.tuple #[zam _ _ _ _ _ _ _ _,.bool _]) Z<|Q<|Ex (zam _ _ _ _ _ _ _ _) Z Z<|Q<|Ex (.bool _) Z Z<|Q<|zaw V zaA fun w b5 V=>Q (SO (v:=zam _ _ _ _ _ _ _ _) V zaA Z Z .u0 fun w V=>?_)
 refine AB Z<|G<|SQ<|SR<|MB Z<|Q<|zaT Z<|MB Z<|zcF (d:=15) Z (fun g1=>?_) (fun g1=>?_)
 ·refine OM (t := 15) Z (Vb g1) Z <| OM (t := 15) Z (Vb g1) Z <| Q <| zaE (u := .bool _) (Vb g1) Z <| G <| zat (Vb (Z : true = _)) <| SR <| AC Z <| G <| zag func69 Z (TP (v := .int .u8 _) Z) <| ⟨congrArg (Value.int .u8) (Eq.symm ?_), V.pure⟩
  rw [hfm]
  have hzz:fm = zeroF ∨ i < 0:=.inl (hz (by simpa using g1))
  rcases hzz with rfl | hzz
  ·exact zfm i
  ·unfold zaN; rw [if_pos hzz]
 refine TK (t:=15) Z (Vb g1)<|zad (v:=.int .i64 _) Z<|TK (t:=15) Z (Vb g1)<|zaY Z Z<|Q<|zay (u:=.bool _) (Vb g1) Z<|G<|zaa Z (fun g2=>?_) (fun g2=>?_)
 ·refine SR <| AC Z <| G <| zag func69 Z (TP (v := .int .u8 _) Z) <| ⟨congrArg (Value.int .u8) (Eq.symm ?_), V.pure⟩
  rw [hfm]
  have hzz:fm = zeroF ∨ i < 0:=.inr O
  rcases hzz with rfl | hzz
  ·exact zfm i
  ·unfold zaN; rw [if_pos hzz]
 refine zaj<|SQ<|SR<|MI Z<|Q<|zac zd6 Z<|Q<|zae (v:=str _) ty9 Z Z (V.cellL Q0 Z)<|Q<|zaX (rest:=[]) ty9 Z<|Q<|zaY Z Z<|G<|zal [(1,.int .i64 _),(5,Pp _ _),(23,.bool _)] E3 fun f=>zaa Z (fun g3=>?_) (fun g3=>?_)
 ·refine SR <| Q <| zac zd6 Z <| Q <| zae (v := str _) ty9 Z Z (V.cellL Q0 Z) <| MI Z <| Q <| zaZ ty9 Z Z O O <| AC Z <| G <| zag func69 Z (TP (v := .int .u8 _) Z) <| ⟨congrArg (Value.int .u8) (Eq.symm ?_), V.pure⟩
  rw [hfm]
  unfold zaN
  rw [if_neg (by omega),if_pos (by omega)]
 refine zaj<|SQ<|SR<|Q<|zac zb4 Z<|Q<|zae (v:=str _) ty9 Z Z (V.cellL Q0 Z)<|Q<|zaX (rest:=[]) ty9 Z<|Q<|zai Z Z<|G<|zaa Z (fun g4=>?_) (fun g4=>?_)
 ·refine SR <| AC Z <| G <| zag func69 Z (TP (v := .int .u8 _) Z) <| ⟨congrArg (Value.int .u8) (Eq.symm ?_), V.pure⟩
  rw [hfm]
  unfold zaN zfi
  rw [if_neg (by omega),if_neg (by omega),if_pos (by rw [hre]; omega)]
 refine zaj<|SR<|MI Z<|Q<|zac zd6 Z<|Q<|zae (v:=str _) ty9 Z Z (V.cellL Q0 Z)<|Q<|zaX (rest:=[]) ty9 Z<|Q<|zbV Z Z Z zbS<|AI Z<|G<|SQ<|SQ ?_
 have hqb:=div_bd (a:=i - (fm.fixed.length:Int)) (b:=(fm.rest.length:Int)) O O
 refine RunD.start [] V (bs:=[0,1,3,7,15,15,47,111,255,15,527,2047,4095]) (ds:=[some 37,some 38,some 39,some 40,some 41,some 42,some 43,some 44,some 45,some 46,some 47,some 48,some 49]) ⟨Kr,Kr,Kr⟩ (fun tab5=>?_)
 refine DO tab5 1 (fun _ _ _ hc=>zac zfY (hc.old (v:=Pp _ _) Z Z Z) hc.z)<|DO tab5 2 (fun _ _ _ hc=>zae (v:=.int .i64 _) ty3 Z (hc.d 0 Z Z Z Z) (hc.st.cellL (Ar Q0) Z) hc.z)<|DO tab5 3 (fun _ _ _ hc=>zbW (hc.d 1 Z Z Z Z) Z hc.z)<|DO tab5 4 (fun _ _ _ hc=>zad (v:=.bool _) (hc.d 2 Z Z Z Z) hc.z)<|zhW (j:=3) Z (fun g6=>?_) (fun g6=>?_)
 ·refine RunD.take (det _) tab5 5 Z (fun _ _ _ hc=>(hc.d 3 Z Z Z Z).trans (Vb (Dt g6))) (fun _ _ _ hc=>zad (v := .int .i64 _) (hc.old Z Z Z) hc.z) <| RunD.take (det _) tab5 6 Z (fun _ _ _ hc=>(hc.d 3 Z Z Z Z).trans (Vb (Dt g6))) (fun _ _ _ hc=>zac zb4 (hc.old (v := Pp _ _) Z Z Z) hc.z) <| RunD.take (det _) tab5 7 Z (fun _ _ _ hc=>(hc.d 3 Z Z Z Z).trans (Vb (Dt g6))) (fun _ _ _ hc=>zae (v := str _) ty9 Z (hc.d 5 Z Z Z Z) (hc.st.cellL (Ar Q0) Z) hc.z) <| RunD.take (det _) tab5 8 Z (fun _ _ _ hc=>(hc.d 3 Z Z Z Z).trans (Vb (Dt g6))) (fun _ _ _ hc => zaX (rest := []) ty9 (hc.d 6 Z Z Z Z) hc.z) ?_
  first | refine RunD.take (det _) tab5 9 rfl (fun _ _ _ hc=>(hc.d 3 rfl rfl rfl rfl).trans (Vb (Dt g6))) (fun _ _ _ hc=>ze3 (hc.d 4 rfl rfl rfl rfl) (hc.d 7 rfl rfl rfl rfl) O O rfl zbS hc.z) ?_ | refine RunD.take (det _) tab5 9 rfl (fun _ _ _ hc=>(hc.d 3 rfl rfl rfl rfl).trans (Vb (Dt g6))) (fun _ _ _ hc=>zgz (hc.d 4 rfl rfl rfl rfl) (hc.d 7 rfl rfl rfl rfl) O hc.z) ?_
  refine RunD.take (det _) tab5 10 Z (fun _ _ _ hc=>(hc.d 3 Z Z Z Z).trans (Vb (Dt g6))) (fun _ _ _ hc=>zac zfY (hc.old (v:=Pp _ _) Z Z Z) hc.z)<|RunD.take (det _) tab5 11 Z (fun _ _ _ hc=>(hc.d 3 Z Z Z Z).trans (Vb (Dt g6))) (fun _ _ _ hc=>zae (v:=.int .i64 _) ty3 Z (hc.d 9 Z Z Z Z) (hc.st.cellL (Ar Q0) Z) hc.z)<|RunD.fin zaB tab5 V Z (fun f7 w R10 hs8 hd9 hr11 V=>?_)
  obtain ⟨h37_,r0⟩:=hd9 0 37 rfl rfl
  obtain ⟨h38_,r1⟩:=hd9 1 38 rfl rfl
  obtain ⟨h39_,r2⟩:=hd9 2 39 rfl rfl
  obtain ⟨h40_,r3⟩:=hd9 3 40 rfl rfl
  obtain ⟨h41_,r4⟩:=hd9 4 41 rfl rfl
  obtain ⟨h42_,r5⟩:=hd9 5 42 rfl rfl
  obtain ⟨h43_,r6⟩:=hd9 6 43 rfl rfl
  obtain ⟨h44_,r7⟩:=hd9 7 44 rfl rfl
  obtain ⟨h45_,r8⟩:=hd9 8 45 rfl rfl
  obtain ⟨h46_,r9⟩:=hd9 9 46 rfl rfl
  obtain ⟨h47_,r10⟩:=hd9 10 47 rfl rfl
  simp only [rg11,Fc,Fn,Mc,Mn,r0,r1,r2,r3,r4,r5,r6,r7,r8,r9,r10,Na,An,Ca] at V
  refine zaH (sl:=[(5,Pp _ _),(7,.int .i64 _),(40,.bool _),(45,.int .i64 _),(47,.int .i64 _)]) ⟨(hs8 5 Z).trans Z,(hs8 7 Z).trans Z,h40_,h45_,h47_,trivial⟩ ?_
  clear hs8 hd9 hr11 tab5
  refine TK (t:=40) Z (Vb (Dt g6))<|zbh Z Z<|Q<|zaE (u:=.bool _) (Vb (Dt g6)) Z<|G<|zal [(5,Pp _ _),(7,.int .i64 _),(49,.bool _)] E3 fun f=>zaa Z (fun g12=>?_) (fun g12=>?_)
  ·refine SR <| AC Z <| G <| zag func69 Z (TP (v := .int .u8 _) Z) <| ⟨congrArg (Value.int .u8) (Eq.symm ?_), V.pure⟩
   rw [hfm]
   unfold zaN zfi
   rw [if_neg (by omega),if_neg (by omega)]
   have hmd:=zje (k:=i - (fm.fixed.length:Int)) (r:=(fm.rest.length:Int)) (m:=fm.most) O
   first | rw [if_pos (by rw [hre]; omega)] | rw [if_neg (by rw [hre]; omega)]
  have hmdd:=Int.emod_lt_of_pos (i - (fm.fixed.length:Int)) (show (0:Int) < fm.rest.length by omega)
  have hmnn:=Int.emod_nonneg (i - (fm.fixed.length:Int)) (show (fm.rest.length:Int) ≠ 0 by omega)
  refine zaj<|SQ<|RunD.start [] V (bs:=[0,1,0,0,8,24,60,127,255]) (ds:=[some 50,some 51,some 52,some 53,some 54,some 55,some 56,some 57,some 4]) ⟨Kr,Kr,Kr⟩ (fun tab13=>?_)
  refine DO tab13 1 (fun _ _ _ hc=>zac zb4 (hc.old (v:=Pp _ _) Z Z Z) hc.z)<|DO tab13 2 (fun _ _ _ hc=>zae (v:=str _) ty9 Z (hc.d 0 Z Z Z Z) (hc.st.cellL (Ar Q0) Z) hc.z)<|DO tab13 3 (fun _ _ _ hc=>zad (v:=.int .i64 _) (hc.old Z Z Z) hc.z)<|DO tab13 4 (fun _ _ _ hc=>zac zb4 (hc.old (v:=Pp _ _) Z Z Z) hc.z)<|DO tab13 5 (fun _ _ _ hc=>zae (v:=str _) ty9 Z (hc.d 3 Z Z Z Z) (hc.st.cellL (Ar Q0) Z) hc.z)<|DO tab13 6 (fun _ _ _ hc=>zaX (rest:=[]) ty9 (hc.d 4 Z Z Z Z) hc.z) ?_
  first | refine DO tab13 7 (fun _ _ _ hc=>zcl (hc.d 2 rfl rfl rfl rfl) (hc.d 5 rfl rfl rfl rfl) O O rfl hc.z) ?_ | refine DO tab13 7 (fun _ _ _ hc=>zcV (hc.d 2 rfl rfl rfl rfl) (hc.d 5 rfl rfl rfl rfl) O hc.z) ?_
  refine RunD.fin zaB tab13 V Z (fun f14 w R17 hs15 hd16 hr18 V=>?_)
  obtain ⟨h50_,r0⟩:=hd16 0 50 rfl rfl
  obtain ⟨h51_,r1⟩:=hd16 1 51 rfl rfl
  obtain ⟨h52_,r2⟩:=hd16 2 52 rfl rfl
  obtain ⟨h53_,r3⟩:=hd16 3 53 rfl rfl
  obtain ⟨h54_,r4⟩:=hd16 4 54 rfl rfl
  obtain ⟨h55_,r5⟩:=hd16 5 55 rfl rfl
  obtain ⟨h56_,r6⟩:=hd16 6 56 rfl rfl
  simp only [rg7,Fc,Fn,Mc,Mn,r0,r1,r2,r3,r4,r5,r6,Na,An,Ca] at V
  refine zaH (sl:=[(51,str _),(56,.int .i64 _)]) ⟨h51_,h56_,trivial⟩ ?_
  clear hs15 hd16 hr18 tab13
  refine Q<|zaZ ty9 Z Z O O<|AC Z<|G<|zag func69 Z (TP (v:=.int .u8 _) Z)<|⟨congrArg (Value.int .u8) (Eq.symm ?_),V.pure⟩
  rw [hfm]
  unfold zaN zfi
  rw [if_neg (by omega),if_neg (by omega)]
  have hmd:=zje (k:=i - (fm.fixed.length:Int)) (r:=(fm.rest.length:Int)) (m:=fm.most) O
  first | rw [if_pos (by rw [hre]; omega)] | rw [if_neg (by rw [hre]; omega)]
 refine zb8 tab5 5 Z Z (fun _ _ _ hc=>(hc.d 3 Z Z Z Z).trans (Vb (Df g6)))<|zb8 tab5 6 Z Z (fun _ _ _ hc=>(hc.d 3 Z Z Z Z).trans (Vb (Df g6)))<|zb8 tab5 7 Z Z (fun _ _ _ hc=>(hc.d 3 Z Z Z Z).trans (Vb (Df g6)))<|zb8 tab5 8 Z Z (fun _ _ _ hc=>(hc.d 3 Z Z Z Z).trans (Vb (Df g6)))<|zb8 tab5 9 Z Z (fun _ _ _ hc=>(hc.d 3 Z Z Z Z).trans (Vb (Df g6)))<|zb8 tab5 10 Z Z (fun _ _ _ hc=>(hc.d 3 Z Z Z Z).trans (Vb (Df g6)))<|zb8 tab5 11 Z Z (fun _ _ _ hc=>(hc.d 3 Z Z Z Z).trans (Vb (Df g6)))<|RunD.fin zaB tab5 V Z (fun f19 w R22 hs20 hd21 hr23 V=>?_)
 obtain ⟨h37_,r0⟩:=hd21 0 37 rfl rfl
 obtain ⟨h38_,r1⟩:=hd21 1 38 rfl rfl
 obtain ⟨h39_,r2⟩:=hd21 2 39 rfl rfl
 obtain ⟨h40_,r3⟩:=hd21 3 40 rfl rfl
 obtain ⟨h41_,r4⟩:=hd21 4 41 rfl rfl
 obtain ⟨h42_,r5⟩:=hd21 5 42 rfl rfl
 obtain ⟨h43_,r6⟩:=hd21 6 43 rfl rfl
 obtain ⟨h44_,r7⟩:=hd21 7 44 rfl rfl
 obtain ⟨h45_,r8⟩:=hd21 8 45 rfl rfl
 obtain ⟨h46_,r9⟩:=hd21 9 46 rfl rfl
 obtain ⟨h47_,r10⟩:=hd21 10 47 rfl rfl
 simp only [rg11,Fc,Fn,Mc,Mn,r0,r1,r2,r3,r4,r5,r6,r7,r8,r9,r10,Na,An,Ca] at V
 refine zaH (sl:=[(5,Pp _ _),(7,.int .i64 _),(40,.bool _),(45,_),(47,_)]) ⟨(hs20 5 Z).trans Z,(hs20 7 Z).trans Z,h40_,h45_,h47_,trivial⟩ ?_
 clear hs20 hd21 hr23 tab5
 refine OM (t:=40) Z (Vb (Df g6)) Z<|Q<|zay (u:=.bool _) (Vb (Df g6)) Z<|G ?_
 have hmdd:=Int.emod_lt_of_pos (i - (fm.fixed.length:Int)) (show (0:Int) < fm.rest.length by omega)
 have hmnn:=Int.emod_nonneg (i - (fm.fixed.length:Int)) (show (fm.rest.length:Int) ≠ 0 by omega)
 refine zas (Vb (Z:false = _))<|zaj<|SQ<|RunD.start [] V (bs:=[0,1,0,0,8,24,60,127,255]) (ds:=[some 50,some 51,some 52,some 53,some 54,some 55,some 56,some 57,some 4]) ⟨Kr,Kr,Kr⟩ (fun tab24=>?_)
 refine DO tab24 1 (fun _ _ _ hc=>zac zb4 (hc.old (v:=Pp _ _) Z Z Z) hc.z)<|DO tab24 2 (fun _ _ _ hc=>zae (v:=str _) ty9 Z (hc.d 0 Z Z Z Z) (hc.st.cellL (Ar Q0) Z) hc.z)<|DO tab24 3 (fun _ _ _ hc=>zad (v:=.int .i64 _) (hc.old Z Z Z) hc.z)<|DO tab24 4 (fun _ _ _ hc=>zac zb4 (hc.old (v:=Pp _ _) Z Z Z) hc.z)<|DO tab24 5 (fun _ _ _ hc=>zae (v:=str _) ty9 Z (hc.d 3 Z Z Z Z) (hc.st.cellL (Ar Q0) Z) hc.z)<|DO tab24 6 (fun _ _ _ hc=>zaX (rest:=[]) ty9 (hc.d 4 Z Z Z Z) hc.z) ?_
 first | refine DO tab24 7 (fun _ _ _ hc=>zcl (hc.d 2 rfl rfl rfl rfl) (hc.d 5 rfl rfl rfl rfl) O O rfl hc.z) ?_ | refine DO tab24 7 (fun _ _ _ hc=>zcV (hc.d 2 rfl rfl rfl rfl) (hc.d 5 rfl rfl rfl rfl) O hc.z) ?_
 refine RunD.fin zaB tab24 V Z (fun f25 w R28 hs26 hd27 hr29 V=>?_)
 obtain ⟨h50_,r0⟩:=hd27 0 50 rfl rfl
 obtain ⟨h51_,r1⟩:=hd27 1 51 rfl rfl
 obtain ⟨h52_,r2⟩:=hd27 2 52 rfl rfl
 obtain ⟨h53_,r3⟩:=hd27 3 53 rfl rfl
 obtain ⟨h54_,r4⟩:=hd27 4 54 rfl rfl
 obtain ⟨h55_,r5⟩:=hd27 5 55 rfl rfl
 obtain ⟨h56_,r6⟩:=hd27 6 56 rfl rfl
 simp only [rg7,Fc,Fn,Mc,Mn,r0,r1,r2,r3,r4,r5,r6,Na,An,Ca] at V
 refine zaH (sl:=[(51,str _),(56,.int .i64 _)]) ⟨h51_,h56_,trivial⟩ ?_
 clear hs26 hd27 hr29 tab24
 refine Q<|zaZ ty9 Z Z O O<|AC Z<|G<|zag func69 Z (TP (v:=.int .u8 _) Z)<|⟨congrArg (Value.int .u8) (Eq.symm ?_),V.pure⟩
 rw [hfm]
 unfold zaN zfi
 rw [if_neg (by omega),if_neg (by omega)]
 have hmd:=zje (k:=i - (fm.fixed.length:Int)) (r:=(fm.rest.length:Int)) (m:=fm.most) O
 first | rw [if_pos (by rw [hre]; omega)] | rw [if_neg (by rw [hre]; omega)]
end Go.SK
namespace Go.SK
open Go Go.Proofs Go.Proofs.Tryz
theorem zsR:zaJ prog 138:=⟨f138,_,func138,Kr,rfl⟩
open Go.RowKit
theorem zkR (op:Int) (h0:0 ≤ op) (ks:List Int) (ao:Option Addr) (cp:Nat) (w:World) (hA:(Res.rs ao ks.length 1 (ks.flatMap u8C)).holds w) (hlen:ks.length ≤ 9000000000000000000):Ret prog 133 #[.int .u16 op,.slice ao ks.length cp] w (fun v w'=>v = zkt (zdS op ks) ∧ St w NoM [] [] w'):=by
 refine zax (args:=[.int .u16 op,.slice ao ks.length cp]) func133 Z Z Z ?_
 have V:St w NoM [] [Res.rs ao ks.length 1 (ks.flatMap u8C)] w:=St.init_D hA
 clear hA
 obtain ⟨fm,hfm⟩:∃ x,za5 op = x:=⟨_,rfl⟩
 obtain ⟨ob,hob⟩:∃ x,(zbd op).isSome = x:=⟨_,rfl⟩
 have hf:=zeQ op
 rw [hfm] at hf
 have hz:ob = false → fm = zeroF:=fun e=>by subst e; rw [← hfm]; exact zjW hob
 obtain ⟨hop,hmost,hfx,hrs,_,_,_,_⟩:=hf
 refine SR<|AI Z<|AB Z<|NSR<|MH Z<|Q<|zav (v1:=.int .u16 _) zrV Z Z<|Ret.det (zm7 O hfm hob _) V fun w V=>Q<|zad (v:=.tuple #[zam _ _ _ _ _ _ _ _,.bool _]) Z<|Q<|Ex (zam _ _ _ _ _ _ _ _) Z Z<|Q<|Ex (.bool _) Z Z<|Q<|zaw V zaA fun w b6 V=>Q (SO (v:=zam _ _ _ _ _ _ _ _) V zaA Z Z .u0 fun w V=>?_)
 refine AB Z<|G<|SQ<|SR<|MB Z<|Q<|zaT Z<|G<|zaR Z (fun g1=>?_) (fun g1=>?_)
 ·refine SR <| AI Z <| AB Z <| G <| zah func133 Z (TP (v := .int .i64 _) Z) (TP (v := .bool _) Z) ?_
  exact ⟨(congrArg zkt (ztK hob (by simpa using g1))).symm,V.pure⟩
 refine zaj<|SR<|Q<|zaC (vs:=zap _ _ _ _ _ _ _ _) zaA Z Z Z (zab (n:=8) (V.objL Q0) _ Z)<|Q (zaf zlh zsC (.c (v:=zam _ _ _ _ _ _ _ _) Z (h:=.nil)) ?_)
 refine Q<|zaw V zlh fun w b8 V=>Q (SO (v:=zam _ _ _ _ _ _ _ _) V zlh Z Z .u0 fun w V=>?_)
 refine G<|SQ<|SR<|ML Z<|Q<|zaQ (rest:=[]) zgh Z<|MI Z<|G<|zau<|zba<|za7 [(1,.slice _ _ _),(8,Pp _ _),(21,.slice _ _ _),(22,.int .i64 _)] E4 (fun (i:Nat)=>[(23,.int .i64 (i:Int))]) (fun (i:Nat)=>[]) (fun (i:Nat)=>i ≤ ks.length ∧ ziL fm i (ks.drop i) = ziL fm 0 ks) (fun (i:Nat)=>ks.length - i) (0) V ⟨Nat.zero_le _,Z⟩ ⟨Z,trivial⟩ ?_
 intro i f w V hJ ih2
 refine SR<|Q<|zaY Z Z<|G<|SQ<|zaa Z (fun g3=>?_) (fun g3=>?_)
 ·refine zaj <| SQ <| zau <| SR <| MI Z ?_
  obtain ⟨bs4,os5,rfl⟩:=Res.rs_some (V.hD _ Q0) O
  refine Q<|zbb zgh ty5 Z Z O O<|Q<|zae (v:=.int .u8 _) ty5 Z Z (Res.rs_cell (V.hD _ Q0) (zc3 (g:=u8C) (d:=0) ztc Z O))<|AI Z<|AC Z<|NSR<|MC Z<|Q<|zai Z Z<|MB Z<|zaz (d:=30) Z (fun g6=>?_) (fun g6=>?_)
  ·refine OM (t := 30) Z (Vb (Dt g6)) Z <| OM (t := 30) Z (Vb (Dt g6)) Z <| OM (t := 30) Z (Vb (Dt g6)) Z <| OM (t := 30) Z (Vb (Dt g6)) Z <| OM (t := 30) Z (Vb (Dt g6)) Z <| OM (t := 30) Z (Vb (Dt g6)) Z <| Q <| zaE (u := .bool _) (Vb (Dt g6)) Z <| G <| zat (Vb (Z : true = _)) <| SR <| MI Z <| AI Z <| AB Z <| G ?_
   refine zah func133 Z (TP (v:=.int .i64 _) Z) (TP (v:=.bool _) Z) ?_
   exact ⟨(congrArg zkt ((zdu hob hfm (by simpa using g1)).trans (zku (zqh hJ.2 (by omega) (.inl g6))))).symm,V.pure⟩
  refine TK (t:=30) rfl (Vb (Df g6))<|zaC (vs:=zap _ _ _ _ _ _ _ _) zlh rfl rfl rfl (zab (n:=8) (V.objL Q0) _ rfl)<|TK (t:=30) rfl (Vb (Df g6))<|zad (v:=.int .i64 _) rfl<|TK (t:=30) rfl (Vb (Df g6)) (zaK (v1:=zam _ _ _ _ _ _ _ _) (v2:=.int .i64 _) zsQ rfl rfl rfl ((zhZ fm (by rw [← hfm]; exact zeQ op) _ (by omega) _).mono fun v w hp=>?_))
  obtain ⟨rfl,hp⟩:=hp
  replace V:=V.keepc hp
  refine TK (t:=30) Z (Vb (Df g6)) (zav (v1:=.int .u8 _) zsR Z Z ((zkQ _ _).mono fun v w hp=>?_))
  obtain ⟨rfl,hp⟩:=hp
  replace V:=V.keepc hp
  refine TK (t:=30) Z (Vb (Df g6))<|zad (v:=.int .u8 _) Z<|TK (t:=30) Z (Vb (Df g6))<|za8 Z Z<|Q<|zay (u:=.bool _) (Vb (Df g6)) Z<|G<|zaa Z (fun g7=>?_) (fun g7=>?_)
  ·refine SR <| MI Z <| AI Z <| AB Z <| G <| zah func133 Z (TP (v := .int .i64 _) Z) (TP (v := .bool _) Z) ?_
   exact ⟨(congrArg zkt ((zdu hob hfm (by simpa using g1)).trans (zku (zqh hJ.2 (by omega) (.inr g7))))).symm,V.pure⟩
  refine zaj<|zan<|RG<|Q<|zaD Z Z Z zbS<|MI Z<|G<|zaG ?_
  exact ih2 (i + 1) _ w O V (⟨by omega,zsb hJ.2 O (fun h=>h.elim g6 g7)⟩) E4 ⟨(Vi O),trivial⟩
 refine zaU (id:=0) Z<|SR<|ML Z<|Q<|zaQ (rest:=[]) zgh Z<|Q<|zac zb3 Z<|Q<|zac zd6 Z<|Q<|zae (v:=str _) ty9 Z Z (V.cellL Q0 Z)<|Q<|zaX (rest:=[]) ty9 Z<|Q<|zbV Z Z Z zbS<|AI Z<|G<|SQ<|SQ<|RG ?_
 refine MI Z<|Q<|zaY Z Z<|MB Z<|zaz (d:=49) Z (fun g8=>?_) (fun g8=>?_)
 ·refine OM (t := 49) Z (Vb (Dt g8)) Z <| OM (t := 49) Z (Vb (Dt g8)) Z <| OM (t := 49) Z (Vb (Dt g8)) Z <| OM (t := 49) Z (Vb (Dt g8)) Z <| OM (t := 49) Z (Vb (Dt g8)) Z <| zaM (t := 54) Z Z <| zaM (t := 54) Z Z <| zaM (t := 54) Z Z <| zaM (t := 54) Z Z <| zaM (t := 54) Z Z <| zaM (t := 54) Z Z <| zaM (t := 54) Z Z <| OM (t := 49) Z (Vb (Dt g8)) Z <| Q <| zaE (u := .bool _) (Vb (Dt g8)) Z <| G ?_
  refine zat (Vb (Z:true = _))<|SR<|ML Z<|Q<|zaQ (rest:=[]) zgh Z<|AI Z<|AB Z<|G<|zah func133 Z (TP (v:=.int .i64 _) Z) (TP (v:=.bool _) Z) ?_
  exact ⟨(congrArg zkt ((zdu hob hfm (by simpa using g1)).trans (zhL (zjx hJ.2 (by omega)) (by simp only [zly]; exact .inl (by omega))))).symm,V.pure⟩
 refine TK (t:=49) Z (Vb (Df g8))<|zac zb3 Z<|TK (t:=49) Z (Vb (Df g8))<|zac zb4 Z<|TK (t:=49) Z (Vb (Df g8))<|zae (v:=str _) ty9 Z Z (V.cellL Q0 Z)<|TK (t:=49) Z (Vb (Df g8))<|ze4 Z Z<|TK (t:=49) Z (Vb (Df g8))<|zad (v:=.bool _) Z<|zaz (d:=54) Z (fun g9=>?_) (fun g9=>?_)
 ·have hrp : 0 < fm.rest.length := List.length_pos_iff.2 g9
  refine TK (t:=54) Z (Vb (Dt g9))<|zad (v:=.int .i64 _) Z<|TK (t:=54) Z (Vb (Dt g9))<|zac zb3 Z<|TK (t:=54) Z (Vb (Dt g9))<|zac zb4 Z<|TK (t:=54) Z (Vb (Dt g9))<|zae (v:=str _) ty9 Z Z (V.cellL Q0 Z)<|TK (t:=54) Z (Vb (Dt g9)) (zaX (rest:=[]) ty9 Z ?_)
  first | refine TK (t:=54) rfl (Vb (Dt g9)) (zcl rfl rfl O O rfl ?_) | refine TK (t:=54) rfl (Vb (Dt g9)) (zcV rfl rfl O ?_)
  refine TK (t:=54) Z (Vb (Dt g9))<|za8 Z Z<|TK (t:=49) Z (Vb (Df g8))<|zaE (u:=.bool _) (Vb (Dt g9)) Z<|Q<|zay (u:=.bool _) (Vb (Df g8)) Z<|G<|zal [(1,.slice _ _ _),(63,.bool _)] E2 fun f=>zaa Z (fun g10=>?_) (fun g10=>?_)
  ·refine SR <| ML Z <| Q <| zaQ (rest := []) zgh Z <| AI Z <| AB Z <| G <| zah func133 Z (TP (v := .int .i64 _) Z) (TP (v := .bool _) Z) ?_
   exact ⟨(congrArg zkt ((zdu hob hfm (by simpa using g1)).trans (zhL (zjx hJ.2 (by omega)) (by simp only [zly]; exact .inr ⟨g9,g10⟩)))).symm,V.pure⟩
  refine zaj<|SR<|AI Z<|AB Z<|G<|zah func133 Z (TP (v:=.int .i64 _) Z) (TP (v:=.bool _) Z) ?_
  exact ⟨(congrArg zkt ((zdu hob hfm (by simpa using g1)).trans (zhb (zjx hJ.2 (by omega)) (by simp only [zly]; exact fun h=>h.elim (by omega) (fun h=>g10 h.2))))).symm,V.pure⟩
 refine OM (t:=54) Z (Vb (Df g9)) Z<|OM (t:=54) Z (Vb (Df g9)) Z<|OM (t:=54) Z (Vb (Df g9)) Z<|OM (t:=54) Z (Vb (Df g9)) Z<|OM (t:=54) Z (Vb (Df g9)) Z<|OM (t:=54) Z (Vb (Df g9)) Z<|OM (t:=54) Z (Vb (Df g9)) Z<|TK (t:=49) Z (Vb (Df g8))<|zay (u:=.bool _) (Vb (Df g9)) Z<|Q<|zay (u:=.bool _) (Vb (Df g8)) Z<|G<|zal [(1,.slice _ _ _),(63,.bool _)] E2 fun f=>zas (Vb (Z:false = _))<|zaj<|SQ<|RG ?_
 refine AI Z<|AB Z<|G<|zah func133 Z (TP (v:=.int .i64 _) Z) (TP (v:=.bool _) Z) ?_
 exact ⟨(congrArg zkt ((zdu hob hfm (by simpa using g1)).trans (zhb (zjx hJ.2 (by omega)) (by simp only [zly]; exact fun h=>h.elim (by omega) (fun h=>g9 h.1))))).symm,V.pure⟩
theorem zjz {op:Int} {fm:FormL} (h0:0 ≤ op) (hfm:za5 op = fm) (i:Int) (h1:i ≤ 9223372036854775807) (w:World):Ret prog 69 #[.int .u16 op,.int .i64 i] w fun v w'=>v = .int .u8 (zaN fm i) ∧ St w NoM [] [] w':=by
 subst hfm; exact zkL op h0 i h1 w
end Go.SK
namespace Go.SK
open Go Go.Proofs Go.Proofs.Tryz
theorem zd7:FldF prog 110 2 2:=FldF.of (n:=0) Kr
theorem ent152:zaJ prog 152:=⟨f152,_,func152,Kr,rfl⟩
theorem ent92:zaJ prog 92:=⟨f92,_,func92,Kr,rfl⟩
theorem ent20:zaJ prog 20:=⟨f20,_,func20,Kr,rfl⟩
theorem ent32:zaJ prog 32:=⟨f32,_,func32,Kr,rfl⟩
theorem zlL:zaJ prog 91:=⟨f91,_,func91,Kr,rfl⟩
open Go.RowKit
theorem zn5 (u:Nat) (hu:u < 4294967296) (w:World) (ih:∀ (m:Nat),m < u → ∀ w:World,Ret prog 91 #[.int .u32 (m:Int)] w (fun v w'=>v = str (Lib.decDigits m) ∧ St w NoM [] [] w')):Ret prog 91 #[.int .u32 (u:Int)] w (fun v w'=>v = str (Lib.decDigits u) ∧ St w NoM [] [] w'):=by
 refine zax (args:=[.int .u32 (u:Int)]) func91 Z Z Z ?_
 have V:=St.init w
 have hdl:=zr2 hu
 have ihx:∀ (x:Int) (m:Nat),x = (m:Int) → m < u → ∀ w:World,Ret prog 91 #[.int .u32 x] w (fun v w'=>v = str (Lib.decDigits m) ∧ St w NoM [] [] w'):=fun x m hx hm w=>by subst hx; exact ih m hm w
 refine SR<|AS Z<|G<|SQ<|SR<|MU Z<|Q<|zaY Z Z<|G<|zaa Z (fun g1=>?_) (fun g1=>?_)
 ·refine SR <| MU Z <| Q (zaD Z Z Z zqU ?_)
  first | refine Q (zaW zbM ty5 rfl Wu8 ?_) | refine Q (za4 zbM ty5 rfl ?_)
  refine Q (zaI (z0:=[.int .u8 0]) V zgh ty5 Z Z Kr (.c (v:=.int .u8 _) Z (h:=.nil)) fun w b8 V=>?_)
  refine Q<|zcZ (l:=[UInt8.ofNat (48 + u)]) zgh ty5 ty9 Z Z (zsD (V.hL _ Q0) Z) (zmZ O)<|AS Z<|G<|zag func91 Z (TP (v:=str _) Z) ?_
  rw [ztS (m:=u) (by omega)]
  exact ⟨Z,V.pure⟩
 refine zaj<|SQ<|RunD.start [] V (bs:=[0,1,3,0,8,24,56,120,248,511,1023]) (ds:=[some 10,some 11,some 12,some 13,some 14,some 15,some 16,some 17,some 18,some 19,some 2]) ⟨Kr,Kr,Kr⟩ (fun tab2=>?_)
 refine DO tab2 1 (fun _ _ _ hc=>zad (v:=.int .u32 _) (hc.old Z Z Z) hc.z) ?_
 first | refine DO tab2 2 (fun _ _ _ hc=>ze3 (hc.d 0 rfl rfl rfl rfl) rfl O O rfl zqU hc.z) ?_ | refine DO tab2 2 (fun _ _ _ hc=>zgz (hc.d 0 rfl rfl rfl rfl) rfl O hc.z) ?_
 refine DO tab2 3 (fun _ _ _ hc=>zav (v1:=.int .u32 _) zlL Z (hc.d 1 Z Z Z Z) ((ihx _ (u / 10) O O _).mono fun v w hp=>⟨[],⟨hp.1,Z⟩,hc.st.keepc hp.2⟩))<|DO tab2 4 (fun _ _ _ hc=>zad (v:=.int .u32 _) (hc.old Z Z Z) hc.z) ?_
 first | refine DO tab2 5 (fun _ _ _ hc=>zcl (hc.d 3 rfl rfl rfl rfl) rfl O O rfl hc.z) ?_ | refine DO tab2 5 (fun _ _ _ hc=>zcV (hc.d 3 rfl rfl rfl rfl) rfl O hc.z) ?_
 refine DO tab2 6 (fun _ _ _ hc=>zaD Z (hc.d 4 Z Z Z Z) Z zqU hc.z) ?_
 first | refine DO tab2 7 (fun _ _ _ hc=>zaW zbM ty5 (hc.d 5 rfl rfl rfl rfl) Wu8 hc.z) ?_ | refine DO tab2 7 (fun _ _ _ hc=>za4 zbM ty5 (hc.d 5 rfl rfl rfl rfl) hc.z) ?_
 refine RunD.op (fun v rs=>∃ b,v = .slice (some ⟨b,0,none⟩) 1 1 ∧ rs = [Res.row b 5 ([.int .u8 (48 + (u:Int) % 10)])]) tab2 8 (fun _ _ _ hc=>zaI (z0:=[.int .u8 0]) hc.st zgh ty5 Z Z Kr (.c (v:=.int .u8 _) (hc.d 6 Z Z Z Z) (h:=.nil)) fun w b V=>⟨[_],⟨b,Z,Z⟩,V⟩) ?_
 refine RunD.op (det (str [UInt8.ofNat (48 + u % 10)])) tab2 9 (fun _ _ _ hc=>by obtain ⟨_,rs,⟨b,h17,hrs⟩,_,hm⟩:=hc.dep 7 17 rfl rfl; subst hrs; exact zcZ (l:=[UInt8.ofNat (48 + u % 10)]) zgh ty5 ty9 (evs h17 rfl) rfl (zsD (hc.st.hL _ (Al (hm rfl _ Q0))) rfl) (zr1 u) hc.z)<|RunD.fin zaB tab2 V rfl (fun f3 w R6 hs4 hd5 hr7 V=>?_)
 obtain ⟨h10_,r0⟩:=hd5 0 10 rfl rfl
 obtain ⟨h11_,r1⟩:=hd5 1 11 rfl rfl
 obtain ⟨h12_,r2⟩:=hd5 2 12 rfl rfl
 obtain ⟨h13_,r3⟩:=hd5 3 13 rfl rfl
 obtain ⟨h14_,r4⟩:=hd5 4 14 rfl rfl
 obtain ⟨h15_,r5⟩:=hd5 5 15 rfl rfl
 obtain ⟨h16_,r6⟩:=hd5 6 16 rfl rfl
 obtain ⟨b17,h17_,r7⟩:=hd5 7 17 rfl rfl
 obtain ⟨h18_,r8⟩:=hd5 8 18 rfl rfl
 simp only [rg9,Fc,Fn,Mc,Mn,r0,r1,r2,r3,r4,r5,r6,r7,r8,Na,An,Ca] at V
 refine zaH (sl:=[(12,str _),(18,str _)]) ⟨h12_,h18_,trivial⟩ ?_
 clear hs4 hd5 hr7 tab2
 refine Q<|za2 rfl rfl (by first | omega | (simp only [List.length_cons,List.length_nil,List.length_append]; omega) | (simp; omega))<|AS rfl<|G<|zag func91 rfl (TP (v:=str _) rfl) ?_
 rw [zr5 (m:=u) (by omega)]
 exact ⟨Z,V.pure⟩
theorem zqs:∀ (u:Nat),u < 4294967296 → ∀ w:World,Ret prog 91 #[.int .u32 (u:Int)] w (fun v w'=>v = str (Lib.decDigits u) ∧ St w NoM [] [] w'):=fun u=>by
 induction u using Nat.strongRecOn with
 | ind u ih=>exact fun hu w=>zn5 u hu w (fun m hm w=>ih m hm O w)
theorem zc4 (n:Int) (h0:0 ≤ n) (h1:n < 4294967296) (w:World):Ret prog 91 #[.int .u32 n] w (fun v w'=>v = str (zcT n) ∧ St w NoM [] [] w'):=by
 obtain ⟨u,rfl⟩:=Int.eq_ofNat_of_zero_le h0
 exact zqs u O w
theorem zgO (p:InstP) (w:World) (hA0:(Res.rargs p).holds w) (hu:p.L.U32) (hop:0 ≤ p.op) (hsm:(p.args.map zaS).sum ≤ 900000000) (hla:∀ a ∈ p.args,a.s.length ≤ 100000000000):Ret prog 43 #[.agg #[.int .u16 p.op,.int .u32 p.ty,.int .u32 p.res,.slice p.ao p.args.length p.cap]] w (fun v w'=>v = str (wtI p.L) ∧ St w NoM [] [] w'):=by
 refine zax (args:=[.agg #[.int .u16 p.op,.int .u32 p.ty,.int .u32 p.res,.slice p.ao p.args.length p.cap]]) func43 Z Z Z ?_
 have V:St w NoM [] [Res.rargs p] w:=St.init_D hA0
 refine SR<|Q<|zbn (v:=zbt _ _ _ _ _ _) V Z Z fun w b1 V=>AS Z<|NSR<|Q<|zac zfp Z<|Q (zae (v:=.int .u16 _) zov Z Z (V.cellL Q0 Z) ?_)
 obtain ⟨fm,hfm⟩:∃ x,za5 p.op = x:=⟨_,rfl⟩
 obtain ⟨ob,hob⟩:∃ x,(zbd p.op).isSome = x:=⟨_,rfl⟩
 have hjl:=fun k=>zs2 (i:=p.L) (fm:=fm) hfm hu hsm k
 have hnm:fm.name.length ≤ 60:=by rw [← hfm]; exact zjX _
 have hal:p.L.args.length ≤ 900000000:=Nat.le_trans (zhJ _) hsm
 have hd1:(zcT p.ty).length ≤ 10:=zdc hu.ty.1 hu.ty.2
 have hd2:(zcT p.res).length ≤ 10:=zdc hu.res.1 hu.res.2
 have hwh:=zk9 hu
 have hwr:(wtR p.L).length ≤ 14:=by unfold wtR; split <;> simp only [List.length_cons,List.length_append,List.length_nil] <;> omega
 refine Q<|zav (v1:=.int .u16 _) ent90 Z Z<|Ret.det (zkK hfm hob _) V fun w V=>Q<|zad (v:=.tuple #[zam _ _ _ _ _ _ _ _,.bool _]) Z<|Q<|Ex (zam _ _ _ _ _ _ _ _) Z Z<|Q<|Ex (.bool _) Z Z<|Q<|zaw V zaA fun w b3 V=>Q (SO (v:=zam _ _ _ _ _ _ _ _) V zaA Z Z .u0 fun w V=>?_)
 refine AB Z<|NSR<|AS Z<|G<|SQ<|zec (L1:=[]) [(1,Pp _ _),(3,Pp _ _)] V E2 (fun (_u:Unit)=>[(5,str (wtR p.L))]) (fun (_u:Unit)=>[]) (fun (_u:Unit)=>True) (fun _u f w V hJ2=>?_) (fun cut1=>?_)
 ·refine SR <| MS rfl <| Q <| zac zmP rfl <| Q <| zae (v := str _) ty9 rfl rfl (V.cellL Q0 rfl) <| Q <| za2 rfl rfl (by first | omega | (simp only [List.length_cons, List.length_nil, List.length_append]; omega) | (simp; omega)) <| AS rfl <| G <| SQ <| zec (L1 := []) [(1, Pp _ _)] V ⟨rfl, trivial⟩ (fun (_u : Unit) => [(5, str (wtH p.L))]) (fun (_u : Unit) => []) (fun (_u : Unit) => True) (fun _u f w V hJ5 => ?_) (fun cut4 => ?_)
  ·refine SQ <| SR <| AI rfl <| G <| zau <| zba <| za7 [(1, Pp _ _)] ⟨rfl, trivial⟩ (fun (qq : Nat) => [(5, str (wtJ p.L fm qq)), (6, .int .i64 (qq : Int))]) (fun (qq : Nat) => []) (fun (qq : Nat) => qq ≤ p.args.length) (fun (qq : Nat) => p.args.length - qq) (0) V (Nat.zero_le _) ⟨(by rw [zoH]; rfl), rfl, trivial⟩ ?_
   intro i f w V hJ ih7
   replace V:St _ _ ([] ++ [_,_]) _ _:=V
   replace hJ:i ≤ p.args.length:=hJ
   refine zbj (sl:=[(5,str (wtJ p.L fm i)),(6,.int .i64 (i:Int))]) E2<|SQ<|SR<|MI Z<|Q<|zac zcg Z<|Q<|zae (v:=.slice _ _ _) zeo Z Z (V.cellL Q1 Z)<|Q<|zaQ (rest:=[]) zeo Z<|Q<|zaY Z Z<|G<|zaa Z (fun g8=>?_) (fun g8=>?_)
   ·have hi : i < p.L.args.length := by show i < p.args.length; omega
    have hav:=hu.args _ (zci (d:=zeroA) hi)
    have hda:=zdc hav.1 hav.2
    have hda2:(zcT (p.args.getD ((i:Int).toNat) zeroA).n).length ≤ 10:=hda
    have hj1:=hjl (i + 1)
    have hj0:=hjl i
    have hat:(p.args.getD ((i:Int).toNat) zeroA).s.length ≤ 100000000000:=hla _ (zci (d:=zeroA) hi)
    have hen:=zkA (zaN fm (i:Int)) (p.args.getD ((i:Int).toNat) zeroA).n
    refine zaj<|SQ<|zau<|SR<|Q<|zac zcg Z<|Q<|zae (v:=.slice _ _ _) zeo Z Z (V.cellL Q1 Z)<|MI Z<|Q<|zbe zeo zbc (V.hD _ Q0) Z Z O O<|Q<|zaC (vs:=zcB _ _ _) zbc Z Z Z (Res.rs2_cells (m:=3) (V.hD _ Q0) _ (zbQ (g:=zgN) (d:=zeroA) zdv _ _ O))<|Q<|zaw V zbc fun w b7 V=>Q (SO (v:=zcp _ _ _) V zbc Z Z .u0 fun w V=>?_)
    refine NSR<|Q<|zac zdt Z<|Q<|zae (v:=.int .u8 _) ty5 Z Z (V.cellL Q0 Z)<|Q<|zai Z Z<|G<|zaa Z (fun g9=>?_) (fun g9=>?_)
    ·refine RG <| MS rfl <| Q <| za2 rfl rfl (by first | omega | (simp only [List.length_cons, List.length_nil, List.length_append]; omega) | (simp; omega)) <| Q <| zac zd8 rfl <| Q <| zae (v := .int .u32 _) zbM rfl rfl (V.cellL Q0 rfl) <| Q <| zav (v1 := .int .u32 _) zlL rfl rfl <| Ret.det (zc4 (p.args.getD ((i : Int).toNat) zeroA).n hav.1 hav.2 _) V fun w V => Q <| za2 rfl rfl (by first | omega | (simp only [List.length_cons, List.length_nil, List.length_append]; omega) | (simp; omega)) <| AS rfl <| G <| zan <| zal [(1, Pp _ _), (5, str _), (6, .int .i64 _)] E3 fun f => RG <| MI rfl <| Q <| zaD rfl rfl rfl zbS <| AI rfl ?_
     refine G<|zaG ?_
     replace V:=V.pick (.c .u1 (.c .u1 .nil))
     exact ih7 (i + 1) _ w (O) V (O) ⟨Z,trivial⟩ ⟨(congrArg str (wtJ_1 (i:=p.L) (fm:=fm) hi g9)),(Vi O),trivial⟩
    refine SR<|Q<|zac zdt Z<|Q<|zae (v:=.int .u8 _) ty5 Z Z (V.cellL Q0 Z)<|Q<|zai Z Z<|G<|zaa Z (fun g10=>?_) (fun g10=>?_)
    ·refine RG <| MS rfl <| Q <| za2 rfl rfl (by first | omega | (simp only [List.length_cons, List.length_nil, List.length_append]; omega) | (simp; omega)) <| Q <| zac zd8 rfl <| Q <| zae (v := .int .u32 _) zbM rfl rfl (V.cellL Q0 rfl) <| Q <| zav (v1 := .int .u32 _) zlL rfl rfl <| Ret.det (zc4 (p.args.getD ((i : Int).toNat) zeroA).n hav.1 hav.2 _) V fun w V => Q <| za2 rfl rfl (by first | omega | (simp only [List.length_cons, List.length_nil, List.length_append]; omega) | (simp; omega)) <| AS rfl <| G <| zan <| zal [(1, Pp _ _), (5, str _), (6, .int .i64 _)] E3 fun f => RG <| MI rfl <| Q <| zaD rfl rfl rfl zbS <| AI rfl ?_
     refine G<|zaG ?_
     replace V:=V.pick (.c .u1 (.c .u1 .nil))
     exact ih7 (i + 1) _ w (O) V (O) ⟨Z,trivial⟩ ⟨(congrArg str (wtJ_2 (i:=p.L) (fm:=fm) hi g9 g10)),(Vi O),trivial⟩
    refine SR<|Q<|zac zdt Z<|Q<|zae (v:=.int .u8 _) ty5 Z Z (V.cellL Q0 Z)<|Q<|zai Z Z<|G<|zal [(1,Pp _ _),(5,str _),(6,.int .i64 _),(7,Pp _ _),(69,.bool _)] E5 fun f=>zaa Z (fun g11=>?_) (fun g11=>?_)
    ·refine SR <| AS Z <| G <| SQ <| SR <| AI Z <| G <| zau <| zba <| za7 [(1, Pp _ _), (5, str _), (6, .int .i64 _), (7, Pp _ _)] E4 (fun (qb : Nat) => [(8, str (((p.args.getD ((i : Int).toNat) zeroA).s.take qb).flatMap zg9)), (9, .int .i64 (qb : Int))]) (fun (qb : Nat) => []) (fun (qb : Nat) => qb ≤ (p.args.getD ((i : Int).toNat) zeroA).s.length) (fun (qb : Nat) => (p.args.getD ((i : Int).toNat) zeroA).s.length - qb) (0) V (Nat.zero_le _) E2 ?_
     intro b f w V hJ ih12
     replace V:St _ _ ([] ++ [_,_,_]) _ _:=V
     replace hJ:b ≤ (p.args.getD ((i:Int).toNat) zeroA).s.length:=hJ
     refine zbj (sl:=[(8,str (((p.args.getD ((i:Int).toNat) zeroA).s.take b).flatMap zg9)),(9,.int .i64 (b:Int))]) E2 ?_
     have hcb:=((p.args.getD ((i:Int).toNat) zeroA).s.getD b 0).toNat_lt
     have hidb:((p.args.getD ((i:Int).toNat) zeroA).s.getD ((b:Int).toNat) 0).toNat = ((p.args.getD ((i:Int).toNat) zeroA).s.getD b 0).toNat:=rfl
     have hxp:=zrH (p.args.getD ((i:Int).toNat) zeroA).s b
     have hx1:=zpL ((((p.args.getD ((i:Int).toNat) zeroA).s.getD ((b:Int).toNat) 0).toNat:Int) / 16)
     have hx2:=zpL ((((p.args.getD ((i:Int).toNat) zeroA).s.getD ((b:Int).toNat) 0).toNat:Int) % 16)
     refine SQ<|SR<|MI Z<|Q<|zac zd7 Z<|Q<|zae (v:=str _) ty9 Z Z (V.cellL Q0 Z)<|Q<|zaX (rest:=[]) ty9 Z<|Q<|zaY Z Z<|G<|zaa Z (fun g13=>?_) (fun g13=>?_)
     ·refine zaj <| SQ <| zau <| RunD.start [] V (bs := [0, 1, 0, 4, 0, 28, 60, 0, 128, 0, 896, 1920, 3968, 8188, 16383, 0, 32768, 0, 229376, 491520, 0, 1048576, 0, 7340032, 15728640, 32505856, 67076096, 134217727, 268435455]) (ds := [some 77, some 78, some 79, some 80, some 81, some 82, some 83, some 84, some 85, some 86, some 87, some 88, some 89, some 90, some 91, some 92, some 93, some 94, some 95, some 96, some 97, some 98, some 99, some 100, some 101, some 102, some 103, some 104, some 8]) ⟨Kr, Kr, Kr⟩ (fun tab14 => ?_)
      refine DO tab14 1 (fun _ _ _ hc=>zad (v:=str _) (hc.old rfl rfl rfl) hc.z)<|DO tab14 2 (fun _ _ _ hc=>za2 (hc.d 0 rfl rfl rfl rfl) rfl (by first | omega | (simp only [List.length_cons,List.length_nil,List.length_append]; omega) | (simp; omega)) hc.z)<|DO tab14 3 (fun _ _ _ hc=>zac zd7 (hc.old (v:=Pp _ _) rfl rfl rfl) hc.z)<|DO tab14 4 (fun _ _ _ hc=>zae (v:=str _) ty9 rfl (hc.d 2 rfl rfl rfl rfl) (hc.st.cellL (Ar Q0) rfl) hc.z)<|DO tab14 5 (fun _ _ _ hc=>zad (v:=.int .i64 _) (hc.old rfl rfl rfl) hc.z)<|DO tab14 6 (fun _ _ _ hc=>zaZ ty9 (hc.d 3 rfl rfl rfl rfl) (hc.d 4 rfl rfl rfl rfl) (by omega) (by omega) hc.z) ?_
      first | refine DO tab14 7 (fun _ _ _ hc=>ze3 (hc.d 5 rfl rfl rfl rfl) rfl O O rfl Wu8 hc.z) ?_ | refine DO tab14 7 (fun _ _ _ hc=>zgz (hc.d 5 rfl rfl rfl rfl) rfl O hc.z) ?_
      refine DO tab14 8 (fun _ _ _ hc=>zac zd7 (hc.old (v:=Pp _ _) Z Z Z) hc.z)<|DO tab14 9 (fun _ _ _ hc=>zae (v:=str _) ty9 Z (hc.d 7 Z Z Z Z) (hc.st.cellL (Ar Q0) Z) hc.z)<|DO tab14 10 (fun _ _ _ hc=>zad (v:=.int .i64 _) (hc.old Z Z Z) hc.z)<|DO tab14 11 (fun _ _ _ hc=>zaZ ty9 (hc.d 8 Z Z Z Z) (hc.d 9 Z Z Z Z) O O hc.z) ?_
      first | refine DO tab14 12 (fun _ _ _ hc=>ze3 (hc.d 10 rfl rfl rfl rfl) rfl O O rfl Wu8 hc.z) ?_ | refine DO tab14 12 (fun _ _ _ hc=>zgz (hc.d 10 rfl rfl rfl rfl) rfl O hc.z) ?_
      refine DO tab14 13 (fun _ _ _ hc=>zaD (hc.d 11 rfl rfl rfl rfl) rfl rfl Wu8 hc.z)<|DO tab14 14 (fun _ _ _ hc=>zeG (s:=hexT) ty9 rfl (hc.d 6 rfl rfl rfl rfl) (hc.d 12 rfl rfl rfl rfl) (by omega) (by omega) (by show _ ≤ (16:Int); omega) hc.z)<|DO tab14 15 (fun _ _ _ hc=>za2 (hc.d 1 rfl rfl rfl rfl) (hc.d 13 rfl rfl rfl rfl) (by first | omega | (simp only [List.length_cons,List.length_nil,List.length_append]; omega) | (simp; omega)) hc.z)<|DO tab14 16 (fun _ _ _ hc=>zac zd7 (hc.old (v:=Pp _ _) rfl rfl rfl) hc.z)<|DO tab14 17 (fun _ _ _ hc=>zae (v:=str _) ty9 rfl (hc.d 15 rfl rfl rfl rfl) (hc.st.cellL (Ar Q0) rfl) hc.z)<|DO tab14 18 (fun _ _ _ hc=>zad (v:=.int .i64 _) (hc.old rfl rfl rfl) hc.z)<|DO tab14 19 (fun _ _ _ hc=>zaZ ty9 (hc.d 16 rfl rfl rfl rfl) (hc.d 17 rfl rfl rfl rfl) (by omega) (by omega) hc.z) ?_
      first | refine DO tab14 20 (fun _ _ _ hc=>zcl (hc.d 18 rfl rfl rfl rfl) rfl O O rfl hc.z) ?_ | refine DO tab14 20 (fun _ _ _ hc=>zcV (hc.d 18 rfl rfl rfl rfl) rfl O hc.z) ?_
      refine DO tab14 21 (fun _ _ _ hc=>zac zd7 (hc.old (v:=Pp _ _) Z Z Z) hc.z)<|DO tab14 22 (fun _ _ _ hc=>zae (v:=str _) ty9 Z (hc.d 20 Z Z Z Z) (hc.st.cellL (Ar Q0) Z) hc.z)<|DO tab14 23 (fun _ _ _ hc=>zad (v:=.int .i64 _) (hc.old Z Z Z) hc.z)<|DO tab14 24 (fun _ _ _ hc=>zaZ ty9 (hc.d 21 Z Z Z Z) (hc.d 22 Z Z Z Z) O O hc.z) ?_
      first | refine DO tab14 25 (fun _ _ _ hc=>zcl (hc.d 23 rfl rfl rfl rfl) rfl O O rfl hc.z) ?_ | refine DO tab14 25 (fun _ _ _ hc=>zcV (hc.d 23 rfl rfl rfl rfl) rfl O hc.z) ?_
      refine DO tab14 26 (fun _ _ _ hc=>zaD (hc.d 24 Z Z Z Z) Z Z Wu8 hc.z)<|DO tab14 27 (fun _ _ _ hc=>zeG (s:=hexT) ty9 Z (hc.d 19 Z Z Z Z) (hc.d 25 Z Z Z Z) O O (by show _ ≤ (16:Int); omega) hc.z)<|RunD.fin zaB tab14 V Z (fun f15 w R18 hs16 hd17 hr19 V=>?_)
      obtain ⟨h77_,r0⟩:=hd17 0 77 rfl rfl
      obtain ⟨h78_,r1⟩:=hd17 1 78 rfl rfl
      obtain ⟨h79_,r2⟩:=hd17 2 79 rfl rfl
      obtain ⟨h80_,r3⟩:=hd17 3 80 rfl rfl
      obtain ⟨h81_,r4⟩:=hd17 4 81 rfl rfl
      obtain ⟨h82_,r5⟩:=hd17 5 82 rfl rfl
      obtain ⟨h83_,r6⟩:=hd17 6 83 rfl rfl
      obtain ⟨h84_,r7⟩:=hd17 7 84 rfl rfl
      obtain ⟨h85_,r8⟩:=hd17 8 85 rfl rfl
      obtain ⟨h86_,r9⟩:=hd17 9 86 rfl rfl
      obtain ⟨h87_,r10⟩:=hd17 10 87 rfl rfl
      obtain ⟨h88_,r11⟩:=hd17 11 88 rfl rfl
      obtain ⟨h89_,r12⟩:=hd17 12 89 rfl rfl
      obtain ⟨h90_,r13⟩:=hd17 13 90 rfl rfl
      obtain ⟨h91_,r14⟩:=hd17 14 91 rfl rfl
      obtain ⟨h92_,r15⟩:=hd17 15 92 rfl rfl
      obtain ⟨h93_,r16⟩:=hd17 16 93 rfl rfl
      obtain ⟨h94_,r17⟩:=hd17 17 94 rfl rfl
      obtain ⟨h95_,r18⟩:=hd17 18 95 rfl rfl
      obtain ⟨h96_,r19⟩:=hd17 19 96 rfl rfl
      obtain ⟨h97_,r20⟩:=hd17 20 97 rfl rfl
      obtain ⟨h98_,r21⟩:=hd17 21 98 rfl rfl
      obtain ⟨h99_,r22⟩:=hd17 22 99 rfl rfl
      obtain ⟨h100_,r23⟩:=hd17 23 100 rfl rfl
      obtain ⟨h101_,r24⟩:=hd17 24 101 rfl rfl
      obtain ⟨h102_,r25⟩:=hd17 25 102 rfl rfl
      obtain ⟨h103_,r26⟩:=hd17 26 103 rfl rfl
      simp only [rg27,Fc,Fn,Mc,Mn,r0,r1,r2,r3,r4,r5,r6,r7,r8,r9,r10,r11,r12,r13,r14,r15,r16,r17,r18,r19,r20,r21,r22,r23,r24,r25,r26,Na,An,Ca] at V
      refine zaH (sl:=[(1,Pp _ _),(5,str _),(6,.int .i64 _),(7,Pp _ _),(9,.int .i64 _),(91,str _),(103,str _)]) ⟨(hs16 1 Z).trans Z,(hs16 5 Z).trans Z,(hs16 6 Z).trans Z,(hs16 7 Z).trans Z,(hs16 9 Z).trans Z,h91_,h103_,trivial⟩ ?_
      clear hs16 hd17 hr19 tab14
      refine Q<|za2 rfl rfl (by first | omega | (simp only [List.length_cons,List.length_nil,List.length_append]; omega) | (simp; omega))<|AS rfl<|G<|zan<|zal [(1,Pp _ _),(5,str _),(6,.int .i64 _),(7,Pp _ _),(8,str _),(9,.int .i64 _)] E6 fun f=>RG<|MI rfl<|Q<|zaD rfl rfl rfl zbS<|AI rfl<|G<|zaG ?_
      exact ih12 (b + 1) _ w ((by omega)) V ((by omega)) E4 ⟨(congrArg str (by rw [← zrI (s:=(p.args.getD ((i:Int).toNat) zeroA).s) (b:=b) (by omega),zmM (n:=((p.args.getD ((i:Int).toNat) zeroA).s.getD b 0).toNat / 16) (by omega) (by omega),zmM (n:=((p.args.getD ((i:Int).toNat) zeroA).s.getD b 0).toNat % 16) (by omega) (by omega)])),(Vi (by omega)),trivial⟩
     have hb2:b = (p.args.getD ((i:Int).toNat) zeroA).s.length:=by omega
     have hbf:((p.args.getD ((i:Int).toNat) zeroA).s.take b).flatMap zg9 = (p.args.getD ((i:Int).toNat) zeroA).s.flatMap zg9:=by rw [hb2,List.take_length]
     refine zaU (id:=2) rfl<|RG<|MS rfl<|Q<|za2 rfl rfl (by first | omega | (simp only [List.length_cons,List.length_nil,List.length_append]; omega) | (simp; omega))<|MS rfl<|Q<|za2 rfl rfl (by first | omega | (simp only [List.length_cons,List.length_nil,List.length_append]; omega) | (simp; omega))<|Q<|za2 rfl rfl (by first | omega | (simp only [List.length_cons,List.length_nil,List.length_append]; omega) | (simp; omega))<|AS rfl<|G<|zan<|RG<|MI rfl<|Q<|zaD rfl rfl rfl zbS<|AI rfl<|G ?_
     refine zaG ?_
     replace V:=V.pick (.c .u1 (.c .u1 .nil))
     exact ih7 (i + 1) _ w ((by omega)) V ((by omega)) ⟨rfl,trivial⟩ ⟨(congrArg str (by rw [hbf]; exact wtJ_3 (i:=p.L) (fm:=fm) hi g9 g10 g11)),(Vi (by omega)),trivial⟩
    refine SQ<|RunD.start [] V (bs:=[0,1,0,7,0,16,63,127,255,255,511,2047]) (ds:=[some 111,some 112,some 113,some 114,some 115,some 116,some 117,some 110,some 118,some 119,some 10,some 11]) ⟨Kr,Kr,Kr⟩ (fun tab20=>?_)
    refine DO tab20 1 (fun _ _ _ hc=>zac zfp (hc.old (v:=Pp _ _) Z Z Z) hc.z)<|DO tab20 2 (fun _ _ _ hc=>zae (v:=.int .u16 _) zov Z (hc.d 0 Z Z Z Z) (hc.st.cellL (Ar Q2) Z) hc.z)<|DO tab20 3 (fun _ _ _ hc=>zad (v:=.int .i64 _) (hc.old Z Z Z) hc.z)<|DO tab20 4 (fun _ _ _ hc=>zaK (v1:=.int .u16 _) (v2:=.int .i64 _) ent69 Z (hc.d 1 Z Z Z Z) (hc.d 2 Z Z Z Z) ((zjz hop hfm (i:Int) O _).mono fun v w hp=>⟨[],⟨hp.1,Z⟩,hc.st.keepc hp.2⟩))<|DO tab20 5 (fun _ _ _ hc=>zac zd8 (hc.old (v:=Pp _ _) Z Z Z) hc.z)<|DO tab20 6 (fun _ _ _ hc=>zae (v:=.int .u32 _) zbM Z (hc.d 4 Z Z Z Z) (hc.st.cellL (Ar Q0) Z) hc.z)<|DO tab20 7 (fun _ _ _ hc=>zaK (v1:=.int .u8 _) (v2:=.int .u32 _) ent92 Z (hc.d 3 Z Z Z Z) (hc.d 5 Z Z Z Z) ((zn4 (zaN fm (i:Int)) (p.args.getD ((i:Int).toNat) zeroA).n _).mono fun v w hp=>⟨[],⟨hp.1,Z⟩,hc.st.keepc hp.2⟩))<|DO tab20 8 (fun _ _ _ hc=>zad (v:=.tuple #[str _,.bool _]) (hc.d 6 Z Z Z Z) hc.z)<|DO tab20 9 (fun _ _ _ hc=>zdg (v:=str _) (hc.d 7 Z Z Z Z) Z hc.z)<|DO tab20 10 (fun _ _ _ hc=>zdg (v:=.bool _) (hc.d 7 Z Z Z Z) Z hc.z)<|DO tab20 11 (fun _ _ _ hc=>zao (v:=str _) (hc.d 8 Z Z Z Z) hc.z)<|RunD.fin zaB tab20 V Z (fun f21 w R24 hs22 hd23 hr25 V=>?_)
    obtain ⟨h111_,r0⟩:=hd23 0 111 rfl rfl
    obtain ⟨h112_,r1⟩:=hd23 1 112 rfl rfl
    obtain ⟨h113_,r2⟩:=hd23 2 113 rfl rfl
    obtain ⟨h114_,r3⟩:=hd23 3 114 rfl rfl
    obtain ⟨h115_,r4⟩:=hd23 4 115 rfl rfl
    obtain ⟨h116_,r5⟩:=hd23 5 116 rfl rfl
    obtain ⟨h117_,r6⟩:=hd23 6 117 rfl rfl
    obtain ⟨h110_,r7⟩:=hd23 7 110 rfl rfl
    obtain ⟨h118_,r8⟩:=hd23 8 118 rfl rfl
    obtain ⟨h119_,r9⟩:=hd23 9 119 rfl rfl
    obtain ⟨h10_,r10⟩:=hd23 10 10 rfl rfl
    simp only [rg11,Fc,Fn,Mc,Mn,r0,r1,r2,r3,r4,r5,r6,r7,r8,r9,r10,Na,An,Ca] at V
    refine zaH (sl:=[(1,Pp _ _),(5,str _),(6,.int .i64 _),(10,str _),(119,.bool _)]) ⟨(hs22 1 Z).trans Z,(hs22 5 Z).trans Z,(hs22 6 Z).trans Z,h10_,h119_,trivial⟩ ?_
    clear hs22 hd23 hr25 tab20
    refine AB rfl<|NR<|MS rfl<|Q<|za2 rfl rfl (by first | omega | (simp only [List.length_cons,List.length_nil,List.length_append]; omega) | (simp; omega))<|MS rfl<|Q<|za2 rfl rfl (by first | omega | (simp only [List.length_cons,List.length_nil,List.length_append]; omega) | (simp; omega))<|AS rfl<|G<|zan<|RG<|MI rfl<|Q<|zaD rfl rfl rfl zbS<|AI rfl<|G ?_
    refine zaG ?_
    replace V:=V.pick (.c .u1 (.c .u1 .nil))
    exact ih7 (i + 1) _ w (O) V (O) ⟨Z,trivial⟩ ⟨(congrArg str (wtJ_4 (i:=p.L) (fm:=fm) hi g9 g10 g11)),(Vi O),trivial⟩
   have hi:i = p.L.args.length:=by show i = p.args.length; omega
   refine zaU (id:=0) Z<|SR<|MS Z<|AS Z<|G<|zag func43 Z (TP (v:=str _) Z) ?_
   rw [zs3 (i:=p.L) hfm hi]
   exact ⟨Z,V.pure⟩
  ·refine SR <| Q <| zac zeY Z <| Q <| zae (v := .bool _) ty4 Z Z (V.cellL Q0 Z) <| G <| zaR Z (fun g26 => ?_) (fun g26 => ?_)
   ·refine RG <| MS rfl <| Q <| za2 rfl rfl (by first | omega | (simp only [List.length_cons, List.length_nil, List.length_append]; omega) | (simp; omega)) <| Q <| zac zey rfl <| Q <| zae (v := .int .u32 _) zbM rfl rfl (V.cellL Q1 rfl) <| Q <| zav (v1 := .int .u32 _) zlL rfl rfl <| Ret.det (zc4 p.ty hu.ty.1 hu.ty.2 _) V fun w V => Q <| za2 rfl rfl (by first | omega | (simp only [List.length_cons, List.length_nil, List.length_append]; omega) | (simp; omega)) <| AS rfl <| G ?_
    exact cut4 (()) _ w (V) (trivial) ⟨rfl,trivial⟩ ⟨(by rw [zs4 (i:=p.L) hfm g26]; rfl),trivial⟩
   refine zaj ?_
   exact cut4 (()) _ w (V) (trivial) ⟨rfl,trivial⟩ ⟨(by rw [wtH_no (i:=p.L) hfm g26]; rfl),trivial⟩
 ·refine SR <| Q <| zac zcY Z <| Q <| zae (v := .bool _) ty4 Z Z (V.cellL Q0 Z) <| G <| zaR Z (fun g27 => ?_) (fun g27 => ?_)
  ·refine RG <| Q <| zac zgt rfl <| Q <| zae (v := .int .u32 _) zbM rfl rfl (V.cellL Q1 rfl) <| Q <| zav (v1 := .int .u32 _) zlL rfl rfl <| Ret.det (zc4 p.res hu.res.1 hu.res.2 _) V fun w V => Q <| za2 rfl rfl (by first | omega | (simp only [List.length_cons, List.length_nil, List.length_append]; omega) | (simp; omega)) <| Q <| za2 rfl rfl (by first | omega | (simp only [List.length_cons, List.length_nil, List.length_append]; omega) | (simp; omega)) <| AS rfl <| G ?_
   exact cut1 (()) _ w (V) (trivial) E2 ⟨(by rw [zs1 (i:=p.L) hfm g27]; rfl),trivial⟩
  refine zaj ?_
  exact cut1 (()) _ w (V) (trivial) E2 ⟨(by rw [wtR_no (i:=p.L) hfm g27]; rfl),trivial⟩
theorem zhX (s:List UInt8) (w:World) (hl:s.length ≤ 9000000000000000000):Ret prog 183 #[str s] w (fun v w'=>v = .int .i64 ((s.length / 4 + 1:Nat):Int) ∧ St w NoM [] [] w'):=by
 refine zax (args:=[str s]) func183 Z Z Z ?_
 have V:=St.init w
 refine SR<|AI Z<|NSR<|MS Z<|Q (zaX (rest:=[]) ty9 Z ?_)
 first | refine Q (ze3 rfl rfl O O rfl zbS ?_) | refine Q (zgz rfl rfl O ?_)
 refine Q<|zaD Z Z Z zbS<|AI Z<|G<|zag func183 Z (TP (v:=.int .i64 _) Z) ?_
 exact ⟨Vi O,V.pure⟩
end Go.SK
namespace Go.SK
open Go Go.Proofs Go.Proofs.Tryz
theorem zp4:zaJ prog 183:=⟨f183,_,func183,Kr,rfl⟩
open Go.RowKit
theorem zlT (s:List UInt8) (w:World) (hl:s.length ≤ 100000000000000):Ret prog 182 #[str s] w (fun v w'=>∃ ro rc,v = .tuple #[.slice ro (zb6 s).length rc,.int .i64 (zcz s)] ∧ St w NoM [Res.sl ro (zb6 s).length rc 22 1 ((zb6 s).flatMap zir)] [] w'):=by
 refine zax (args:=[str s]) func182 Z Z Z ?_
 have V:=St.init w
 refine SR<|AL Z<|AI Z<|G<|SQ<|SR<|MS Z<|Q<|zaX (rest:=[]) ty9 Z<|MI Z<|G<|zau<|zba<|za7 [(0,str _),(8,.int .i64 _)] E2 (fun (i:Nat)=>[(9,.int .i64 (i:Int))]) (fun (i:Nat)=>[]) (fun (i:Nat)=>i ≤ s.length ∧ ∀ r,r < i → s.getD r 0 ≠ 0) (fun (i:Nat)=>s.length - i) (0) V ⟨Nat.zero_le _,fun r hr=>absurd hr O⟩ ⟨Z,trivial⟩ ?_
 intro i f w V hJ ih1
 refine SR<|Q<|zaY Z Z<|G<|SQ<|zaa Z (fun g2=>?_) (fun g2=>?_)
 ·refine zaj <| SQ <| zau <| SR <| MI Z <| AI Z <| NSR <| MS Z <| MI Z <| Q <| zaZ ty9 Z Z O O <| Q <| zai Z Z <| G ?_
  refine zaa Z (fun g3=>?_) (fun g3=>?_)
  ·refine SR <| AL Z <| AI Z <| G <| zah func182 Z (TP (v := .slice _ _ _) Z) (TP (v := .int .i64 _) Z) ?_
   replace V:=V.pick .nil
   have he:=zj4 O g3 hJ.2
   rw [zd2 (by rw [he]; decide),he]
   exact ⟨none,0,Z,(V.pushNil 22 1).noD⟩
  refine zaj<|zan<|RG<|Q<|zaD Z Z Z zbS<|MI Z<|G<|zaG ?_
  exact ih1 (i + 1) _ w O V (⟨by omega,ztu hJ.2 (byte1 g3)⟩) E2 ⟨(Vi O),trivial⟩
 refine zaU (id:=0) Z<|SQ<|SR<|MS Z<|Q<|zav (v1:=str _) zp4 Z Z<|Ret.det (zhX s _ O) V fun w V=>Q<|zbW Z Z<|G<|zaa Z (fun g4=>?_) (fun g4=>?_)
 ·refine SR <| AL Z <| AI Z <| G <| zah func182 Z (TP (v := .slice _ _ _) Z) (TP (v := .int .i64 _) Z) ?_
  replace V:=V.pick .nil
  have he:=zjd (s:=s) (fun r hr=>hJ.2 r O) O
  rw [zd2 (by rw [he]; decide),he]
  exact ⟨none,0,Z,(V.pushNil 22 1).noD⟩
 refine zaj<|SR<|MS Z<|Q<|zav (v1:=str _) zp4 Z Z<|Ret.det (zhX s _ O) V fun w V=>Q (zfu (k:=s.length / 4 + 1) V zis zbM Z Z Z De O O fun w bC V=>?_)
 rw [zpV] at V
 refine AL Z<|G<|SQ<|SR<|MS Z<|Q<|zaX (rest:=[]) ty9 Z<|MI Z<|G<|zau<|zba<|za7 [(0,str _),(5,.slice _ _ _),(24,.int .i64 _)] E3 (fun (i:Nat)=>[(25,.int .i64 (i:Int))]) (fun (i:Nat)=>[Res.sl (some ⟨bC,0,none⟩) (s.length / 4 + 1) (s.length / 4 + 1) 22 1 ((zce (zcQ s i)).flatMap zir)]) (fun (i:Nat)=>i ≤ s.length) (fun (i:Nat)=>s.length - i) (0) V (Nat.zero_le _) ⟨Z,trivial⟩ ?_
 intro i f w V hK ih5
 have hLl:=zeA (s:=s) (i:=i) hK
 refine SR<|Q<|zaY Z Z<|G<|SQ<|zaa Z (fun g6=>?_) (fun g6=>?_)
 ·have hlow := zrS (s := s) (i := i) O
  refine zaj<|SQ<|zau<|SR<|MI Z<|AI Z<|G<|RunD.start [] V (bs:=[0,0,2,7,15,0,0,96,224,0,512,1536,4064,8191,16383,32767]) (ds:=[some 28,some 29,some 30,some 31,some 32,some 33,some 34,some 35,some 36,some 37,some 38,some 39,some 40,some 41,some 42,none]) ⟨Kr,Kr,Kr⟩ (fun tab7=>?_)
  refine DO tab7 1 (fun _ _ _ hc=>zad (v:=.slice _ _ _) (hc.old Z Z Z) hc.z)<|DO tab7 2 (fun _ _ _ hc=>zad (v:=.int .i64 _) (hc.old Z Z Z) hc.z) ?_
  first | refine DO tab7 3 (fun _ _ _ hc=>ze3 (hc.d 1 rfl rfl rfl rfl) rfl O O rfl zbS hc.z) ?_ | refine DO tab7 3 (fun _ _ _ hc=>zgz (hc.d 1 rfl rfl rfl rfl) rfl O hc.z) ?_
  refine DO tab7 4 (fun _ _ _ hc=>zbb zis zbM (hc.d 0 Z Z Z Z) (hc.d 2 Z Z Z Z) O O hc.z)<|DO tab7 5 (fun _ _ _ hc=>zae (v:=.int .u32 _) zbM Z (hc.d 3 Z Z Z Z) (Res.sl_cell (hc.st.hL _ (Ar Q0)) (zc3 (g:=zir) (d:=0) zme Z O)) hc.z)<|DO tab7 6 (fun _ _ _ hc=>zad (v:=str _) (hc.old Z Z Z) hc.z)<|DO tab7 7 (fun _ _ _ hc=>zad (v:=.int .i64 _) (hc.old Z Z Z) hc.z)<|DO tab7 8 (fun _ _ _ hc=>zaZ ty9 (hc.d 5 Z Z Z Z) (hc.d 6 Z Z Z Z) O O hc.z) ?_
  first | refine DO tab7 9 (fun _ _ _ hc=>zaW ty5 zbM (hc.d 7 rfl rfl rfl rfl) zqU hc.z) ?_ | refine DO tab7 9 (fun _ _ _ hc=>zaW ty5 zbM (hc.d 7 rfl rfl rfl rfl) (zoL _) hc.z) ?_ | refine DO tab7 9 (fun _ _ _ hc=>za4 ty5 zbM (hc.d 7 rfl rfl rfl rfl) hc.z) ?_
  refine DO tab7 10 (fun _ _ _ hc=>zad (v:=.int .i64 _) (hc.old Z Z Z) hc.z) ?_
  first | refine DO tab7 11 (fun _ _ _ hc=>zcl (hc.d 9 rfl rfl rfl rfl) rfl O O rfl hc.z) ?_ | refine DO tab7 11 (fun _ _ _ hc=>zcV (hc.d 9 rfl rfl rfl rfl) rfl O hc.z) ?_
  refine DO tab7 12 (fun _ _ _ hc=>zcw Z (hc.d 10 Z Z Z Z) Z zbS hc.z)<|DO tab7 13 (fun _ _ _ hc=>zna (c:=((s.getD i 0).toNat:Int) * 256 ^ (i % 4)) (hc.d 8 Z Z Z Z) (hc.d 11 Z Z Z Z) O (by show _ ≤ 32; omega) (zrl (s.getD i 0) i) hc.z)<|RunD.fin zaB tab7 V Z (fun f8 w R11 hs9 hd10 hr12 V=>?_)
  obtain ⟨h28_,r0⟩:=hd10 0 28 rfl rfl
  obtain ⟨h29_,r1⟩:=hd10 1 29 rfl rfl
  obtain ⟨h30_,r2⟩:=hd10 2 30 rfl rfl
  obtain ⟨h31_,r3⟩:=hd10 3 31 rfl rfl
  obtain ⟨h32_,r4⟩:=hd10 4 32 rfl rfl
  obtain ⟨h33_,r5⟩:=hd10 5 33 rfl rfl
  obtain ⟨h34_,r6⟩:=hd10 6 34 rfl rfl
  obtain ⟨h35_,r7⟩:=hd10 7 35 rfl rfl
  obtain ⟨h36_,r8⟩:=hd10 8 36 rfl rfl
  obtain ⟨h37_,r9⟩:=hd10 9 37 rfl rfl
  obtain ⟨h38_,r10⟩:=hd10 10 38 rfl rfl
  obtain ⟨h39_,r11⟩:=hd10 11 39 rfl rfl
  obtain ⟨h40_,r12⟩:=hd10 12 40 rfl rfl
  simp only [rg13,Fc,Fn,Mc,Mn,r0,r1,r2,r3,r4,r5,r6,r7,r8,r9,r10,r11,r12,Na,An,Ca] at V
  refine zaH (sl:=[(0,str _),(5,.slice _ _ _),(24,.int .i64 _),(25,.int .i64 _),(28,.slice _ _ _),(30,.int .i64 _),(32,.int .u32 _),(40,.int .u32 _)]) ⟨(hs9 0 Z).trans Z,(hs9 5 Z).trans Z,(hs9 24 Z).trans Z,(hs9 25 Z).trans Z,h28_,h30_,h32_,h40_,trivial⟩ ?_
  clear hs9 hd10 hr12 tab7
  refine Q<|zot (a:=(zce (zcQ s i)).getD (i / 4) 0) (m:=8 * (i % 4)) (q:=((s.getD i 0).toNat:Int)) (c:=(zce (zcQ s i)).getD (i / 4) 0 + ((s.getD i 0).toNat:Int) * 256 ^ (i % 4)) rfl rfl hlow.1 hlow.2.1 (by rw [zpj (by omega)]) (by omega) rfl hlow.2.2<|Q<|zbb zis zbM rfl rfl (by omega) (by omega)<|Q<|zft (v:=.int .u32 _) V zbM rfl rfl rfl rfl rfl .u0 (by simp only [List.length_cons,List.length_nil]; omega) fun w V=>G<|zan<|RG<|Q<|zaD rfl rfl rfl zbS<|MI rfl<|G<|zaG ?_
  exact ih5 (i + 1) _ w (by omega) (by (try dsimp only); rw [← zpW (s:=s) (i:=i) (by omega)]; exact V) (by omega) E3 ⟨(Vi (by omega)),trivial⟩
 have hi:i = s.length:=by omega
 subst hi
 have hpd:zcQ s s.length = ziy s:=rfl
 rw [hpd] at V
 refine zaU (id:=2) Z<|SR<|ML Z<|AL Z<|AI Z<|G<|zah func182 Z (TP (v:=.slice _ _ _) Z) (TP (v:=.int .i64 _) Z) ?_
 replace V:=V.pick (.k1 .nil)
 have he:=znD (s:=s) (fun r hr=>hJ.2 r O) O
 have hpl:(zce (ziy s)).length = s.length / 4 + 1:=by rw [zgl,zix]; omega
 rw [ziz he,he,hpl]
 exact ⟨_,_,Z,V.noD⟩
end Go.SK
namespace Go.SK
open Go Go.Proofs Go.Proofs.Tryz
theorem ty85:TyF prog 85 (.slice 62) 1 24 [.slice none 0 0]:=zbw Kr Kr
open Go.RowKit
theorem zkS (l:List RawP) (ao:Option Addr) (cp:Nat) (w:World) (hA:(Res.rs ao l.length 2 (l.flatMap zpe)).holds w) (hl:l.length ≤ 35184372088832) (hla:∀ r ∈ l,r.ws.length ≤ 35184372088832):Ret prog 107 #[.slice ao l.length cp] w (fun v w'=>v = cntV (zlN 5 0 (l.map zlt)) ∧ St w NoM [] [] w'):=by
 refine zax (args:=[.slice ao l.length cp]) func107 Z Z Z ?_
 have V:St w NoM [] [Res.rs ao l.length 2 (l.flatMap zpe)] w:=St.init_D hA
 clear hA
 refine SR<|AI Z<|Q<|zaw V zbr fun w b3 V=>NSR<|AI Z<|G<|SQ<|SR<|ML Z<|Q<|zaQ (rest:=[]) ty85 Z<|MI Z ?_
 refine G<|zau<|zba<|za7 [(3,Pp _ _),(7,.slice _ _ _),(8,.int .i64 _)] E3 (fun (q:Nat × Nat)=>[(4,.int .i64 (q.2:Int)),(9,.int .i64 (q.1:Int))]) (fun (q:Nat × Nat)=>[]) (fun (q:Nat × Nat)=>q.1 ≤ l.length ∧ q.2 ≤ 1048576 ∧ zlN 5 0 (l.map zlt) = zlN q.2 q.1 ((l.map zlt).drop q.1)) (fun (q:Nat × Nat)=>l.length - q.1) ((0,5)) V ⟨Nat.zero_le _,by decide,Z⟩ E2 ?_
 intro ⟨i,n⟩ f w V hJ ih1
 replace V:St _ _ ([] ++ [_]) _ _:=V
 replace hJ:i ≤ l.length ∧ n ≤ 1048576 ∧ zlN 5 0 (l.map zlt) = zlN n i ((l.map zlt).drop i):=hJ
 refine zbj (sl:=[(4,.int .i64 (n:Int)),(9,.int .i64 (i:Int))]) E2<|SR<|Q<|zaY Z Z<|G<|SQ<|zaa Z (fun g2=>?_) (fun g2=>?_)
 ·have hlen := hla _ (zci (d := zfd) (i := i) O)
  have hidx:(l.getD ((i:Int).toNat) zfd).ws.length = (l.getD i zfd).ws.length:=rfl
  refine zaj<|SQ<|zau<|SR<|MI Z<|Q<|zbe ty85 zfA (V.hD _ Q0) Z Z O O<|Q<|zaC (vs:=lHL _ _ _ _) zfA Z Z Z (Res.rs2_cells (m:=2) (V.hD _ Q0) _ (zbQ (g:=zpe) (d:=zfd) zrr _ _ O))<|Q<|zaw V zfA fun w b6 V=>AI Z<|Q (SO (v:=gHL _ _ _ _) V zfA Z Z .u0 fun w V=>?_)
  refine NSR<|MI Z<|Q<|zac zjk Z<|Q<|zae (v:=.slice _ _ _) zis Z Z (V.cellL Q0 Z)<|Q<|zaQ (rest:=[]) zis Z<|Q<|zaD Z Z Z zbS<|Q<|zaD Z Z Z zbS<|AI Z<|G<|zau<|SR<|Q (zac zjk Z ?_)
  refine Q<|zae (v:=.slice _ _ _) zis Z Z (V.cellL Q0 Z)<|Q<|zaQ (rest:=[]) zis Z<|Q<|zbh Z Z<|AB Z<|G<|zaa Z (fun g3=>?_) (fun g3=>?_)
  ·refine SR <| MI Z <| Q (zaf zbr zc7 (.c (v := .int .i64 _) Z (h := (.c (v := .int .i64 _) Z (h := .nil)))) ?_)
   refine AI Z<|Q (SO (v:=gII _ _) V zbr Z Z .u1 fun w V=>?_)
   refine G<|zah func107 Z (TP (v:=.int .i64 _) Z) (zak (vs:=lII _ _) Z zbr Z Z (zab (n:=2) (V.objL Q1) _ Z)) ?_
   rw [hJ.2.2,zqf (by omega) (by omega)]
   exact ⟨Z,V.pure⟩
  refine SR<|MI Z<|Q<|zbW Z Z<|AB Z<|G<|zal [(3,Pp _ _),(4,.int .i64 _),(5,.int .i64 _),(7,.slice _ _ _),(8,.int .i64 _),(9,.int .i64 _),(27,.bool _)] E7 fun f=>zaa Z (fun g4=>?_) (fun g4=>?_)
  ·refine SR <| MI Z <| Q (zaf zbr zc7 (.c (v := .int .i64 _) Z (h := (.c (v := .int .i64 _) Z (h := .nil)))) ?_)
   refine AI Z<|Q (SO (v:=gII _ _) V zbr Z Z .u1 fun w V=>?_)
   refine G<|zah func107 Z (TP (v:=.int .i64 _) Z) (zak (vs:=lII _ _) Z zbr Z Z (zab (n:=2) (V.objL Q1) _ Z)) ?_
   rw [hJ.2.2,zqe (by omega) (by omega) (by omega)]
   exact ⟨Z,V.pure⟩
  refine zaj<|zan<|zan<|RG<|Q<|zaD Z Z Z zbS<|MI Z<|G<|zaG ?_
  replace V:=V.pick (.c .u1 .nil)
  exact ih1 ((i + 1,n + 1 + (l.getD i zfd).ws.length)) _ w (by (try dsimp only); omega) V (⟨by (try dsimp only); omega,by (try dsimp only); omega,by (try dsimp only); rw [hJ.2.2,zsa (by omega) (by omega) (by omega)]⟩) E3 ⟨(Vi (by (try dsimp only); omega)),(Vi (by (try dsimp only); omega)),trivial⟩
 obtain rfl:i = l.length:=by omega
 refine zaU (id:=0) Z<|SR<|MI Z<|Q (zaf zbr zc7 .nil ?_)
 refine AI Z<|Q (SO (v:=gII _ _) V zbr Z Z .u0 fun w V=>?_)
 refine G<|zah func107 Z (TP (v:=.int .i64 _) Z) (zak (vs:=lII _ _) Z zbr Z Z (zab (n:=2) (V.objL Q0) _ Z)) ?_
 rw [hJ.2.2,ztV]
 exact ⟨Z,V.pure⟩
end Go.SK
namespace Go.SK
open Go Go.Proofs Go.Proofs.Tryz
theorem ent107:zaJ prog 107:=⟨f107,_,func107,Kr,rfl⟩
open Go.RowKit
theorem zqz (l:List RawP) (ao:Option Addr) (cp:Nat) (w:World) (hA:(Res.rs ao l.length 2 (l.flatMap zpe)).holds w) (hl:l.length ≤ 35184372088832) (hla:∀ r ∈ l,r.ws.length ≤ 35184372088832):Ret prog 94 #[.slice ao l.length cp] w (fun v w'=>v = .tuple #[.int .i64 (zlN 5 0 (l.map zlt)).1,.int .i64 (zlN 5 0 (l.map zlt)).2.1] ∧ St w NoM [] [] w'):=by
 refine zax (args:=[.slice ao l.length cp]) func94 Z Z Z ?_
 have V:St w NoM [] [Res.rs ao l.length 2 (l.flatMap zpe)] w:=St.init_D hA
 clear hA
 refine SR<|AI Z<|AI Z<|NSR<|ML Z<|Q<|zav (v1:=.slice _ _ _) ent107 Z Z<|Ret.det (zkS _ _ _ _ (V.hD _ Q0) hl hla) V fun w V=>Q<|zad (v:=.tuple #[.int .i64 _,gII _ _]) Z<|Q<|Ex (.int .i64 _) Z Z<|Q<|Ex (gII _ _) Z Z<|Q<|zaw V zbr fun w b5 V=>AI Z<|Q (SO (v:=gII _ _) V zbr Z Z .u0 fun w V=>?_)
 refine G<|SQ<|RunD.start [] V (bs:=[0,0,2,1,15]) (ds:=[some 11,some 12,some 13,some 2,some 3]) ⟨Kr,Kr,Kr⟩ (fun tab1=>?_)
 refine DO tab1 1 (fun _ _ _ hc=>zad (v:=.int .i64 _) (hc.old Z Z Z) hc.z)<|DO tab1 2 (fun _ _ _ hc=>zac zco (hc.old (v:=Pp _ _) Z Z Z) hc.z)<|DO tab1 3 (fun _ _ _ hc=>zae (v:=.int .i64 _) zhj Z (hc.d 1 Z Z Z Z) (hc.st.cellL (Ar Q0) Z) hc.z)<|DO tab1 4 (fun _ _ _ hc=>zao (v:=.int .i64 _) (hc.d 0 Z Z Z Z) hc.z)<|RunD.fin zaB tab1 V Z (fun f2 w R5 hs3 hd4 hr6 V=>?_)
 obtain ⟨h11_,r0⟩:=hd4 0 11 rfl rfl
 obtain ⟨h12_,r1⟩:=hd4 1 12 rfl rfl
 obtain ⟨h13_,r2⟩:=hd4 2 13 rfl rfl
 obtain ⟨h2_,r3⟩:=hd4 3 2 rfl rfl
 simp only [rg4,Fc,Fn,Mc,Mn,r0,r1,r2,r3,Na,An,Ca] at V
 refine zaH (sl:=[(2,.int .i64 _),(13,.int .i64 _)]) ⟨h2_,h13_,trivial⟩ ?_
 clear hs3 hd4 hr6 tab1
 refine AI Z<|G<|zah func94 Z (TP (v:=.int .i64 _) Z) (TP (v:=.int .i64 _) Z) ?_
 exact ⟨Z,V.pure⟩
end Go.SK
namespace Go.SK
open Go Go.Proofs Go.Proofs.Tryz
theorem zo8:zcE prog 62 [(0,1),(1,1)]:=⟨zbk prog 62,Kr,fun w=>Kr⟩
open Go.RowKit
theorem zqC (n Y:Int) (w:World):Ret prog 137 #[.int .u32 n,.int .u32 Y] w (fun v w'=>v = .int .i64 (idE n Y) ∧ St w NoM [] [] w'):=by
 refine zax (args:=[.int .u32 n,.int .u32 Y]) func137 Z Z Z ?_
 have V:=St.init w
 refine SR<|AI Z<|G<|SQ<|SR<|MU Z<|Q<|zai Z Z<|MB Z<|zaz (d:=7) Z (fun g1=>?_) (fun g1=>?_)
 ·refine OM (t := 7) Z (Vb (Dt g1)) Z <| OM (t := 7) Z (Vb (Dt g1)) Z <| OM (t := 7) Z (Vb (Dt g1)) Z <| Q <| zaE (u := .bool _) (Vb (Dt g1)) Z <| G <| zat (Vb (Z : true = _)) <| SR <| AI Z <| G <| zag func137 Z (TP (v := .int .i64 _) Z) ?_
  exact ⟨Vi (by unfold idE; rw [if_pos (by omega)]),V.pure⟩
 refine TK (t:=7) Z (Vb (Df g1))<|zad (v:=.int .u32 _) Z<|TK (t:=7) Z (Vb (Df g1))<|zad (v:=.int .u32 _) Z<|TK (t:=7) Z (Vb (Df g1))<|zbh Z Z<|Q<|zay (u:=.bool _) (Vb (Df g1)) Z<|G<|zaa Z (fun g2=>?_) (fun g2=>?_)
 ·refine SR <| AI Z <| G <| zag func137 Z (TP (v := .int .i64 _) Z) ?_
  exact ⟨Vi (by unfold idE; rw [if_pos (by omega)]),V.pure⟩
 refine zaj<|SR<|AI Z<|G<|zag func137 Z (TP (v:=.int .i64 _) Z) ?_
 exact ⟨Vi (by unfold idE; rw [if_neg (by omega)]),V.pure⟩
theorem zom (c n:Int) (h0:0 ≤ c) (h1:c ≤ 255) (w:World):Ret prog 140 #[.int .u8 c,.int .u32 n] w (fun v w'=>v = .int .i64 (zgv c n) ∧ St w NoM [] [] w'):=by
 refine zax (args:=[.int .u8 c,.int .u32 n]) func140 Z Z Z ?_
 have V:=St.init w
 obtain ⟨o,ho⟩:∃ o,namesL.find? (enN c n) = o:=⟨_,rfl⟩
 refine SR<|AI Z<|G<|SQ<|SR<|MC Z<|MU Z<|Q<|zaK (v1:=.int .u8 _) (v2:=.int .u32 _) ent152 Z Z Z<|Ret.det (zog ho h0 h1 _) V fun w V=>Q<|zad (v:=.tuple #[str _,.bool _]) Z<|Q<|Ex (str _) Z Z<|Q<|Ex (.bool _) Z Z<|AS Z<|AB Z ?_
 refine NSR<|MB Z<|Q<|zaT Z<|G<|zaR Z (fun g1=>?_) (fun g1=>?_)
 ·refine SR <| AI Z <| G <| zag func140 Z (TP (v := .int .i64 _) Z) ?_
  exact ⟨Vi (by unfold zgv; rw [ho,if_neg (by simpa using g1)]),V.pure⟩
 refine zaj<|SR<|AI Z<|G<|zag func140 Z (TP (v:=.int .i64 _) Z) ?_
 exact ⟨Vi (by unfold zgv; rw [ho,if_pos (by simpa using g1)]),V.pure⟩
theorem zof {op:Int} {ks:List Int} {fa:Int} {fb:Bool} {n:Nat} (hfit:zdS op ks = (fa,fb)) (hn:n = ks.length) (h0:0 ≤ op) (ao:Option Addr) (cp:Nat) (w:World) (hA:(Res.rs ao n 1 (ks.flatMap u8C)).holds w) (hlen:n ≤ 9000000000000000):Ret prog 133 #[.int .u16 op,.slice ao n cp] w (fun v w'=>v = .tuple #[.int .i64 fa,.bool fb] ∧ St w NoM [] [] w'):=by
 subst hn
 exact (zkR op h0 ks ao cp w hA (by omega)).mono fun v w' h=>⟨h.1.trans (by rw [hfit]),h.2⟩
theorem zok (fm:FormL) (hf:FOk fm) (l:List ArgP) (ao:Option Addr) (cp:Nat) (w:World) (hA:(Res.rs ao l.length 3 (l.flatMap zgN)).holds w) (hl:l.length ≤ 9000000000000):Ret prog 78 #[.agg #[.int .u16 fm.op,str fm.name,.bool fm.ty,.bool fm.res,str fm.fixed,str fm.rest,.int .i64 fm.most,.int .u8 fm.part],.slice ao l.length cp] w (fun v w'=>v = .int .i64 (zen fm.op l) ∧ St w NoM [] [] w'):=by
 refine zax (args:=[.agg #[.int .u16 fm.op,str fm.name,.bool fm.ty,.bool fm.res,str fm.fixed,str fm.rest,.int .i64 fm.most,.int .u8 fm.part],.slice ao l.length cp]) func78 Z Z Z ?_
 have V:St w NoM [] [Res.rs ao l.length 3 (l.flatMap zgN)] w:=St.init_D hA
 clear hA
 obtain ⟨fa,fb,hfit⟩:∃ fa fb,zdS fm.op (l.map ArgP.kind) = (fa,fb):=⟨_,_,rfl⟩
 refine SR<|Q<|zbn (v:=zam _ _ _ _ _ _ _ _) V Z Z fun w b2 V=>AI Z<|NSR<|AL Z<|G<|SQ<|SR<|ML Z<|Q<|zaQ (rest:=[]) zeo Z<|MI Z ?_
 refine G<|zau<|zba ?_
 replace V:=V.pushNil 5 1
 refine za7 [(2,Pp _ _),(10,.slice _ _ _),(11,.int .i64 _)] E3 (fun (q:Nat × Option Addr × Nat)=>[(5,.slice q.2.1 q.1 q.2.2),(12,.int .i64 (q.1:Int))]) (fun (q:Nat × Option Addr × Nat)=>[Res.sl q.2.1 q.1 q.2.2 5 1 (((l.map ArgP.kind).take q.1).flatMap u8C)]) (fun (q:Nat × Option Addr × Nat)=>q.1 ≤ l.length) (fun (q:Nat × Option Addr × Nat)=>l.length - q.1) ((0,none,0)) V (Nat.zero_le _) E2 ?_
 intro ⟨i,aq,cq⟩ f w V hJ ih1
 replace V:St _ _ ([Res.sl aq i cq 5 1 (((l.map ArgP.kind).take i).flatMap u8C)] ++ [_]) _ _:=V
 replace hJ:i ≤ l.length:=hJ
 refine zbj (sl:=[(5,.slice aq i cq),(12,.int .i64 (i:Int))]) E2<|SR<|Q<|zaY Z Z<|G<|SQ<|zaa Z (fun g2=>?_) (fun g2=>?_)
 ·have hidx : l.getD ((i : Int)).toNat zeroA = l.getD i zeroA := rfl
  refine zaj<|SQ<|zau<|SR<|Q<|zbe zeo zbc (V.hD _ Q0) Z Z O O<|Q<|zaC (vs:=zcB _ _ _) zbc Z Z Z (Res.rs2_cells (m:=3) (V.hD _ Q0) _ (zbQ (g:=zgN) (d:=zeroA) zdv _ _ O))<|Q<|zaw V zbc fun w b7 V=>Q (SO (v:=zcp _ _ _) V zbc Z Z .u0 fun w V=>?_)
  refine NR<|ML Z<|Q<|zac zdt Z<|Q<|zae (v:=.int .u8 _) ty5 Z Z (V.cellL Q0 Z)<|Q (zaI (z0:=[.int .u8 0]) V zgh ty5 Z Z Kr (.c (v:=.int .u8 _) Z (h:=.nil)) fun w b19 V=>?_)
  refine Q (zaO (news:=[.int .u8 _]) V zgh ty5 Z Z .u2 Z Z Z (zab (n:=1) (V.objL Q0) _ Z) Z Z O fun w ao3 cp4 V=>?_)
  replace V:=V.drop .u1
  refine AL Z<|G<|zan<|RG<|Q<|zaD Z Z Z zbS<|MI Z<|G<|zaG ?_
  have e1:((l.map ArgP.kind).take i).flatMap u8C ++ [.int .u8 (l.getD i zeroA).kind] = ((l.map ArgP.kind).take (i + 1)).flatMap u8C:=by rw [zc0 (l:=l.map ArgP.kind) (d:=zeroA.kind) (by rw [List.length_map]; omega),zdJ _ _ (by omega),List.flatMap_append]; rfl
  replace V:=V.pick (.k1 (.c .u1 .nil))
  exact ih1 ((i + 1,ao3,cp4)) _ w (by (try dsimp only); omega) (by (try dsimp only); rw [← e1]; exact V) (by (try dsimp only); omega) E3 ⟨rfl,(Vi (by (try dsimp only); omega)),trivial⟩
 obtain rfl:i = l.length:=by omega
 have hlk:l.length = (l.map ArgP.kind).length:=by rw [List.length_map]
 rw [List.take_of_length_le (by omega)] at V
 refine zaU (id:=0) Z<|SQ<|SR<|Q<|zac zfZ Z<|Q<|zae (v:=.int .u16 _) zov Z Z (V.cellL Q1 Z)<|ML Z<|Q<|zaK (v1:=.int .u16 _) (v2:=.slice _ _ _) zsU Z Z Z<|Ret.det (zof hfit hlk hf.op.1 _ _ _ (Res.rs_of_sl (V.hL _ Q0)) O) V fun w V=>Q<|zad (v:=.tuple #[.int .i64 _,.bool _]) Z<|Q<|Ex (.int .i64 _) Z Z<|Q<|Ex (.bool _) Z Z<|AI Z<|AB Z<|G<|SQ ?_
 refine RG<|MB Z<|Q<|zaT Z<|G<|zaR Z (fun g5=>?_) (fun g5=>?_)
 ·refine SR <| AI Z <| G <| zag func78 Z (TP (v := .int .i64 _) Z) ?_
  exact ⟨Vi (by unfold zen; rw [hfit,if_neg (by simpa using g5)]),V.pure⟩
 refine zaj<|SR<|AI Z<|G<|zag func78 Z (TP (v:=.int .i64 _) Z) ?_
 exact ⟨Vi (by unfold zen; rw [hfit,if_pos (by simpa using g5)]),V.pure⟩
end Go.SK
namespace Go.SK
open Go Go.Proofs Go.Proofs.Tryz
theorem zsS:zaJ prog 137:=⟨f137,_,func137,Kr,rfl⟩
theorem ent140:zaJ prog 140:=⟨f140,_,func140,Kr,rfl⟩
open Go.RowKit
theorem zkP {op c:Int} {fm:FormL} {i:Int} (h0:0 ≤ op) (hfm:za5 op = fm) (hc:zaN fm i = c) (h1:i ≤ 9223372036854775807) (w:World):Ret prog 131 #[.int .u16 op,.int .i64 i] w (fun v w'=>v = .int .u8 c ∧ St w NoM [] [] w'):=by
 subst hfm; subst hc; exact zh0 op h0 i h1 w
theorem zoe {c kd:Int} (hk:zb7 c = kd) (w:World):Ret prog 138 #[.int .u8 c] w (fun v w'=>v = .int .u8 kd ∧ St w NoM [] [] w'):=by
 subst hk; exact zkQ c w
end Go.SK
namespace Go.SK
open Go Go.Proofs Go.Proofs.Tryz
theorem ent78:zaJ prog 78:=⟨f78,_,func78,Kr,rfl⟩
theorem ent146:zaJ prog 146:=⟨f146,_,func146,Kr,rfl⟩
open Go.RowKit
theorem zqw (s:List UInt8) (w:World):Ret prog 146 #[str s,.int .u8 0] w (fun v w'=>v = .int .i64 (zub s) ∧ St w NoM [] [] w'):=by
 refine zax (args:=[str s,.int .u8 0]) func146 Z Z Z ?_
 have V:=St.init w
 refine SR<|AI Z<|NSR<|MS Z<|MC Z<|Q<|zsu (v1:=str s) (v2:=.int .u8 0) func193 Kr Kr Kr Kr Z Z Z (run_indexByte_string ⟨s.toArray⟩ 0 _)<|AI Z<|G<|zag func146 Z (TP (v:=.int .i64 _) Z) ?_
 exact ⟨Vi (zjo s),V.pure⟩
theorem zkN (s:List UInt8) (w:World):Ret prog 87 #[str s,.int .u8 0] w (fun v w'=>v = .int .i64 (zub s) ∧ St w NoM [] [] w'):=by
 refine zax (args:=[str s,.int .u8 0]) func87 Z Z Z ?_
 have V:=St.init w
 refine SR<|AI Z<|NSR<|MS Z<|MC Z<|Q<|zaK (v1:=str _) (v2:=.int .u8 _) ent146 Z Z Z<|Ret.det (zqw _ _) V fun w V=>AI Z<|G<|zag func87 Z (TP (v:=.int .i64 _) Z) ?_
 exact ⟨Z,V.pure⟩
end Go.SK
namespace Go.SK
open Go Go.Proofs Go.Proofs.Tryz
theorem zfX:FldF prog 134 2 9:=FldF.of (n:=0) Kr
theorem zd5:FldF prog 134 3 10:=FldF.of (n:=0) Kr
theorem zsT:zaJ prog 136:=⟨f136,_,func136,Kr,rfl⟩
theorem zmN:FldF prog 134 1 8:=FldF.of (n:=0) Kr
theorem ent182:zaJ prog 182:=⟨f182,_,func182,Kr,rfl⟩
open Go.RowKit
theorem zm8 (bq:Nat) (fm:FormL) (Y:Int) (ao:Option Addr) (cp:Nat) (ws:List Int) (room:Int) (n:Int) (w:World) (hR:(WrC 134 22 bq fm Y ao cp ws room).holds w) (hl:ws.length ≤ 1000000000000) (hr0:0 ≤ room) (hr1:room ≤ 1000000000000):Ret prog 136 #[.pointer (some ⟨bq,0,none⟩),.int .u32 n] w (fun v w'=>∃ ao' cp',St w (WrC 134 22 bq fm Y ao cp ws room).foot [WrC 134 22 bq fm Y ao' cp' (ws ++ [n]) (room + 1)] [] w'):=by
 refine zax (args:=[.pointer (some ⟨bq,0,none⟩),.int .u32 n]) func136 Z Z Z ?_
 have V:St w (WrC 134 22 bq fm Y ao cp ws room).foot [WrC 134 22 bq fm Y ao cp ws room] [] w:=St.enter1 hR (fun d hd=>by cases hd) (fun d hd=>by cases hd)
 replace V:St _ _ [_,_] _ _:=V.unpack
 refine SR<|MP Z<|MP Z<|Q<|zaF Z<|Q<|zac zfX Z<|Q<|zae (v:=.slice _ _ _) zis Z Z (V.cellL Q0 Z)<|MU Z<|Q (zaI (z0:=[.int .u32 0]) V zis zbM Z Z Kr (.c (v:=.int .u32 _) Z (h:=.nil)) fun w b10 V=>?_)
 refine Q (zaO (news:=[.int .u32 _]) V zis zbM Z Z .u2 Z Z Z (zab (n:=1) (V.objL Q0) _ Z) Z Z O fun w ao1 cp2 V=>?_)
 replace V:=V.drop .u1
 refine Q<|zaF Z<|Q<|zac zfX Z<|Q (SO (v:=.slice _ _ _) V zis Z Z .u1 fun w V=>?_)
 refine NR<|MP Z<|Q<|zaF Z<|Q<|zac zd5 Z<|Q<|zae (v:=.int .i64 _) ty3 Z Z (V.cellL Q1 Z)<|Q<|zaD Z Z Z zbS<|Q<|zaF Z<|Q<|zac zd5 Z<|Q (SO (v:=.int .i64 _) V ty3 Z Z .u1 fun w V=>?_)
 refine G<|zg2 func136 Z  ?_
 replace V:=V.pick (.c .u1 (.k1 .nil))
 have e1:ws.length + 1 = (ws ++ [n]).length:=by simp
 have e2:ws.flatMap zir ++ [.int .u32 n] = (ws ++ [n]).flatMap zir:=by simp
 rw [e1,e2] at V
 exact ⟨_,_,(St.pack (L1:=[_,_]) (L2:=[]) V)⟩
theorem ziO (bq:Nat) (fm:FormL) (Y:Int) (ao:Option Addr) (cp:Nat) (ws:List Int) (room:Int) (must:Bool) (n lacks:Int) (hk:lacks ≠ 0) (w:World) (hR:(WrC 134 22 bq fm Y ao cp ws room).holds w) (hl:ws.length ≤ 1000000000000) (hr0:0 ≤ room) (hr1:room ≤ 1000000000000):Ret prog 76 #[.pointer (some ⟨bq,0,none⟩),.bool must,.int .u32 n,.int .i64 lacks] w (fun v w'=>∃ ao' cp' ws' room',v = .int .i64 (idH must n Y lacks) ∧ ((idH must n Y lacks) = 0 → ws' = ws ++ znH must n ∧ room' = room + b2n must) ∧ ws'.length ≤ ws.length + 1 ∧ 0 ≤ room' ∧ room' ≤ room + 1 ∧ St w (WrC 134 22 bq fm Y ao cp ws room).foot [WrC 134 22 bq fm Y ao' cp' ws' room'] [] w'):=by
 refine zax (args:=[.pointer (some ⟨bq,0,none⟩),.bool must,.int .u32 n,.int .i64 lacks]) func76 Z Z Z ?_
 have V:St w (WrC 134 22 bq fm Y ao cp ws room).foot [WrC 134 22 bq fm Y ao cp ws room] [] w:=St.enter1 hR (fun d hd=>by cases hd) (fun d hd=>by cases hd)
 replace V:St _ _ [_,_] _ _:=V.unpack
 refine SR<|AI Z<|G<|SQ<|zau<|SR<|MB Z<|MU Z<|Q<|za8 Z Z<|Q<|znb ty4 Z Z<|AB Z<|G<|zaR Z (fun g1=>?_) (fun g1=>?_)
 ·refine SR <| MI Z <| AI Z <| G <| zag func76 Z (TP (v := .int .i64 _) Z) ?_
  replace V:=V.pick (.k2 .nil)
  have hE:=zpI (must:=must) (n:=n) (Y:=Y) (e:=lacks) (bne_iff_ne.1 g1)
  rw [hE]
  exact ⟨ao,cp,ws,room,Z,fun h=>absurd h hk,by omega,hr0,by omega,(St.pack (L1:=[_,_]) (L2:=[]) V)⟩
 refine SR<|MB Z<|Q<|zaT Z<|AB Z<|G<|zaR Z (fun g2=>?_) (fun g2=>?_)
 ·refine SR <| AI Z <| G <| zag func76 Z (TP (v := .int .i64 _) Z) ?_
  replace V:=V.pick (.k2 .nil)
  have hm:must = false:=by simpa using g2
  have hE:=idH_no (must:=must) (n:=n) (Y:=Y) (e:=lacks) (fun hx=>by have hy:=bne_iff_ne.2 hx; rw [g1] at hy; cases hy) hm
  rw [hE]
  exact ⟨ao,cp,ws,room,rfl,fun _=>⟨by rw [znH,hm]; simp,by rw [b2n,hm]; simp⟩,by omega,hr0,by omega,(St.pack (L1:=[_,_]) (L2:=[]) V)⟩
 refine zaj<|zan<|SR<|MP Z<|MU Z ?_
 replace V:=V.pick (.k2 .nil)
 replace V:St _ _ (WrC 134 22 bq fm Y ao cp ws room :: _) _ _:=V.pack (L1:=[_,_])
 refine Q (zaK (v1:=Pp _ _) (v2:=.int .u32 _) zsT Z Z Z ((zm8 bq fm Y ao cp ws room _ _ (V.hL _ Q0) hl hr0 hr1).mono fun v w hp=>?_))
 obtain ⟨ao2,cp2,hp⟩:=hp
 replace V:St _ _ (WrC 134 22 bq fm Y ao2 cp2 (ws ++ [n]) (room + 1) :: _) _ _:=V.call1 hp
 replace V:St _ _ (_ :: _ :: _) _ _:=V.unpack
 refine NSR<|MU Z<|MP Z<|Q<|zaF Z<|Q<|zac zmN Z<|Q<|zae (v:=.int .u32 _) zbM Z Z (V.cellL Q0 Z)<|Q<|zaK (v1:=.int .u32 _) (v2:=.int .u32 _) zsS Z Z Z<|Ret.det (zqC _ _ _) V fun w V=>AI Z<|G<|zag func76 Z (TP (v:=.int .i64 _) Z) ?_
 replace V:=V.pick (.k2 .nil)
 have hm:must = true:=by simpa using g2
 have hE:=idH_id (must:=must) (n:=n) (Y:=Y) (e:=lacks) (fun hx=>by have hy:=bne_iff_ne.2 hx; rw [g1] at hy; cases hy) hm
 rw [hE]
 exact ⟨ao2,cp2,ws ++ [n],room + 1,rfl,fun _=>⟨by rw [znH,hm]; rfl,by rw [b2n,hm]; rfl⟩,by simp,by omega,by omega,(St.pack (L1:=[_,_]) (L2:=[]) V)⟩
theorem zoj (bq:Nat) (fm:FormL) (Y:Int) (ao:Option Addr) (cp:Nat) (ws:List Int) (room:Int) (s:List UInt8) (hs:s.length ≤ 100000000000) (w:World) (hR:(WrC 134 22 bq fm Y ao cp ws room).holds w) (hl:ws.length ≤ 1000000000000) (hr0:0 ≤ room) (hr1:room ≤ 1000000000000):Ret prog 139 #[.pointer (some ⟨bq,0,none⟩),str s] w (fun v w'=>∃ ao' cp' ws' room',v = .int .i64 (znn s) ∧ ((znn s) = 0 → ws' = ws ++ zb6 s ∧ room' = room + ((s.length / 4 + 1:Nat):Int)) ∧ ws'.length ≤ ws.length + (s.length / 4 + 1) ∧ 0 ≤ room' ∧ room' ≤ room + ((s.length / 4 + 1:Nat):Int) ∧ St w (WrC 134 22 bq fm Y ao cp ws room).foot [WrC 134 22 bq fm Y ao' cp' ws' room'] [] w'):=by
 refine zax (args:=[.pointer (some ⟨bq,0,none⟩),str s]) func139 Z Z Z ?_
 have V:St w (WrC 134 22 bq fm Y ao cp ws room).foot [WrC 134 22 bq fm Y ao cp ws room] [] w:=St.enter1 hR (fun d hd=>by cases hd) (fun d hd=>by cases hd)
 replace V:St _ _ [_,_] _ _:=V.unpack
 have hle:=zpr s
 refine SR<|AI Z<|G<|SQ<|SR<|MS Z<|Q<|zaK (v1:=str _) (v2:=.int .u8 _) ent87 Z Z Z<|Ret.det (zkN s _) V fun w V=>Q<|zbh Z Z<|G<|zaa Z (fun g1=>?_) (fun g1=>?_)
 ·refine SR <| AI Z <| G <| zag func139 Z (TP (v := .int .i64 _) Z) ?_
  replace V:=V.pick (.k2 .nil)
  have hE:znn s = 13:=if_pos (idxZ_neg.1 (by omega))
  rw [hE]
  exact ⟨ao,cp,ws,room,Z,fun h=>absurd h De,by omega,hr0,by omega,(St.pack (L1:=[_,_]) (L2:=[]) V)⟩
 refine zaj<|SR<|MS Z<|Q (zav (v1:=str _) ent182 Z Z ((zlT s _ O).mono fun v w hp=>?_))
 obtain ⟨aT,cT,rfl,hp⟩:=hp
 replace V:St _ _ (_ :: _) _ _:=V.call0 hp
 refine Q<|zad (v:=.tuple #[.slice _ _ _,.int .i64 _]) Z<|Q<|Ex (.slice _ _ _) Z Z<|Q<|Ex (.int .i64 _) Z Z<|AL Z<|AI Z<|G<|SQ<|SR<|MI Z<|Q<|za8 Z Z<|G<|zaa Z (fun g2=>?_) (fun g2=>?_)
 ·refine SQ <| RunD.start [] V (bs := [0, 1, 3, 7, 0, 16, 63, 127, 255, 511]) (ds := [some 17, some 18, some 19, some 20, some 21, some 22, some 23, some 24, some 25, none]) ⟨Kr, Kr, Kr⟩ (fun tab3 => ?_)
  refine DO tab3 1 (fun _ _ _ hc=>zad (v:=Pp _ _) (hc.old Z Z Z) hc.z)<|DO tab3 2 (fun _ _ _ hc=>zaF (hc.d 0 Z Z Z Z) hc.z)<|DO tab3 3 (fun _ _ _ hc=>zac zd5 (hc.d 1 Z Z Z Z) hc.z)<|DO tab3 4 (fun _ _ _ hc=>zae (v:=.int .i64 _) ty3 Z (hc.d 2 Z Z Z Z) (hc.st.cellL (Ar Q1) Z) hc.z)<|DO tab3 5 (fun _ _ _ hc=>zad (v:=str _) (hc.old Z Z Z) hc.z)<|DO tab3 6 (fun _ _ _ hc=>zav (v1:=str _) zp4 Z (hc.d 4 Z Z Z Z) ((zhX s _ O).mono fun v w hp=>⟨[],⟨hp.1,Z⟩,hc.st.keepc hp.2⟩))<|RunD.fin zaB tab3 V Z (fun f4 w R7 hs5 hd6 hr8 V=>?_)
  obtain ⟨h17_,r0⟩:=hd6 0 17 rfl rfl
  obtain ⟨h18_,r1⟩:=hd6 1 18 rfl rfl
  obtain ⟨h19_,r2⟩:=hd6 2 19 rfl rfl
  obtain ⟨h20_,r3⟩:=hd6 3 20 rfl rfl
  obtain ⟨h21_,r4⟩:=hd6 4 21 rfl rfl
  obtain ⟨h22_,r5⟩:=hd6 5 22 rfl rfl
  simp only [rg6,Fc,Fn,Mc,Mn,r0,r1,r2,r3,r4,r5,Na,An,Ca] at V
  refine zaH (sl:=[(17,Pp _ _),(20,.int .i64 _),(22,.int .i64 _)]) ⟨h17_,h20_,h22_,trivial⟩ ?_
  clear hs5 hd6 hr8 tab3
  refine Q<|zaD Z Z Z zbS<|Q<|zaF Z<|Q<|zac zd5 Z<|Q (SO (v:=.int .i64 _) V ty3 Z Z .u1 fun w V=>?_)
  refine G<|zal [] trivial fun f=>SR<|AI Z<|G<|zag func139 Z (TP (v:=.int .i64 _) Z) ?_
  replace V:=V.pick (.c .u1 (.c .u1 .nil))
  have hE:znn s = 0:=if_neg (fun h=>by have:=idxZ_neg.2 h; omega)
  rw [hE]
  have hT:zb6 s = []:=zd2 g2
  exact ⟨ao,cp,ws,room + ((s.length / 4 + 1:Nat):Int),rfl,fun _=>⟨by rw [hT]; simp,rfl⟩,by omega,by omega,by omega,(St.pack (L1:=[_,_]) (L2:=[]) V)⟩
 refine zaj<|SR<|MP Z<|MP Z<|Q<|zaF Z<|Q<|zac zfX Z<|Q<|zae (v:=.slice _ _ _) zis Z Z (V.cellL Q1 Z)<|ML Z<|Q<|zk5 V zis zbM Z Z .u2 Z Z (Res.rs_of_sl (V.hL _ Q0)) (zpS (fun _=>rfl) _) Z O fun w ao2 cp2 V=>Q<|zaF Z<|Q<|zac zfX Z<|Q (SO (v:=.slice _ _ _) V zis Z Z .u2 fun w V=>?_)
 refine G<|zal [(0,Pp _ _),(5,.slice _ _ _)] E2 fun f=>SR<|MP Z<|Q<|zaF Z<|Q<|zac zd5 Z<|Q<|zae (v:=.int .i64 _) ty3 Z Z (V.cellL Q2 Z)<|ML Z<|Q<|zaQ (rest:=[]) zis Z<|Q<|zaD Z Z Z zbS<|Q<|zaF Z<|Q<|zac zd5 Z<|Q (SO (v:=.int .i64 _) V ty3 Z Z .u2 fun w V=>?_)
 refine NSR<|AI Z<|G<|zag func139 Z (TP (v:=.int .i64 _) Z) ?_
 replace V:=V.pick (.c .u2 (.k1 .nil))
 have hE:znn s = 0:=if_neg (fun h=>by have:=idxZ_neg.2 h; omega)
 rw [hE]
 have hT:=zgn (Nn g2)
 have e1:ws.length + (zb6 s).length = (ws ++ zb6 s).length:=by simp
 have e2:ws.flatMap zir ++ (zb6 s).flatMap zir = (ws ++ zb6 s).flatMap zir:=by simp
 rw [e1,e2] at V
 exact ⟨ao2,cp2,ws ++ zb6 s,room + ((zb6 s).length:Int),rfl,fun _=>⟨rfl,by rw [hT]⟩,by rw [List.length_append]; omega,by omega,by omega,(St.pack (L1:=[_,_]) (L2:=[]) V)⟩
end Go.SK
namespace Go.SK
open Go Go.Proofs Go.Proofs.Tryz
theorem zrP:FldF prog 134 0 0:=FldF.of (n:=7) Kr
theorem ent139:zaJ prog 139:=⟨f139,_,func139,Kr,rfl⟩
open Go.RowKit
theorem zqA (bq:Nat) (fm:FormL) (Y:Int) (ao:Option Addr) (cp:Nat) (ws:List Int) (room:Int) (k:Nat) (hk:k ≤ 9000000000000000) (a:ArgP) (hs:a.s.length ≤ 100000000000) (c:Int) (hfm:za5 fm.op = fm) (hc:zaN fm (k:Int) = c) (w:World) (hR:(WrC 134 22 bq fm Y ao cp ws room).holds w) (hl:ws.length ≤ 1000000000000) (hr0:0 ≤ room) (hr1:room ≤ 1000000000000):Ret prog 77 #[.pointer (some ⟨bq,0,none⟩),.int .i64 (k:Int),.agg #[.int .u8 a.kind,.int .u32 a.n,str a.s]] w (fun v w'=>∃ ao' cp' ws' room',v = .int .i64 (zbl c a Y) ∧ ((zbl c a Y) = 0 → ws' = ws ++ zqi a ∧ room' = room + (zaS a:Int)) ∧ ws'.length ≤ ws.length + zaS a ∧ 0 ≤ room' ∧ room' ≤ room + (zaS a:Int) ∧ St w (WrC 134 22 bq fm Y ao cp ws room).foot [WrC 134 22 bq fm Y ao' cp' ws' room'] [] w'):=by
 refine zax (args:=[.pointer (some ⟨bq,0,none⟩),.int .i64 (k:Int),.agg #[.int .u8 a.kind,.int .u32 a.n,str a.s]]) func77 Z Z Z ?_
 have V:St w (WrC 134 22 bq fm Y ao cp ws room).foot [WrC 134 22 bq fm Y ao cp ws room] [] w:=St.enter1 hR (fun d hd=>by cases hd) (fun d hd=>by cases hd)
 replace V:St _ _ [_,_] _ _:=V.unpack
 have hf:FOk fm:=hfm ▸ zeQ fm.op
 have hop:=hf.op
 have hcb:0 ≤ c ∧ c ≤ 255:=hc ▸ zdN fm _
 obtain ⟨kd,hkd⟩:∃ kd,zb7 c = kd:=⟨_,rfl⟩
 refine SR<|Q<|zbn (v:=zcp _ _ _) V Z Z fun w b5 V=>AI Z<|NSR<|MP Z<|Q<|zaF Z<|Q<|zac zrP Z<|Q<|zac zfZ Z<|Q<|zae (v:=.int .u16 _) zov Z Z (V.cellL Q1 Z)<|MI Z<|Q<|zaK (v1:=.int .u16 _) (v2:=.int .i64 _) zsV Z Z Z<|Ret.det (zkP hop.1 hfm hc O _) V fun w V=>AC Z ?_
 refine NSR<|Q<|zac zdt Z<|Q<|zae (v:=.int .u8 _) ty5 Z Z (V.cellL Q0 Z)<|Q<|zai Z Z<|AB Z<|G<|SQ<|zau<|SQ<|RunD.start [] V (bs:=[0,1,3,7,15,7,39,127,255,511,1023,2047,4095,8191,16383,32767,65535,131071,262143,524287,1048575,2097151,4194303,8388607,16777215,33554431,67108863]) (ds:=[some 20,some 21,some 22,some 23,some 24,some 25,some 26,some 27,some 28,some 29,some 30,some 31,some 32,some 33,some 34,some 35,some 36,some 37,some 38,some 39,some 40,some 41,some 42,some 43,some 44,some 45,some 19]) ⟨Kr,Kr,Kr⟩ (fun tab1=>?_)
 refine DO tab1 1 (fun _ _ _ hc=>zad (v:=.int .u8 _) (hc.old Z Z Z) hc.z)<|DO tab1 2 (fun _ _ _ hc=>zai (hc.d 0 Z Z Z Z) Z hc.z)<|DO tab1 3 (fun _ _ _ hc=>zad (v:=.bool _) (hc.d 1 Z Z Z Z) hc.z)<|zhW (j:=2) Z (fun g2=>?_) (fun g2=>?_)
 ·refine zb8 tab1 4 Z Z (fun _ _ _ hc=>(hc.d 2 Z Z Z Z).trans (Vb (Dt g2))) <| zb8 tab1 5 Z Z (fun _ _ _ hc=>(hc.d 2 Z Z Z Z).trans (Vb (Dt g2))) <| zb8 tab1 6 Z Z (fun _ _ _ hc=>(hc.d 2 Z Z Z Z).trans (Vb (Dt g2))) <| zb8 tab1 7 Z Z (fun _ _ _ hc => (hc.d 2 Z Z Z Z).trans (Vb (Dt g2))) <| RunD.fin zaB tab1 V Z (fun f3 w R6 hs4 hd5 hr7 V => ?_)
  obtain ⟨h20_,r0⟩:=hd5 0 20 rfl rfl
  obtain ⟨h21_,r1⟩:=hd5 1 21 rfl rfl
  obtain ⟨h22_,r2⟩:=hd5 2 22 rfl rfl
  obtain ⟨h23_,r3⟩:=hd5 3 23 rfl rfl
  obtain ⟨h24_,r4⟩:=hd5 4 24 rfl rfl
  obtain ⟨h25_,r5⟩:=hd5 5 25 rfl rfl
  obtain ⟨h26_,r6⟩:=hd5 6 26 rfl rfl
  simp only [rg7,Fc,Fn,Mc,Mn,r0,r1,r2,r3,r4,r5,r6,Na,An,Ca] at V
  refine zaH (sl:=[(0,Pp _ _),(5,Pp _ _),(7,.int .u8 _),(8,.bool _),(22,.bool _),(24,_),(26,_)]) ⟨(hs4 0 Z).trans Z,(hs4 5 Z).trans Z,(hs4 7 Z).trans Z,(hs4 8 Z).trans Z,h22_,h24_,h26_,trivial⟩ ?_
  clear hs4 hd5 hr7 tab1
  refine OM (t:=22) Z (Vb (Dt g2)) Z<|Q<|zaE (u:=.bool _) (Vb (Dt g2)) Z<|MB Z<|OM (t:=29) Z (Vb (Z:true = _)) Z<|OM (t:=29) Z (Vb (Z:true = _)) Z<|zaM (t:=31) Z Z<|zaM (t:=31) Z Z<|zaM (t:=31) Z Z<|OM (t:=29) Z (Vb (Z:true = _)) Z<|Q<|zaE (u:=.bool _) (Vb (Z:true = _)) Z<|MB Z<|OM (t:=37) Z (Vb (Z:true = _)) Z<|OM (t:=37) Z (Vb (Z:true = _)) Z<|OM (t:=37) Z (Vb (Z:true = _)) Z<|zaM (t:=40) Z Z ?_
  refine zaM (t:=40) Z Z<|zaM (t:=40) Z Z<|OM (t:=37) Z (Vb (Z:true = _)) Z<|Q<|zaE (u:=.bool _) (Vb (Z:true = _)) Z<|AB Z<|G<|zal [(0,Pp _ _),(5,Pp _ _),(7,.int .u8 _),(8,.bool _),(19,.bool _)] E5 fun f=>zat (Vb (Z:true = _))<|SR<|AI Z<|G<|zag func77 Z (TP (v:=.int .i64 _) Z) ?_
  replace V:=V.pick (.c .u1 (.c .u1 .nil))
  have hX:zbl c a Y = 42:=zdW (.inl O)
  rw [hX]
  exact ⟨ao,cp,ws,room,Z,fun h=>absurd h De,by omega,hr0,by omega,(St.pack (L1:=[_,_]) (L2:=[]) V)⟩
 refine RunD.take (det _) tab1 4 Z (fun _ _ _ hc=>(hc.d 2 Z Z Z Z).trans (Vb (Df g2))) (fun _ _ _ hc=>zac zdt (hc.old (v:=Pp _ _) Z Z Z) hc.z)<|RunD.take (det _) tab1 5 Z (fun _ _ _ hc=>(hc.d 2 Z Z Z Z).trans (Vb (Df g2))) (fun _ _ _ hc=>zae (v:=.int .u8 _) ty5 Z (hc.d 3 Z Z Z Z) (hc.st.cellL (Ar Q0) Z) hc.z)<|RunD.take (det _) tab1 6 Z (fun _ _ _ hc=>(hc.d 2 Z Z Z Z).trans (Vb (Df g2))) (fun _ _ _ hc=>zad (v:=.int .u8 _) (hc.old Z Z Z) hc.z)<|RunD.take (det _) tab1 7 Z (fun _ _ _ hc=>(hc.d 2 Z Z Z Z).trans (Vb (Df g2))) (fun _ _ _ hc=>zav (v1:=.int .u8 _) zsR Z (hc.d 5 Z Z Z Z) ((zoe hkd _).mono fun v w hp=>⟨[],⟨hp.1,Z⟩,hc.st.keepc hp.2⟩))<|RunD.fin zaB tab1 V Z (fun f8 w R11 hs9 hd10 hr12 V=>?_)
 obtain ⟨h20_,r0⟩:=hd10 0 20 rfl rfl
 obtain ⟨h21_,r1⟩:=hd10 1 21 rfl rfl
 obtain ⟨h22_,r2⟩:=hd10 2 22 rfl rfl
 obtain ⟨h23_,r3⟩:=hd10 3 23 rfl rfl
 obtain ⟨h24_,r4⟩:=hd10 4 24 rfl rfl
 obtain ⟨h25_,r5⟩:=hd10 5 25 rfl rfl
 obtain ⟨h26_,r6⟩:=hd10 6 26 rfl rfl
 simp only [rg7,Fc,Fn,Mc,Mn,r0,r1,r2,r3,r4,r5,r6,Na,An,Ca] at V
 refine zaH (sl:=[(0,Pp _ _),(5,Pp _ _),(7,.int .u8 _),(8,.bool _),(22,.bool _),(24,.int .u8 _),(26,.int .u8 _)]) ⟨(hs9 0 Z).trans Z,(hs9 5 Z).trans Z,(hs9 7 Z).trans Z,(hs9 8 Z).trans Z,h22_,h24_,h26_,trivial⟩ ?_
 clear hs9 hd10 hr12 tab1
 refine TK (t:=22) Z (Vb (Df g2))<|za8 Z Z<|Q<|zay (u:=.bool _) (Vb (Df g2)) Z<|MB Z<|zaz (d:=29) Z (fun g13=>?_) (fun g13=>?_)
 ·refine OM (t := 29) Z (Vb (Dt g13)) Z <| OM (t := 29) Z (Vb (Dt g13)) Z <| zaM (t := 31) Z Z <| zaM (t := 31) Z Z <| zaM (t := 31) Z Z <| OM (t := 29) Z (Vb (Dt g13)) Z <| Q <| zaE (u := .bool _) (Vb (Dt g13)) Z <| MB Z <| OM (t := 37) Z (Vb (Z : true = _)) Z <| OM (t := 37) Z (Vb (Z : true = _)) Z <| OM (t := 37) Z (Vb (Z : true = _)) Z <| zaM (t := 40) Z Z <| zaM (t := 40) Z Z <| zaM (t := 40) Z Z <| OM (t := 37) Z (Vb (Z : true = _)) Z ?_
  refine Q<|zaE (u:=.bool _) (Vb (Z:true = _)) Z<|AB Z<|G<|zal [(0,Pp _ _),(5,Pp _ _),(7,.int .u8 _),(8,.bool _),(19,.bool _)] E5 fun f=>zat (Vb (Z:true = _))<|SR<|AI Z<|G<|zag func77 Z (TP (v:=.int .i64 _) Z) ?_
  replace V:=V.pick (.c .u1 (.c .u1 .nil))
  have hX:zbl c a Y = 42:=zdW (.inr (.inl (by rw [hkd]; omega)))
  rw [hX]
  exact ⟨ao,cp,ws,room,Z,fun h=>absurd h De,by omega,hr0,by omega,(St.pack (L1:=[_,_]) (L2:=[]) V)⟩
 refine TK (t:=29) Z (Vb (Df g13))<|zad (v:=.bool _) Z<|TK (t:=29) Z (Vb (Df g13))<|zad (v:=.bool _) Z<|zaz (d:=31) Z (fun g14=>?_) (fun g14=>?_)
 ·refine TK (t := 31) Z (Vb (Dt g14)) <| zac zd8 Z <| TK (t := 31) Z (Vb (Dt g14)) <| zae (v := .int .u32 _) zbM Z Z (V.cellL Q0 Z) <| TK (t := 31) Z (Vb (Dt g14)) <| za8 Z Z <| TK (t := 29) Z (Vb (Df g13)) <| zaE (u := .bool _) (Vb (Dt g14)) Z <| Q <| zay (u := .bool _) (Vb (Df g13)) Z <| MB Z <| zaz (d := 37) Z (fun g15 => ?_) (fun g15 => ?_)
  ·refine OM (t := 37) Z (Vb (Dt g15)) Z <| OM (t := 37) Z (Vb (Dt g15)) Z <| OM (t := 37) Z (Vb (Dt g15)) Z <| zaM (t := 40) Z Z <| zaM (t := 40) Z Z <| zaM (t := 40) Z Z <| OM (t := 37) Z (Vb (Dt g15)) Z <| Q <| zaE (u := .bool _) (Vb (Dt g15)) Z <| AB Z <| G <| zal [(0, Pp _ _), (5, Pp _ _), (7, .int .u8 _), (8, .bool _), (19, .bool _)] E5 fun f => zat (Vb (Z : true = _)) <| SR <| AI Z ?_
   refine G<|zag func77 Z (TP (v:=.int .i64 _) Z) ?_
   replace V:=V.pick (.c .u1 (.c .u1 .nil))
   have hX:zbl c a Y = 42:=zdW (.inr (.inr (.inl ⟨by omega,by omega⟩)))
   rw [hX]
   exact ⟨ao,cp,ws,room,Z,fun h=>absurd h De,by omega,hr0,by omega,(St.pack (L1:=[_,_]) (L2:=[]) V)⟩
  refine TK (t:=37) Z (Vb (Df g15))<|zad (v:=.bool _) Z<|TK (t:=37) Z (Vb (Df g15))<|zf9 Z<|TK (t:=37) Z (Vb (Df g15))<|zad (v:=.bool _) Z<|zaz (d:=40) Z (fun g16=>?_) (fun g16=>?_)
  ·exfalso
   omega
  refine OM (t:=40) Z (Vb (Df g16)) Z<|OM (t:=40) Z (Vb (Df g16)) Z<|OM (t:=40) Z (Vb (Df g16)) Z<|TK (t:=37) Z (Vb (Df g15))<|zay (u:=.bool _) (Vb (Df g16)) Z<|Q<|zay (u:=.bool _) (Vb (Df g15)) Z<|AB Z<|G<|zal [(0,Pp _ _),(5,Pp _ _),(7,.int .u8 _),(8,.bool _),(19,.bool _)] E5 fun f=>zas (Vb (Z:false = _))<|SR<|MB Z<|AB Z<|G<|zaa Z (fun g17=>?_) (fun g17=>?_)
  ·refine SR <| MP Z <| Q <| zac zd7 Z <| Q (zae (v := str _) ty9 Z Z (V.cellL Q0 Z) ?_)
   replace V:=V.pick (.c .u1 (.c .u1 (.k1 .nil)))
   replace V:St _ _ (WrC 134 22 bq fm Y ao cp ws room :: _) _ _:=V.pack (L1:=[_,_])
   refine Q (zaK (v1:=Pp _ _) (v2:=str _) ent139 Z Z Z ((zoj bq fm Y ao cp ws room a.s hs _ (V.hL _ Q0) hl hr0 hr1).mono fun v w hp=>?_))
   obtain ⟨ao2,cp2,ws2,room2,rfl,hE,hw2,hr2,hr3,hp⟩:=hp
   replace V:St _ _ (WrC 134 22 bq fm Y ao2 cp2 ws2 room2 :: _) _ _:=V.call1 hp
   refine AI Z<|G<|zag func77 Z (TP (v:=.int .i64 _) Z) ?_
   replace V:=V.pick (.k1 .nil)
   have hX:=zle (c:=c) (a:=a) (Y:=Y) (by omega) (by rw [hkd]; omega) (by omega) (by omega)
   have hY:=zf5 (a:=a) O
   rw [hX,hY.1,hY.2]
   exact ⟨ao2,cp2,ws2,room2,Z,hE,hw2,hr2,hr3,V⟩
  exfalso
  omega
 refine OM (t:=31) Z (Vb (Df g14)) Z<|OM (t:=31) Z (Vb (Df g14)) Z<|OM (t:=31) Z (Vb (Df g14)) Z<|TK (t:=29) Z (Vb (Df g13))<|zay (u:=.bool _) (Vb (Df g14)) Z<|Q<|zay (u:=.bool _) (Vb (Df g13)) Z<|MB Z<|TK (t:=37) Z (Vb (Z:false = _))<|zad (v:=.bool _) Z<|TK (t:=37) Z (Vb (Z:false = _))<|zf9 Z<|TK (t:=37) Z (Vb (Z:false = _))<|zad (v:=.bool _) Z<|zaz (d:=40) Z (fun g18=>?_) (fun g18=>?_)
 ·refine TK (t := 40) Z (Vb (Dt g18)) <| zac zd7 Z <| TK (t := 40) Z (Vb (Dt g18)) <| zae (v := str _) ty9 Z Z (V.cellL Q0 Z) <| TK (t := 40) Z (Vb (Dt g18)) <| ze4 Z Z <| TK (t := 37) Z (Vb (Z : false = _)) <| zaE (u := .bool _) (Vb (Dt g18)) Z <| Q <| zay (u := .bool _) (Vb (Z : false = _)) Z <| AB Z <| G <| zal [(0, Pp _ _), (5, Pp _ _), (7, .int .u8 _), (8, .bool _), (19, .bool _)] E5 fun f => zaa Z (fun g19 => ?_) (fun g19 => ?_)
  ·refine SR <| AI Z <| G <| zag func77 Z (TP (v := .int .i64 _) Z) ?_
   replace V:=V.pick (.c .u1 (.c .u1 .nil))
   have hX:zbl c a Y = 42:=zdW (.inr (.inr (.inr ⟨by omega,by simpa using g19⟩)))
   rw [hX]
   exact ⟨ao,cp,ws,room,Z,fun h=>absurd h De,by omega,hr0,by omega,(St.pack (L1:=[_,_]) (L2:=[]) V)⟩
  refine SR<|MB Z<|AB Z<|G<|zaa Z (fun g20=>?_) (fun g20=>?_)
  ·exfalso
   omega
  refine zaj<|zan<|SR<|MP Z<|Q<|zac zd8 Z<|Q (zae (v:=.int .u32 _) zbM Z Z (V.cellL Q0 Z) ?_)
  replace V:=V.pick (.c .u1 (.c .u1 (.k1 .nil)))
  replace V:St _ _ (WrC 134 22 bq fm Y ao cp ws room :: _) _ _:=V.pack (L1:=[_,_])
  refine Q (zaK (v1:=Pp _ _) (v2:=.int .u32 _) zsT Z Z Z ((zm8 bq fm Y ao cp ws room _ _ (V.hL _ Q0) hl hr0 hr1).mono fun v w hp=>?_))
  obtain ⟨ao2,cp2,hp⟩:=hp
  replace V:St _ _ (WrC 134 22 bq fm Y ao2 cp2 (ws ++ [a.n]) (room + 1) :: _) _ _:=V.call1 hp
  replace V:St _ _ (_ :: _ :: _) _ _:=V.unpack
  refine G<|SQ<|SR<|Q<|zac zdt Z<|Q<|zae (v:=.int .u8 _) ty5 Z Z (V.cellL Q2 Z)<|G<|zau<|SR<|Q<|zai Z Z<|AB Z<|G<|zaa Z (fun g21=>?_) (fun g21=>?_)
  ·refine SQ <| RunD.start [] V (bs := [0, 1, 0, 4, 12, 28, 63, 127]) (ds := [some 60, some 61, some 62, some 63, some 64, some 65, some 66, some 6]) ⟨Kr, Kr, Kr⟩ (fun tab22 => ?_)
   refine DO tab22 1 (fun _ _ _ hc=>zac zd8 (hc.old (v:=Pp _ _) Z Z Z) hc.z)<|DO tab22 2 (fun _ _ _ hc=>zae (v:=.int .u32 _) zbM Z (hc.d 0 Z Z Z Z) (hc.st.cellL (Ar Q2) Z) hc.z)<|DO tab22 3 (fun _ _ _ hc=>zad (v:=Pp _ _) (hc.old Z Z Z) hc.z)<|DO tab22 4 (fun _ _ _ hc=>zaF (hc.d 2 Z Z Z Z) hc.z)<|DO tab22 5 (fun _ _ _ hc=>zac zmN (hc.d 3 Z Z Z Z) hc.z)<|DO tab22 6 (fun _ _ _ hc=>zae (v:=.int .u32 _) zbM Z (hc.d 4 Z Z Z Z) (hc.st.cellL (Ar Q0) Z) hc.z)<|RunD.fin zaB tab22 V Z (fun f23 w R26 hs24 hd25 hr27 V=>?_)
   obtain ⟨h60_,r0⟩:=hd25 0 60 rfl rfl
   obtain ⟨h61_,r1⟩:=hd25 1 61 rfl rfl
   obtain ⟨h62_,r2⟩:=hd25 2 62 rfl rfl
   obtain ⟨h63_,r3⟩:=hd25 3 63 rfl rfl
   obtain ⟨h64_,r4⟩:=hd25 4 64 rfl rfl
   obtain ⟨h65_,r5⟩:=hd25 5 65 rfl rfl
   simp only [rg6,Fc,Fn,Mc,Mn,r0,r1,r2,r3,r4,r5,Na,An,Ca] at V
   refine zaH (sl:=[(61,.int .u32 _),(65,.int .u32 _)]) ⟨h61_,h65_,trivial⟩ ?_
   clear hs24 hd25 hr27 tab22
   refine Q<|zaK (v1:=.int .u32 _) (v2:=.int .u32 _) zsS Z Z Z<|Ret.det (zqC _ _ _) V fun w V=>AI Z<|G<|zag func77 Z (TP (v:=.int .i64 _) Z) ?_
   replace V:=V.pick (.k2 .nil)
   have hX:=zgf (c:=c) (a:=a) (Y:=Y) (by omega) (by rw [hkd]; omega) (by omega) (by simpa using g19)
   have hY:=zf6 (a:=a) O
   rw [if_pos (by omega)] at hX
   rw [hX,hY.1,hY.2]
   exact ⟨ao2,cp2,ws ++ [a.n],room + 1,rfl,fun _=>⟨rfl,rfl⟩,by simp,by omega,by omega,(St.pack (L1:=[_,_]) (L2:=[]) V)⟩
  refine SR<|Q<|zai Z Z<|AB Z<|G<|zaa Z (fun g28=>?_) (fun g28=>?_)
  ·refine SR <| MC Z <| Q <| zac zd8 Z <| Q <| zae (v := .int .u32 _) zbM Z Z (V.cellL Q2 Z) <| Q <| zaK (v1 := .int .u8 _) (v2 := .int .u32 _) ent140 Z Z Z <| Ret.det (zom _ _ hcb.1 hcb.2 _) V fun w V => AI Z <| G <| zag func77 Z (TP (v := .int .i64 _) Z) ?_
   replace V:=V.pick (.k2 .nil)
   have hX:=zgf (c:=c) (a:=a) (Y:=Y) (by omega) (by rw [hkd]; omega) (by omega) (by simpa using g19)
   have hY:=zf6 (a:=a) O
   rw [if_neg (by omega),if_pos (by omega)] at hX
   rw [hX,hY.1,hY.2]
   exact ⟨ao2,cp2,ws ++ [a.n],room + 1,rfl,fun _=>⟨rfl,rfl⟩,by simp,by omega,by omega,(St.pack (L1:=[_,_]) (L2:=[]) V)⟩
  refine zaj<|zan<|SR<|AI Z<|G<|zag func77 Z (TP (v:=.int .i64 _) Z) ?_
  replace V:=V.pick (.k2 .nil)
  have hX:=zgf (c:=c) (a:=a) (Y:=Y) (by omega) (by rw [hkd]; omega) (by omega) (by simpa using g19)
  have hY:=zf6 (a:=a) O
  rw [if_neg (by omega),if_neg (by omega)] at hX
  rw [hX,hY.1,hY.2]
  exact ⟨ao2,cp2,ws ++ [a.n],room + 1,rfl,fun _=>⟨rfl,rfl⟩,by simp,by omega,by omega,(St.pack (L1:=[_,_]) (L2:=[]) V)⟩
 exfalso
 omega
end Go.SK
namespace Go.SK
open Go Go.Proofs Go.Proofs.Tryz
theorem ty134:TyF prog 134 (.struct (zbk prog 134)) 11 120 [.int .u16 0,str [],.bool false,.bool false,str [],str [],.int .i64 0,.int .u8 0,.int .u32 0,.slice none 0 0,.int .i64 0]:=zbw Kr Kr
theorem stf134:zcE prog 134 [(0,8),(8,1),(9,1),(10,1)]:=⟨zbk prog 134,Kr,fun w=>Kr⟩
theorem ent76:zaJ prog 76:=⟨f76,_,func76,Kr,rfl⟩
theorem ent77:zaJ prog 77:=⟨f77,_,func77,Kr,rfl⟩
open Go.RowKit
theorem zm9 (p:InstP) (Y:Int) (h0:0 ≤ p.op) (w:World) (hA:(Res.rargs p).holds w) (hsm:(p.args.map zaS).sum ≤ 900000000) (hla:∀ a ∈ p.args,a.s.length ≤ 100000000000):Ret prog 37 #[.agg #[.int .u16 p.op,.int .u32 p.ty,.int .u32 p.res,.slice p.ao p.args.length p.cap],.int .u32 Y] w (fun v w'=>∃ ro rc,v = .tuple #[.agg #[.int .u16 (zja Y p.L).1.1,.slice ro (zja Y p.L).1.2.length rc],.int .i64 (zja Y p.L).2] ∧ St w NoM [Res.sl ro (zja Y p.L).1.2.length rc 22 1 ((zja Y p.L).1.2.flatMap zir)] [] w'):=by
 refine zax (args:=[.agg #[.int .u16 p.op,.int .u32 p.ty,.int .u32 p.res,.slice p.ao p.args.length p.cap],.int .u32 Y]) func37 Z Z Z ?_
 have V:St w NoM [] [Res.rargs p] w:=St.init_D hA
 clear hA
 obtain ⟨fm,hfm⟩:∃ fm,za5 p.op = fm:=⟨_,rfl⟩
 obtain ⟨ob,hob⟩:∃ ob,(zbd p.op).isSome = ob:=⟨_,rfl⟩
 obtain ⟨we,hwe⟩:∃ we,zen fm.op p.args = we:=⟨_,rfl⟩
 have hf:FOk fm:=hfm ▸ zeQ p.op
 have hlen:=zhJ p.args
 refine SR<|Q<|zbn (v:=zbt _ _ _ _ _ _) V Z Z fun w b2 V=>Q<|zaw V zfA fun w b4 V=>AI Z<|NSR<|Q<|zac zfp Z<|Q<|zae (v:=.int .u16 _) zov Z Z (V.cellL Q1 Z)<|Q<|zav (v1:=.int .u16 _) zrV Z Z<|Ret.det (zm7 h0 hfm hob _) V fun w V=>Q<|zad (v:=.tuple #[zam _ _ _ _ _ _ _ _,.bool _]) Z<|Q<|Ex (zam _ _ _ _ _ _ _ _) Z Z<|Q<|Ex (.bool _) Z Z<|Q (zaw V zaA fun w b6 V=>?_)
 refine Q (SO (v:=zam _ _ _ _ _ _ _ _) V zaA Z Z .u0 fun w V=>?_)
 refine AB Z<|G<|SQ<|SR<|MB Z<|Q<|zaT Z<|G<|zaR Z (fun g1=>?_) (fun g1=>?_)
 ·refine SR <| Q (zaf zfA zo8 .nil ?_)
  refine Q (SO (v:=gHL _ _ _ _) V zfA Z Z .u1 fun w V=>?_)
  refine AI Z<|G<|zah func37 Z (zak (vs:=lHL _ _ _ _) Z zfA Z Z (zab (n:=2) (V.objL Q1) _ Z)) (TP (v:=.int .i64 _) Z) ?_
  replace V:=V.pick .nil
  have hI:=zfN (Y:=Y) (i:=p.L) (zkx (by rw [hob]; simpa using g1)) (by decide)
  rw [hI]
  exact ⟨none,0,Z,(V.pushNil 22 1).noD⟩
 have hobt:ob = true:=by simpa using g1
 have hisS:(zbd p.op).isSome = true:=hob.trans hobt
 have hfo:fm.op = p.op:=by rw [← hfm]; exact (zpc hisS).2
 have hfm2:za5 fm.op = fm:=by rw [hfo]; exact hfm
 refine zaj<|SR<|Q<|zaC (vs:=zap _ _ _ _ _ _ _ _) zaA Z Z Z (zab (n:=8) (V.objL Q0) _ Z)<|MU Z<|Q (zaf ty134 stf134 (.c (v:=zam _ _ _ _ _ _ _ _) Z (h:=(.c (v:=.int .u32 _) Z (h:=.nil)))) ?_)
 refine Q<|zbn (v:=.agg #[.int .u16 _,str _,.bool _,.bool _,str _,str _,.int .i64 _,.int .u8 _,.int .u32 _,.slice _ _ _,.int .i64 _]) V Z Z fun w b25 V=>AP Z<|G<|SQ ?_
 replace V:=V.pushNil 22 1
 replace V:=V.pick (.c .u1 (.k4 .nil))
 replace V:St _ _ (WrC 134 22 b25 fm Y none 0 [] 0 :: _) _ _:=V.pack (L1:=[_,_])
 refine RG<|MP Z<|Q<|zac zeY Z<|Q<|zae (v:=.bool _) ty4 Z Z (V.cellL Q1 Z)<|Q<|zac zey Z<|Q (zae (v:=.int .u32 _) zbM Z Z (V.cellL Q3 Z) ?_)
 replace V:=V.pick (.k4 .nil)
 refine Q (zk2 (v1:=Pp _ _) (v2:=.bool _) (v3:=.int .u32 _) (v4:=.int .i64 _) ent76 Z Z Z Z Z ((ziO b25 fm Y none 0 [] 0 fm.ty p.ty 40 De _ (V.hL _ Q0) De De De).mono fun v w hp=>?_))
 obtain ⟨ao1,cp1,ws1,rm1,rfl,hE1,hw1,hr1,hs1,hp⟩:=hp
 replace V:St _ _ (WrC 134 22 b25 fm Y ao1 cp1 ws1 rm1 :: _) _ _:=V.call1 hp
 refine AI rfl<|G<|zal [(2,Pp _ _),(4,Pp _ _),(6,Pp _ _),(8,Pp _ _),(9,.int .i64 _)] E5 fun f=>SQ<|zec (L1:=[_]) [(2,Pp _ _),(4,Pp _ _),(6,Pp _ _),(8,Pp _ _)] V E4 (fun (q:Option Addr × Nat × List Int × Int × Int)=>[(9,.int .i64 q.2.2.2.2)]) (fun (q:Option Addr × Nat × List Int × Int × Int)=>[WrC 134 22 b25 fm Y q.1 q.2.1 q.2.2.1 q.2.2.2.1]) (fun (q:Option Addr × Nat × List Int × Int × Int)=>RW Y p.L 0 q.2.2.1 q.2.2.2.1 q.2.2.2.2) (fun ⟨ao0,cp0,ws0,rm0,e0⟩ f w V hJ1=>?_) (fun cut2=>?_)
 replace V:St _ _ ([WrC 134 22 b25 fm Y ao0 cp0 ws0 rm0] ++ [_,_,_]) _ _:=V
 replace hJ1:RW Y p.L 0 ws0 rm0 e0:=hJ1
 refine zbj (sl:=[(9,.int .i64 e0)]) ⟨Z,trivial⟩ ?_
 ·refine SR <| MP Z <| Q <| zbJ <| Q <| zao (v := .func _ _ _) Z <| G <| SQ <| SR <| Q <| zac zcg Z <| Q <| zae (v := .slice _ _ _) zeo Z Z (V.cellL Q3 Z) <| Q <| zaQ (rest := []) zeo Z <| MI Z <| G <| zau ?_
  refine zba<|za7 [(2,Pp _ _),(4,Pp _ _),(6,Pp _ _),(8,Pp _ _),(10,.func _ _ _),(43,.slice _ _ _),(44,.int .i64 _)] E7 (fun (q:Nat × Option Addr × Nat × List Int × Int × Int)=>[(9,.int .i64 q.2.2.2.2.2),(45,.int .i64 (q.1:Int))]) (fun (q:Nat × Option Addr × Nat × List Int × Int × Int)=>[WrC 134 22 b25 fm Y q.2.1 q.2.2.1 q.2.2.2.1 q.2.2.2.2.1]) (fun (q:Nat × Option Addr × Nat × List Int × Int × Int)=>q.1 ≤ p.args.length ∧ RW Y p.L q.1 q.2.2.2.1 q.2.2.2.2.1 q.2.2.2.2.2) (fun (q:Nat × Option Addr × Nat × List Int × Int × Int)=>p.args.length - q.1) ((0,ao0,cp0,ws0,rm0,e0)) V ⟨Nat.zero_le _,hJ1⟩ E2 ?_
  intro ⟨k,ao,cp,ws,room,e⟩ f w V hK0 ih4
  replace V:St _ _ ([WrC 134 22 b25 fm Y ao cp ws room] ++ [_,_,_]) _ _:=V
  replace hK0:k ≤ p.args.length ∧ RW Y p.L k ws room e:=hK0
  refine zbj (sl:=[(9,.int .i64 e),(45,.int .i64 (k:Int))]) E2 ?_
  have hK:=hK0.2
  refine SR<|Q<|zaY Z Z<|G<|SQ<|zaa Z (fun g5=>?_) (fun g5=>?_)
  ·have hsum : zo7 p.L.args k ≤ (p.args.map zaS).sum := zo6
   have hlk:=hK.len
   have hrk:=hK.r1
   have hr0:=hK.r0
   have hmem:(p.args.getD k zeroA) ∈ p.args:=zci O
   have hsl:=hla _ hmem
   have hidx:p.args.getD ((k:Int)).toNat zeroA = (p.args.getD k zeroA):=rfl
   refine zaj<|SQ<|zau<|SR<|MI Z<|Q<|zbe zeo zbc (V.hD _ Q0) Z Z O O<|Q<|zaC (vs:=zcB _ _ _) zbc Z Z Z (Res.rs2_cells (m:=3) (V.hD _ Q0) _ (zbQ (g:=zgN) (d:=zeroA) zdv _ _ O))<|Q<|zaw V zbc fun w b12 V=>AI Z<|Q (SO (v:=zcp _ _ _) V zbc Z Z .u0 fun w V=>?_)
   refine NSR<|MI Z<|Q<|zai Z Z<|G<|zaa Z (fun g6=>?_) (fun g6=>?_)
   ·refine RG <| Q <| zad (v := .func _ _ _) Z <| MI Z <| Q (zaC (vs := zcB _ _ _) zbc Z Z Z (zab (n := 3) (V.objL Q0) _ Z) ?_)
    replace V:=V.pick (.c .u1 (.k4 .nil))
    obtain rfl:e = 0:=by omega
    refine Q (zgA (v1:=.int .i64 _) (v2:=zcp _ _ _) Z Z Z (zcH ent77 ((zqA b25 fm Y ao cp ws room k O (p.args.getD k zeroA) hsl _ hfm2 Z _ (V.hL _ Q0) O hr0 O).mono fun v w hp=>?_)))
    obtain ⟨ao3,cp3,ws3,rm3,rfl,hE3,hw3,hr3,hs3,hp⟩:=hp
    replace V:St _ _ (WrC 134 22 b25 fm Y ao3 cp3 ws3 rm3 :: _) _ _:=V.call1 hp
    refine AI Z<|G<|zan<|RG<|Q<|zaD Z Z Z zbS<|MI Z<|G<|zaG ?_
    replace V:=V.pick (.k5 .nil)
    have hst2:=hK.step (ws2:=ws3) (room2:=rm3) hisS (by (try dsimp only); omega) (by rw [hfm]; exact hE3) hw3 hr3 hs3
    rw [hfm] at hst2
    replace V:=V.pick (.k1 (.c .u1 (.c .u1 (.c .u1 .nil))))
    exact ih4 ((k + 1,ao3,cp3,ws3,rm3,(zbl (zaN fm (k:Int)) (p.args.getD k zeroA) Y))) _ w Od V (⟨by (try dsimp only); omega,hst2⟩) E7 ⟨rfl,(Vi Od),trivial⟩
   refine zaj<|zan<|RG<|Q<|zaD Z Z Z zbS<|MI Z<|G<|zaG ?_
   replace V:=V.pick (.c .u1 (.k4 .nil))
   have hst2:=hK.skip g6 Od
   replace V:=V.pick (.k1 (.c .u1 (.c .u1 (.c .u1 .nil))))
   exact ih4 ((k + 1,ao,cp,ws,room,e)) _ w Od V (⟨by (try dsimp only); omega,hst2⟩) E7 ⟨rfl,(Vi Od),trivial⟩
  obtain rfl:k = p.args.length:=by omega
  refine zaU (id:=0) Z<|SQ<|SR<|MI Z<|Q<|zai Z Z<|G<|zaa Z (fun g7=>?_) (fun g7=>?_)
  ·refine RG <| Q <| zaC (vs := zap _ _ _ _ _ _ _ _) zaA Z Z Z (zab (n := 8) (V.objL Q1) _ Z) <| Q <| zac zcg Z <| Q (zae (v := .slice _ _ _) zeo Z Z (V.cellL Q3 Z) ?_)
   obtain rfl:e = 0:=by omega
   have hfu:=hK.full hisS
   have hsum:=zo6 (l:=p.args) (k:=p.args.length)
   have hrk:=hK.r1
   have hr0:=hK.r0
   refine Q<|zaK (v1:=zam _ _ _ _ _ _ _ _) (v2:=.slice _ _ _) ent78 Z Z Z<|zm6 (zok fm hf p.args _ _ _ (V.hD _ Q0) O) (Vi hwe) V fun w V=>AI Z<|G<|SQ<|SQ ?_
   replace V:=V.pick (.k4 .nil)
   replace V:St _ _ (_ :: _ :: _) _ _:=V.unpack
   refine RG<|MI Z<|Q<|zai Z Z<|MB Z<|zaz (d:=65) Z (fun g8=>?_) (fun g8=>?_)
   ·refine TK (t := 65) Z (Vb (Dt g8)) <| zad (v := Pp _ _) Z <| TK (t := 65) Z (Vb (Dt g8)) <| zaF Z <| TK (t := 65) Z (Vb (Dt g8)) <| zac zd5 Z <| TK (t := 65) Z (Vb (Dt g8)) <| zae (v := .int .i64 _) ty3 Z Z (V.cellL Q0 Z) <| TK (t := 65) Z (Vb (Dt g8)) <| zbh Z Z <| Q <| zaE (u := .bool _) (Vb (Dt g8)) Z <| G <| zaa Z (fun g9 => ?_) (fun g9 => ?_)
    ·refine RG <| AI Z <| G <| SQ <| SR <| MI Z <| Q <| za8 Z Z <| G <| zal [(2, Pp _ _), (4, Pp _ _), (8, Pp _ _), (9, .int .i64 _), (73, .bool _)] E5 fun f => zaa Z (fun g10 => ?_) (fun g10 => ?_)
     ·refine SR <| Q (zaf zfA zo8 .nil ?_)
      refine MI Z<|Q (SO (v:=gHL _ _ _ _) V zfA Z Z .u3 fun w V=>?_)
      refine AI Z<|G<|zah func37 Z (zak (vs:=lHL _ _ _ _) Z zfA Z Z (zab (n:=2) (V.objL Q3) _ Z)) (TP (v:=.int .i64 _) Z) ?_
      replace V:=V.pick .nil
      have hf2:=hfu.2.2
      rw [show zen p.L.op p.L.args = we from by rw [← hwe,hfo]] at hf2
      rw [if_neg (fun h=>h (by omega))] at hf2
      have hr2:=hfu.2.1
      rw [hfm] at hr2 hf2
      rw [if_pos (by (try dsimp only at hr2 ⊢); omega)] at hf2
      have hI:=zfN (Y:=Y) (i:=p.L) (hf2) De
      rw [hI]
      exact ⟨none,0,Z,(V.pushNil 22 1).noD⟩
     exfalso
     exact g10 De
    refine zaj<|SQ<|SR<|MI Z<|Q<|za8 Z Z<|G<|zal [(2,Pp _ _),(4,Pp _ _),(8,Pp _ _),(9,.int .i64 _),(73,.bool _)] E5 fun f=>zaa Z (fun g11=>?_) (fun g11=>?_)
    ·exfalso
     omega
    refine zaj<|SQ<|RunD.start [] V (bs:=[0,1,0,4,12,28,63,127,255]) (ds:=[some 76,some 77,some 78,some 79,some 80,some 81,some 82,none,some 5]) ⟨Kr,Kr,Kr⟩ (fun tab12=>?_)
    refine DO tab12 1 (fun _ _ _ hc=>zac zfp (hc.old (v:=Pp _ _) Z Z Z) hc.z)<|DO tab12 2 (fun _ _ _ hc=>zae (v:=.int .u16 _) zov Z (hc.d 0 Z Z Z Z) (hc.st.cellL (Ar Q4) Z) hc.z)<|DO tab12 3 (fun _ _ _ hc=>zad (v:=Pp _ _) (hc.old Z Z Z) hc.z)<|DO tab12 4 (fun _ _ _ hc=>zaF (hc.d 2 Z Z Z Z) hc.z)<|DO tab12 5 (fun _ _ _ hc=>zac zfX (hc.d 3 Z Z Z Z) hc.z)<|DO tab12 6 (fun _ _ _ hc=>zae (v:=.slice _ _ _) zis Z (hc.d 4 Z Z Z Z) (hc.st.cellL (Ar Q0) Z) hc.z)<|RunD.fin zaB tab12 V Z (fun f13 w R16 hs14 hd15 hr17 V=>?_)
    obtain ⟨h76_,r0⟩:=hd15 0 76 rfl rfl
    obtain ⟨h77_,r1⟩:=hd15 1 77 rfl rfl
    obtain ⟨h78_,r2⟩:=hd15 2 78 rfl rfl
    obtain ⟨h79_,r3⟩:=hd15 3 79 rfl rfl
    obtain ⟨h80_,r4⟩:=hd15 4 80 rfl rfl
    obtain ⟨h81_,r5⟩:=hd15 5 81 rfl rfl
    simp only [rg6,Fc,Fn,Mc,Mn,r0,r1,r2,r3,r4,r5,Na,An,Ca] at V
    refine zaH (sl:=[(4,Pp _ _),(77,.int .u16 _),(81,.slice _ _ _)]) ⟨(hs14 4 Z).trans Z,h77_,h81_,trivial⟩ ?_
    clear hs14 hd15 hr17 tab12
    refine Q (zaf zfA zo8 (.c (v:=.int .u16 _) Z (h:=(.c (v:=.slice _ _ _) Z (h:=.nil)))) ?_)
    refine Q (SO (v:=gHL _ _ _ _) V zfA Z Z .u3 fun w V=>?_)
    refine AI Z<|G<|zah func37 Z (zak (vs:=lHL _ _ _ _) Z zfA Z Z (zab (n:=2) (V.objL Q3) _ Z)) (TP (v:=.int .i64 _) Z) ?_
    replace V:=V.pick (.c .u1 .nil)
    have hf2:=hfu.2.2
    rw [show zen p.L.op p.L.args = we from by rw [← hwe,hfo]] at hf2
    rw [if_neg (fun h=>h (by omega))] at hf2
    have hr2:=hfu.2.1
    rw [hfm] at hr2 hf2
    rw [if_neg (by (try dsimp only at hr2 ⊢); omega)] at hf2
    have hI:=zpd (Y:=Y) (i:=p.L) hf2
    rw [hI,← hfu.1]
    exact ⟨ao,cp,Z,V.noD⟩
   refine OM (t:=65) Z (Vb (Df g8)) Z<|OM (t:=65) Z (Vb (Df g8)) Z<|OM (t:=65) Z (Vb (Df g8)) Z<|OM (t:=65) Z (Vb (Df g8)) Z<|OM (t:=65) Z (Vb (Df g8)) Z<|Q<|zay (u:=.bool _) (Vb (Df g8)) Z<|G<|zas (Vb (Z:false = _))<|zaj<|SQ<|SR<|MI Z<|Q<|za8 Z Z<|G ?_
   refine zaa Z (fun g18=>?_) (fun g18=>?_)
   ·refine SR <| Q (zaf zfA zo8 .nil ?_)
    refine MI Z<|Q (SO (v:=gHL _ _ _ _) V zfA Z Z .u3 fun w V=>?_)
    refine AI Z<|G<|zah func37 Z (zak (vs:=lHL _ _ _ _) Z zfA Z Z (zab (n:=2) (V.objL Q3) _ Z)) (TP (v:=.int .i64 _) Z) ?_
    replace V:=V.pick .nil
    have hf2:=hfu.2.2
    rw [show zen p.L.op p.L.args = we from by rw [← hwe,hfo]] at hf2
    rw [if_pos g8] at hf2
    have hI:=zfN (Y:=Y) (i:=p.L) (hf2) g8
    rw [hI]
    exact ⟨none,0,Z,(V.pushNil 22 1).noD⟩
   exfalso
   omega
  refine zaj<|SQ<|SQ ?_
  replace V:=V.pick (.k4 .nil)
  replace V:St _ _ (_ :: _ :: _) _ _:=V.unpack
  refine RG<|MI Z<|Q<|zai Z Z<|MB Z<|zaz (d:=65) Z (fun g19=>?_) (fun g19=>?_)
  ·exfalso
   omega
  refine OM (t:=65) Z (Vb (Df g19)) Z<|OM (t:=65) Z (Vb (Df g19)) Z<|OM (t:=65) Z (Vb (Df g19)) Z<|OM (t:=65) Z (Vb (Df g19)) Z<|OM (t:=65) Z (Vb (Df g19)) Z<|Q<|zay (u:=.bool _) (Vb (Df g19)) Z<|G<|zas (Vb (Z:false = _))<|zaj<|SQ<|SR<|MI Z<|Q<|za8 Z Z<|G ?_
  refine zaa Z (fun g20=>?_) (fun g20=>?_)
  ·refine SR <| Q (zaf zfA zo8 .nil ?_)
   refine MI Z<|Q (SO (v:=gHL _ _ _ _) V zfA Z Z .u3 fun w V=>?_)
   refine AI Z<|G<|zah func37 Z (zak (vs:=lHL _ _ _ _) Z zfA Z Z (zab (n:=2) (V.objL Q3) _ Z)) (TP (v:=.int .i64 _) Z) ?_
   replace V:=V.pick .nil
   have hI:=zfN (Y:=Y) (i:=p.L) (hK.err g7) g7
   rw [hI]
   exact ⟨none,0,Z,(V.pushNil 22 1).noD⟩
  exfalso
  omega
 ·refine SR <| MI Z <| Q <| zai Z Z <| G <| zaa Z (fun g21 => ?_) (fun g21 => ?_)
  ·refine RG <| MP Z <| Q <| zac zcY Z <| Q <| zae (v := .bool _) ty4 Z Z (V.cellL Q1 Z) <| Q <| zac zgt Z <| Q (zae (v := .int .u32 _) zbM Z Z (V.cellL Q3 Z) ?_)
   replace V:=V.pick (.k4 .nil)
   have h10:idH fm.ty p.ty Y 40 = 0:=by simpa using g21
   have hx1:=hE1 h10
   have hw1b:ws1.length ≤ 1:=hw1
   refine Q (zk2 (v1:=Pp _ _) (v2:=.bool _) (v3:=.int .u32 _) (v4:=.int .i64 _) ent76 Z Z Z Z Z ((ziO b25 fm Y ao1 cp1 ws1 rm1 fm.res p.res 41 De _ (V.hL _ Q0) O hr1 O).mono fun v w hp=>?_))
   obtain ⟨ao2,cp2,ws2,rm2,rfl,hE2,hw2,hr2,hs2,hp⟩:=hp
   replace V:St _ _ (WrC 134 22 b25 fm Y ao2 cp2 ws2 rm2 :: _) _ _:=V.call1 hp
   refine AI Z<|G ?_
   replace V:=V.pick (.k4 .nil)
   exact cut2 ((ao2,cp2,ws2,rm2,idH fm.res p.res Y 41)) _ w (V) ((by have hq:=RW.start (i:=p.L) (Y:=Y) (ws2:=ws2) (room2:=rm2) hisS (by rw [hfm]; exact h10) (fun he=>by rw [hfm] at he ⊢; have h2:=hE2 he; rw [hx1.1,hx1.2] at h2; exact h2) (by omega) hr2 (by omega); rw [hfm] at hq; exact hq)) E4 ⟨rfl,trivial⟩
  refine zaj ?_
  replace V:=V.pick (.k4 .nil)
  have hq:=RW.ty (i:=p.L) (Y:=Y) (ws:=ws1) (room:=rm1) hisS (by rw [hfm]; exact g21) hw1 hr1 (by omega)
  rw [hfm] at hq
  exact cut2 ((ao1,cp1,ws1,rm1,idH fm.ty p.ty Y 40)) _ w (V) (hq) E4 ⟨Z,trivial⟩
end Go.SK
namespace Go.SK
open Go Go.Proofs Go.Proofs.Tryz
theorem ent94:zaJ prog 94:=⟨f94,_,func94,Kr,rfl⟩
open Go.RowKit
theorem zkU {p:InstP} {Y rop re:Int} {rws:List Int} (hR:zja Y p.L = ((rop,rws),re)) (h0:0 ≤ p.op) (w:World) (hA:(Res.rargs p).holds w) (hsm:(p.args.map zaS).sum ≤ 900000000) (hla:∀ a ∈ p.args,a.s.length ≤ 100000000000):Ret prog 37 #[.agg #[.int .u16 p.op,.int .u32 p.ty,.int .u32 p.res,.slice p.ao p.args.length p.cap],.int .u32 Y] w (fun v w'=>∃ ro rc,v = .tuple #[.agg #[.int .u16 rop,.slice ro rws.length rc],.int .i64 re] ∧ St w NoM [Res.sl ro rws.length rc 22 1 (rws.flatMap zir)] [] w'):=by
 have h:=zm9 p Y h0 w hA hsm hla
 rw [hR] at h; exact h
theorem zkT (w:World):Ret prog 94 #[.slice none 0 0] w (fun v w'=>v = .tuple #[.int .i64 5,.int .i64 0] ∧ St w NoM [] [] w'):=zqz [] none 0 w ⟨rfl,.inl rfl⟩ De (fun _ h=>by cases h)
theorem zqB (gn bd:Int) (l:List InstP) (ao:Option Addr) (cp:Nat) (w:World) (hA:(Res.rmod ao l).holds w) (hl:l.length ≤ 3000000000000) (hop:∀ i ∈ l,0 ≤ i.op) (hsm:∀ i ∈ l,(i.args.map zaS).sum ≤ 900000000) (hla:∀ i ∈ l,∀ a ∈ i.args,a.s.length ≤ 100000000000):Ret prog 46 #[.agg #[.int .u32 gn,.int .u32 bd,.slice ao l.length cp]] w (fun v w'=>∃ ro rc done,v = .tuple #[.slice ro done.length rc,.agg #[.int .i64 (zbG bd (l.map InstP.L)).1,.int .i64 (zbG bd (l.map InstP.L)).2]] ∧ done.map RawP.L = (if (zbG bd (l.map InstP.L)).1 = 0 then zi9 bd (l.map InstP.L) else []) ∧ St w NoM [Res.oraws 62 22 ro rc done] [] w'):=by
 refine zax (args:=[.agg #[.int .u32 gn,.int .u32 bd,.slice ao l.length cp]]) func46 Z Z Z ?_
 have V:St w NoM [] [Res.rmod ao l] w:=St.init_D hA
 clear hA
 refine SR<|Q<|zbn (v:=zex _ _ _ _ _) V Z Z fun w b1 V=>AL Z<|Q<|zaw V zbr fun w b3 V=>G<|SQ<|SR<|Q<|zac zcU Z<|Q<|zae (v:=.int .u32 _) zbM Z Z (V.cellL Q1 Z)<|Q<|zai Z Z<|MB Z<|zaz (d:=14) Z (fun g1=>?_) (fun g1=>?_)
 ·refine OM (t := 14) Z (Vb (Dt g1)) Z <| OM (t := 14) Z (Vb (Dt g1)) Z <| OM (t := 14) Z (Vb (Dt g1)) Z <| Q <| zaE (u := .bool _) (Vb (Dt g1)) Z <| G <| zat (Vb (Z : true = _)) <| SR <| Q (zaf zbr zc7 (.c (v := .int .i64 _) Z (h := .nil)) ?_)
  refine AL Z<|Q (SO (v:=gII _ _) V zbr Z Z .u0 fun w V=>?_)
  refine G<|zah func46 Z (TP (v:=.slice _ _ _) Z) (zak (vs:=lII _ _) Z zbr Z Z (zab (n:=2) (V.objL Q0) _ Z)) ?_
  replace V:=V.pick .nil
  have hS:=zgF (Y:=bd) (l:=(l.map InstP.L)) O
  have hne:(24:Int) ≠ 0:=by decide
  replace V:=St.starCons ((V.starNil).pushNil 62 2)
  refine ⟨none,0,[],?_,?_,V.noD⟩
  ·rw [hS] <;> rfl
  ·rw [hS,if_neg hne] <;> rfl
 refine TK (t:=14) Z (Vb (Df g1))<|zac zcU Z<|TK (t:=14) Z (Vb (Df g1))<|zae (v:=.int .u32 _) zbM Z Z (V.cellL Q1 Z)<|TK (t:=14) Z (Vb (Df g1))<|zbW Z Z<|Q<|zay (u:=.bool _) (Vb (Df g1)) Z<|G<|zaa Z (fun g2=>?_) (fun g2=>?_)
 ·refine SR <| Q (zaf zbr zc7 (.c (v := .int .i64 _) Z (h := .nil)) ?_)
  refine AL Z<|Q (SO (v:=gII _ _) V zbr Z Z .u0 fun w V=>?_)
  refine G<|zah func46 Z (TP (v:=.slice _ _ _) Z) (zak (vs:=lII _ _) Z zbr Z Z (zab (n:=2) (V.objL Q0) _ Z)) ?_
  replace V:=V.pick .nil
  have hS:=zgF (Y:=bd) (l:=(l.map InstP.L)) O
  have hne:(24:Int) ≠ 0:=by decide
  replace V:=St.starCons ((V.starNil).pushNil 62 2)
  refine ⟨none,0,[],?_,?_,V.noD⟩
  ·rw [hS] <;> rfl
  ·rw [hS,if_neg hne] <;> rfl
 refine zaj<|SR<|Q<|zav (v1:=.slice _ _ _) ent94 Z Z<|Ret.det (zkT _) V fun w V=>Q<|zad (v:=.tuple #[.int .i64 _,.int .i64 _]) Z<|Q<|Ex (.int .i64 _) Z Z<|Q<|Ex (.int .i64 _) Z Z<|AI Z<|AI Z<|NSR<|MI Z<|Q<|zbV Z Z Z zbS<|AI Z ?_
 refine G<|zal [(1,Pp _ _),(3,Pp _ _),(4,.int .i64 _)] E3 fun f=>SR<|AL Z<|G<|SQ<|SQ ?_
 replace V:=V.pushNil 62 2
 replace V:=V.starNil
 refine RG<|Q<|zac zbR Z<|Q<|zae (v:=.slice _ _ _) zdD Z Z (V.cellL Q3 Z)<|Q<|zaQ (rest:=[]) zdD Z<|MI Z<|G<|zau<|zba<|za7 [(1,Pp _ _),(3,Pp _ _),(27,.slice _ _ _),(28,.int .i64 _)] E4 (fun (q:Nat × Nat × Option Addr × Nat × List RawP)=>[(4,.int .i64 (1048576 - (q.2.1:Int))),(6,.slice q.2.2.1 q.2.2.2.2.length q.2.2.2.1),(29,.int .i64 (q.1:Int))]) (fun (q:Nat × Nat × Option Addr × Nat × List RawP)=>[Res.star (q.2.2.2.2.map (Res.oword 22)),Res.sl q.2.2.1 q.2.2.2.2.length q.2.2.2.1 62 2 (q.2.2.2.2.flatMap zpe)]) (fun (q:Nat × Nat × Option Addr × Nat × List RawP)=>q.1 ≤ l.length ∧ zbY bd 5 0 (l.map InstP.L) = zbY bd q.2.1 q.1 ((l.map InstP.L).drop q.1) ∧ q.2.1 ≤ 1048576 ∧ q.2.2.2.2.map RawP.L = zi9 bd ((l.map InstP.L).take q.1)) (fun (q:Nat × Nat × Option Addr × Nat × List RawP)=>l.length - q.1) ((0,5,none,0,[])) V ⟨Nat.zero_le _,Z,by decide,Z⟩ E3 ?_
 intro ⟨i,n,aq,cq,done⟩ f w V hJ ih3
 replace V:St _ _ ([Res.star (done.map (Res.oword 22)),Res.sl aq done.length cq 62 2 (done.flatMap zpe)] ++ [_,_]) _ _:=V
 replace hJ:i ≤ l.length ∧ zbY bd 5 0 (l.map InstP.L) = zbY bd n i ((l.map InstP.L).drop i) ∧ n ≤ 1048576 ∧ done.map RawP.L = zi9 bd ((l.map InstP.L).take i):=hJ
 refine zbj (sl:=[(4,.int .i64 (1048576 - (n:Int))),(6,.slice aq done.length cq),(29,.int .i64 (i:Int))]) E3<|SR<|Q<|zaY Z Z<|G<|SQ<|zaa Z (fun g4=>?_) (fun g4=>?_)
 ·have hmem : (l.getD i zeroI) ∈ l := zci O
  have hidx:l.getD ((i:Int)).toNat zeroI = (l.getD i zeroI):=rfl
  obtain ⟨⟨⟨rop,rws⟩,re⟩,hR⟩:∃ q,zja bd (l.getD i zeroI).L = q:=⟨_,rfl⟩
  have hrl:=zrq hR
  have hsh:=zlp (Y:=bd) (n:=n) (k:=i) (l:=(l.map InstP.L)) (j:=i) (by rw [List.length_map]; omega)
  rw [zj8 (by omega),← hrl.1] at hsh
  have hdl:done.length ≤ i:=by have:=congrArg List.length hJ.2.2.2; simp only [zi9,List.length_map,List.length_take] at this; omega
  have hrn:rws.length < 65535:=by
   by_cases he:re = 0
   ·exact (hrl.2.1 he).2.1
   ·rw [show rws = [] from congrArg Prod.snd (hrl.2.2 he)]; decide
  refine zaj<|SQ<|zau<|SR<|MI Z<|Q<|zbe zdD zbB (Res.rmod_insts (V.hD _ Q0)) Z Z O O<|Q<|zaC (vs:=zbA _ _ _ _ _ _) zbB Z Z Z (Res.rs2_cells (m:=4) (Res.rmod_insts (V.hD _ Q0)) _ (zbQ (g:=zdP) (d:=zeroI) zcP _ _ O))<|Q<|zaw V zbB fun w b8 V=>AI Z<|Q (SO (v:=zbt _ _ _ _ _ _) V zbB Z Z .u0 fun w V=>?_)
  refine NSR<|Q<|zaC (vs:=zbA _ _ _ _ _ _) zbB Z Z Z (zab (n:=4) (V.objL Q0) _ Z)<|Q<|zac zcU Z<|Q<|zae (v:=.int .u32 _) zbM Z Z (V.cellL Q4 Z)<|Q (zaK (v1:=zbt _ _ _ _ _ _) (v2:=.int .u32 _) ztN Z Z Z ((zkU hR (hop _ hmem) _ (Res.rmod_argsI (V.hD _ Q0) (i:=i) O) (hsm _ hmem) (hla _ hmem)).mono fun v w hp=>?_))
  obtain ⟨ro,rc,rfl,hp⟩:=hp
  replace V:St _ _ (_ :: _) _ _:=V.call0 hp
  refine Q<|zad (v:=.tuple #[gHL _ _ _ _,.int .i64 _]) Z<|Q<|Ex (gHL _ _ _ _) Z Z<|Q<|Ex (.int .i64 _) Z Z<|Q<|zaw V zfA fun w b9 V=>Q (SO (v:=gHL _ _ _ _) V zfA Z Z .u0 fun w V=>?_)
  refine AI Z<|NSR<|MI Z<|Q<|zac zjk Z<|Q<|zae (v:=.slice _ _ _) zis Z Z (V.cellL Q0 Z)<|Q<|zaQ (rest:=[]) zis Z<|Q<|zaD Z Z Z zbS<|Q<|zbV Z Z Z zbS<|AI Z<|G<|zal [(1,Pp _ _),(3,Pp _ _),(4,.int .i64 _),(6,.slice _ _ _),(7,.int .i64 _),(9,Pp _ _),(10,.int .i64 _),(27,.slice _ _ _),(28,.int .i64 _),(29,.int .i64 _)] E10 fun f=>SQ<|zau ?_
  refine SR<|MI Z<|Q<|za8 Z Z<|AB Z<|G<|zaa Z (fun g5=>?_) (fun g5=>?_)
  ·refine SR <| MI Z <| MI Z <| Q (zaf zbr zc7 (.c (v := .int .i64 _) Z (h := (.c (v := .int .i64 _) Z (h := .nil)))) ?_)
   refine AL Z<|Q (SO (v:=gII _ _) V zbr Z Z .u5 fun w V=>?_)
   refine G<|zah func46 Z (TP (v:=.slice _ _ _) Z) (zak (vs:=lII _ _) Z zbr Z Z (zab (n:=2) (V.objL Q5) _ Z)) ?_
   replace V:=V.pick .nil
   rw [if_pos g5] at hsh
   have hS:=zho (Y:=bd) (l:=(l.map InstP.L)) O O
   rw [hJ.2.1,hsh] at hS
   have hne:=g5
   replace V:=St.starCons ((V.starNil).pushNil 62 2)
   refine ⟨none,0,[],?_,?_,V.noD⟩
   ·rw [hS] <;> rfl
   ·rw [hS,if_neg hne] <;> rfl
  refine SR<|MI Z<|Q<|zaY Z Z<|AB Z<|G<|zaa Z (fun g6=>?_) (fun g6=>?_)
  ·refine SR <| MI Z <| Q (zaf zbr zc7 (.c (v := .int .i64 _) Z (h := (.c (v := .int .i64 _) Z (h := .nil)))) ?_)
   refine AL Z<|Q (SO (v:=gII _ _) V zbr Z Z .u5 fun w V=>?_)
   refine G<|zah func46 Z (TP (v:=.slice _ _ _) Z) (zak (vs:=lII _ _) Z zbr Z Z (zab (n:=2) (V.objL Q5) _ Z)) ?_
   replace V:=V.pick .nil
   have hr0:re = 0:=Nn g5
   have hrm:=(hrl.2.1 hr0).1
   dsimp only at hrm hsh
   rw [if_neg g5,if_pos (by omega)] at hsh
   have hS:=zho (Y:=bd) (l:=(l.map InstP.L)) O O
   rw [hJ.2.1,hsh] at hS
   have hne:(4:Int) ≠ 0:=by decide
   replace V:=St.starCons ((V.starNil).pushNil 62 2)
   refine ⟨none,0,[],?_,?_,V.noD⟩
   ·rw [hS] <;> rfl
   ·rw [hS,if_neg hne] <;> rfl
  refine zaj<|zan<|RG<|ML Z<|Q<|zaC (vs:=lHL _ _ _ _) zfA Z Z Z (zab (n:=2) (V.objL Q0) _ Z)<|Q (zaI (z0:=[.int .u16 0,.slice none 0 0]) V ty85 zfA Z Z Kr (.c (v:=gHL _ _ _ _) Z (h:=.nil)) fun w b60 V=>?_)
  refine Q (zaO (news:=(lHL _ _ _ _)) V ty85 zfA Z Z .u5 Z Z Z (zab (n:=2) (V.objL Q0) _ Z) Z Z O fun w ao7 cp8 V=>?_)
  replace V:=V.drop .u1
  refine AL Z<|G<|zan<|RG<|Q<|zaD Z Z Z zbS<|MI Z<|G<|zaG ?_
  replace V:=V.pick (.c .u2 (.c .u3 (.k5 .nil)))
  replace V:=V.starSnoc
  have e1:done.length + 1 = (done ++ [(⟨rop,ro,rc,rws⟩:RawP)]).length:=by simp
  have e2:done.flatMap zpe ++ [.int .u16 rop,.slice ro rws.length rc] = (done ++ [(⟨rop,ro,rc,rws⟩:RawP)]).flatMap zpe:=by simp
  have e3:done.map (Res.oword 22) ++ [Res.sl ro rws.length rc 22 1 (rws.flatMap zir)] = (done ++ [(⟨rop,ro,rc,rws⟩:RawP)]).map (Res.oword 22):=by simp
  rw [e1,e2,e3] at V
  have hr0:re = 0:=Nn g5
  have hrm:=(hrl.2.1 hr0).1
  dsimp only at hrm hsh
  rw [if_neg g5,if_neg (by omega)] at hsh
  have hI2:(done ++ [(⟨rop,ro,rc,rws⟩:RawP)]).map RawP.L = zi9 bd ((l.map InstP.L).take (i + 1)):=by rw [List.map_append,hJ.2.2.2,znw (by omega),hR]; rfl
  replace V:=V.pick (.k2 (.c .u2 (.c .u2 .nil)))
  exact ih3 ((i + 1,n + zbD (za5 (l.getD i zeroI).op) (l.getD i zeroI).args,ao7,cp8,done ++ [(⟨rop,ro,rc,rws⟩:RawP)])) _ w (by (try dsimp only); omega) V (⟨by (try dsimp only); omega,hJ.2.1.trans hsh,by (try dsimp only); omega,hI2⟩) E4 ⟨(Vi (by (try dsimp only); omega)),(by (try dsimp only); rw [← e1]; rfl),(Vi (by (try dsimp only); omega)),trivial⟩
 obtain rfl:i = l.length:=by omega
 refine zaU (id:=0) Z<|SR<|ML Z<|Q (zaf zbr zc7 .nil ?_)
 refine AL Z<|Q (SO (v:=gII _ _) V zbr Z Z .u2 fun w V=>?_)
 refine G<|zah func46 Z (TP (v:=.slice _ _ _) Z) (zak (vs:=lII _ _) Z zbr Z Z (zab (n:=2) (V.objL Q2) _ Z)) ?_
 replace V:=V.pick (.c .u1 (.k1 .nil))
 have hll:l.length = (l.map InstP.L).length:=by rw [List.length_map]
 have hS:=zho (Y:=bd) (l:=(l.map InstP.L)) O O
 rw [hJ.2.1,hll,znq] at hS
 refine ⟨aq,cq,done,?_,?_,(St.starCons V).noD⟩
 ·rw [hS]
 ·rw [hS,if_pos rfl,hJ.2.2.2,hll,List.take_length]
end Go.SK
namespace Go.SK
open Go Go.Proofs Go.Proofs.Tryz
theorem ent46:zaJ prog 46:=⟨f46,_,func46,Kr,rfl⟩
open Go.RowKit
theorem zol (gn bd:Int) (l:List InstP) (ao:Option Addr) (cp:Nat) {se sa:Int} (hS:zbG bd (l.map InstP.L) = (se,sa)) (w:World) (hA:(Res.rmod ao l).holds w) (hl:l.length ≤ 3000000000000) (hop:∀ i ∈ l,0 ≤ i.op) (hsm:∀ i ∈ l,(i.args.map zaS).sum ≤ 900000000) (hla:∀ i ∈ l,∀ a ∈ i.args,a.s.length ≤ 100000000000):Ret prog 46 #[.agg #[.int .u32 gn,.int .u32 bd,.slice ao l.length cp]] w (fun v w'=>∃ ro rc done,v = .tuple #[.slice ro done.length rc,.agg #[.int .i64 se,.int .i64 sa]] ∧ done.map RawP.L = (if se = 0 then zi9 bd (l.map InstP.L) else []) ∧ St w NoM [Res.oraws 62 22 ro rc done] [] w'):=by
 have h:=zqB gn bd l ao cp w hA hl hop hsm hla
 rw [hS] at h; exact h
theorem zon (gn bd:Int) (l:List InstP) (ao:Option Addr) (cp:Nat) (w:World) (hA:(Res.rmod ao l).holds w) (hl:l.length ≤ 3000000000000) (hop:∀ i ∈ l,0 ≤ i.op) (hsm:∀ i ∈ l,(i.args.map zaS).sum ≤ 900000000) (hla:∀ i ∈ l,∀ a ∈ i.args,a.s.length ≤ 100000000000):Ret prog 19 #[.agg #[.int .u32 gn,.int .u32 bd,.slice ao l.length cp]] w (fun v w'=>v = .agg #[.int .i64 (zbG bd (l.map InstP.L)).1,.int .i64 (zbG bd (l.map InstP.L)).2] ∧ St w NoM [] [] w'):=by
 refine zax (args:=[.agg #[.int .u32 gn,.int .u32 bd,.slice ao l.length cp]]) func19 Z Z Z ?_
 have V:St w NoM [] [Res.rmod ao l] w:=St.init_D hA
 clear hA
 obtain ⟨se,sa,hS⟩:∃ se sa,zbG bd (l.map InstP.L) = (se,sa):=⟨_,_,rfl⟩
 refine SR<|Q<|zbn (v:=zex _ _ _ _ _) V Z Z fun w b1 V=>Q<|zaw V zbr fun w b2 V=>NSR<|Q<|zaC (vs:=zmF _ _ _ _ _) zem Z Z Z (zab (n:=3) (V.objL Q1) _ Z)<|Q (zav (v1:=zex _ _ _ _ _) ent46 Z Z ((zol _ _ _ _ _ hS _ (V.hD _ Q0) hl hop hsm hla).mono fun v w hp=>?_))
 obtain ⟨aR,cR,done,rfl,hd,hp⟩:=hp
 replace V:St _ _ (_ :: _) _ _:=V.call0 hp
 refine Q<|zad (v:=.tuple #[.slice _ _ _,gII _ _]) Z<|Q<|Ex (.slice _ _ _) Z Z<|Q<|Ex (gII _ _) Z Z<|Q<|zaw V zbr fun w b4 V=>AL Z<|Q (SO (v:=gII _ _) V zbr Z Z .u0 fun w V=>?_)
 refine NSR<|Q<|zaC (vs:=lII _ _) zbr Z Z Z (zab (n:=2) (V.objL Q0) _ Z)<|Q (SO (v:=gII _ _) V zbr Z Z .u2 fun w V=>?_)
 refine G<|zag func19 Z (zak (vs:=lII _ _) Z zbr Z Z (zab (n:=2) (V.objL Q2) _ Z)) ?_
 rw [hS]
 exact ⟨Z,V.pure⟩
theorem zl5 (gn bd:Int) (l:List InstP) (ao:Option Addr) (cp:Nat) {se sa:Int} (hS:zbG bd (l.map InstP.L) = (se,sa)) (w:World) (hA:(Res.rmod ao l).holds w) (hl:l.length ≤ 3000000000000) (hop:∀ i ∈ l,0 ≤ i.op) (hsm:∀ i ∈ l,(i.args.map zaS).sum ≤ 900000000) (hla:∀ i ∈ l,∀ a ∈ i.args,a.s.length ≤ 100000000000):Ret prog 19 #[.agg #[.int .u32 gn,.int .u32 bd,.slice ao l.length cp]] w (fun v w'=>v = .agg #[.int .i64 se,.int .i64 sa] ∧ St w NoM [] [] w'):=by
 have h:=zon gn bd l ao cp w hA hl hop hsm hla
 rw [hS] at h; exact h
theorem zjA (p:InstP) (w:World) (hA:(Res.rargs p).holds w) (hl:p.args.length ≤ 5864062014806):Ret prog 32 #[.agg #[.int .u16 p.op,.int .u32 p.ty,.int .u32 p.res,.slice p.ao p.args.length p.cap]] w (fun v w'=>∃ bC,v = .agg #[.int .u16 p.op,.int .u32 p.ty,.int .u32 p.res,.slice (some ⟨bC,0,none⟩) p.args.length p.args.length] ∧ St w NoM [Res.sl (some ⟨bC,0,none⟩) p.args.length p.args.length 110 3 (p.args.flatMap zgN)] [] w'):=by
 refine zax (args:=[.agg #[.int .u16 p.op,.int .u32 p.ty,.int .u32 p.res,.slice p.ao p.args.length p.cap]]) func32 Z Z Z ?_
 have V:St w NoM [] [Res.rargs p] w:=St.init_D hA
 clear hA
 refine SR<|Q<|zbn (v:=zbt _ _ _ _ _ _) V Z Z fun w b1 V=>Q<|zaw V zbB fun w b2 V=>NSR<|Q<|zac zcg Z<|Q<|zae (v:=.slice _ _ _) zeo Z Z (V.cellL Q1 Z)<|Q<|zaQ (rest:=[]) zeo Z<|Q (zfu V zeo zbc Z Z Z De O O fun w bC V=>?_)
 rw [zju (g:=zgN) (d:=zeroA) (ez:=[.int .u8 0,.int .u32 0,str []]) rfl p.args] at V
 refine AL Z<|G<|SQ<|SR<|AI Z<|G<|zau<|zba<|za7 [(1,Pp _ _),(2,Pp _ _),(3,.slice _ _ _)] E3 (fun (i:Nat)=>[(4,.int .i64 (i:Int))]) (fun (i:Nat)=>[Res.sl (some ⟨bC,0,none⟩) p.args.length p.args.length 110 3 ((cpG zeroA p.args p.args.length i).flatMap zgN)]) (fun (i:Nat)=>i ≤ p.args.length) (fun (i:Nat)=>p.args.length - i) (0) V (Nat.zero_le _) ⟨Z,trivial⟩ ?_
 intro i f w V hJ ih1
 refine SQ<|SR<|MI Z<|Q<|zac zcg Z<|Q<|zae (v:=.slice _ _ _) zeo Z Z (V.cellL Q2 Z)<|Q<|zaQ (rest:=[]) zeo Z<|Q<|zaY Z Z<|G<|zaa Z (fun g2=>?_) (fun g2=>?_)
 ·refine zaj <| SQ <| zau <| RG <| ML rfl <| MI rfl <| Q <| zac zcg rfl <| Q <| zae (v := .slice _ _ _) zeo rfl rfl (V.cellL Q2 rfl) <| MI rfl <| Q <| zbe zeo zbc (V.hD _ Q0) rfl rfl (by omega) (by omega) <| Q <| zaC (vs := zcB _ _ _) zbc rfl rfl rfl (Res.rs2_cells (m := 3) (V.hD _ Q0) _ (zbQ (g := zgN) (d := zeroA) zdv _ _ (by omega))) <| Q <| zbb zeo zbc rfl rfl (by omega) (by omega) <| Q <| zft (v := zcp _ _ _) V zbc rfl rfl rfl rfl rfl .u0 (by simp only [List.length_cons, List.length_nil]; omega) fun w V => G <| zan ?_
  refine RG<|MI Z<|Q<|zaD Z Z Z zbS<|AI Z<|G<|zaG ?_
  exact ih1 (i + 1) _ w (by omega) (by (try dsimp only); rw [← zr9 (g:=zgN) (es:=3) zdv (i:=i) (x:=zgN (p.args.getD i zeroA)) (by omega) rfl]; exact V) (by omega) E3 ⟨(Vi (by omega)),trivial⟩
 obtain rfl:i = p.args.length:=by omega
 rw [ztU] at V
 refine zaU (id:=0) Z<|SR<|ML Z<|Q<|zac zcg Z<|Q (SO (v:=.slice _ _ _) V zeo Z Z .u2 fun w V=>?_)
 refine NSR<|Q<|zaC (vs:=zbA _ _ _ _ _ _) zbB Z Z Z (zab (n:=4) (V.objL Q2) _ Z)<|Q (SO (v:=zbt _ _ _ _ _ _) V zbB Z Z .u1 fun w V=>?_)
 refine G<|zag func32 Z (zak (vs:=zbA _ _ _ _ _ _) Z zbB Z Z (zab (n:=4) (V.objL Q1) _ Z)) ?_
 replace V:=V.pick (.k1 .nil)
 exact ⟨bC,Z,V.noD⟩
theorem zeE (ga ba:Int) (l:List InstP) (ao:Option Addr) (cp:Nat) (w:World) (hA:(Res.rmod ao l).holds w) (hl:l.length ≤ 3518437208884) (hla:∀ i ∈ l,i.args.length ≤ 5864062014806):Ret prog 20 #[.agg #[.int .u32 ga,.int .u32 ba,.slice ao l.length cp]] w (fun v w'=>∃ bC done,v = .agg #[.int .u32 ga,.int .u32 ba,.slice (some ⟨bC,0,none⟩) done.length done.length] ∧ done.map InstP.L = l.map InstP.L ∧ St w NoM [Res.omod 44 110 (some ⟨bC,0,none⟩) done.length done] [] w'):=by
 refine zax (args:=[.agg #[.int .u32 ga,.int .u32 ba,.slice ao l.length cp]]) func20 Z Z Z ?_
 have V:St w NoM [] [Res.rmod ao l] w:=St.init_D hA
 clear hA
 refine SR<|Q<|zbn (v:=zex _ _ _ _ _) V Z Z fun w b1 V=>Q<|zaw V zem fun w b2 V=>NSR<|Q<|zac zbR Z<|Q<|zae (v:=.slice _ _ _) zdD Z Z (V.cellL Q1 Z)<|Q<|zaQ (rest:=[]) zdD Z<|Q (zfu V zdD zbB Z Z Z De O O fun w bC V=>?_)
 rw [zoA (g:=zdP) (d:=zeroI) (ez:=[.int .u16 0,.int .u32 0,.int .u32 0,.slice none 0 0]) rfl] at V
 refine AL Z<|G<|SQ<|SQ ?_
 replace V:=V.starNil
 refine RG<|AI Z<|G<|zau<|zba<|za7 [(1,Pp _ _),(2,Pp _ _),(3,.slice _ _ _)] E3 (fun (q:Nat × List InstP)=>[(4,.int .i64 (q.1:Int))]) (fun (q:Nat × List InstP)=>[Res.star (q.2.map (Res.oargs 110)),Res.sl (some ⟨bC,0,none⟩) l.length l.length 44 4 ((q.2 ++ List.replicate (l.length - q.1) zeroI).flatMap zdP)]) (fun (q:Nat × List InstP)=>q.1 ≤ l.length ∧ q.2.length = q.1 ∧ q.2.map InstP.L = (l.take q.1).map InstP.L) (fun (q:Nat × List InstP)=>l.length - q.1) ((0,[])) V ⟨Nat.zero_le _,Z,Z⟩ ⟨Z,trivial⟩ ?_
 intro ⟨i,done⟩ f w V hJ ih1
 replace V:St _ _ ([Res.star (done.map (Res.oargs 110)),Res.sl (some ⟨bC,0,none⟩) l.length l.length 44 4 ((done ++ List.replicate (l.length - i) zeroI).flatMap zdP)] ++ [_,_]) _ _:=V
 replace hJ:i ≤ l.length ∧ done.length = i ∧ done.map InstP.L = (l.take i).map InstP.L:=hJ
 refine zbj (sl:=[(4,.int .i64 (i:Int))]) ⟨Z,trivial⟩<|SQ<|SR<|MI Z<|Q<|zac zbR Z<|Q<|zae (v:=.slice _ _ _) zdD Z Z (V.cellL Q3 Z)<|Q<|zaQ (rest:=[]) zdD Z<|Q<|zaY Z Z<|G<|zaa Z (fun g2=>?_) (fun g2=>?_)
 ·refine zaj <| SQ <| zau <| RG <| ML Z <| MI Z <| Q <| zac zbR Z <| Q <| zae (v := .slice _ _ _) zdD Z Z (V.cellL Q3 Z) <| MI Z <| Q <| zbe zdD zbB (Res.rmod_insts (V.hD _ Q0)) Z Z O O <| Q <| zaC (vs := zbA _ _ _ _ _ _) zbB Z Z Z (Res.rs2_cells (m := 4) (Res.rmod_insts (V.hD _ Q0)) _ (zbQ (g := zdP) (d := zeroI) zcP _ _ O)) <| Q (zav (v1 := zbt _ _ _ _ _ _) ent32 Z Z ((zjA _ _ (Res.rmod_argsI (V.hD _ Q0) O) (hla _ (zci O))).mono fun v w hp => ?_))
  obtain ⟨bN,rfl,hp⟩:=hp
  replace V:=V.call0 hp
  refine Q<|zbb zdD zbB rfl rfl (by omega) (by omega)<|Q<|zft (v:=zbt _ _ _ _ _ _) V zbB rfl rfl rfl rfl rfl .u2 (by simp only [List.length_cons,List.length_nil]; omega) fun w V=>G<|zan<|RG<|MI rfl<|Q<|zaD rfl rfl rfl zbS<|AI rfl<|G<|zaG ?_
  replace V:=V.pick (.k5 .nil)
  replace V:=V.starSnoc
  exact ih1 ((i + 1,done ++ [⟨(l.getD i zeroI).op,(l.getD i zeroI).ty,(l.getD i zeroI).res,some ⟨bN,0,none⟩,(l.getD i zeroI).args.length,(l.getD i zeroI).args⟩])) _ w (by (try dsimp only); omega) (by (try dsimp only); rw [List.map_append,← zr8 (g:=zdP) (es:=4) zcP (y:=⟨(l.getD i zeroI).op,(l.getD i zeroI).ty,(l.getD i zeroI).res,some ⟨bN,0,none⟩,(l.getD i zeroI).args.length,(l.getD i zeroI).args⟩) (x:=zdP ⟨(l.getD i zeroI).op,(l.getD i zeroI).ty,(l.getD i zeroI).res,some ⟨bN,0,none⟩,(l.getD i zeroI).args.length,(l.getD i zeroI).args⟩) hJ.2.1 (by omega) rfl]; exact V) (⟨by (try dsimp only); omega,by simp [hJ.2.1],by rw [List.map_append,hJ.2.2,zc0 (d:=zeroI) (by omega),List.map_append]; rfl⟩) E3 ⟨(Vi (by (try dsimp only); omega)),trivial⟩
 obtain rfl:i = l.length:=by omega
 rw [Nat.sub_self,List.replicate_zero,List.append_nil done] at V
 have hdl:=hJ.2.1
 have hdn:=hJ.2.2
 rw [List.take_length] at hdn
 refine zaU (id:=0) Z<|SR<|ML Z<|Q<|zac zbR Z<|Q (SO (v:=.slice _ _ _) V zdD Z Z .u3 fun w V=>?_)
 refine NSR<|Q<|zaC (vs:=zmF _ _ _ _ _) zem Z Z Z (zab (n:=3) (V.objL Q3) _ Z)<|Q (SO (v:=zex _ _ _ _ _) V zem Z Z .u2 fun w V=>?_)
 refine G<|zag func20 Z (zak (vs:=zmF _ _ _ _ _) Z zem Z Z (zab (n:=3) (V.objL Q2) _ Z)) ?_
 replace V:=V.pick (.c .u1 (.k1 .nil))
 rw [← hdl] at V
 exact ⟨bC,done,(by rw [hdl]),hdn,(St.starCons V).noD⟩
theorem zhY {gn bd se sa:Int} {l:List InstP} (hS:zbG bd (l.map InstP.L) = (se,sa)) (ao:Option Addr) (cp:Nat) (w:World) (hA:(Res.rmod ao l).holds w) (hs:Small l):Ret prog 19 #[.agg #[.int .u32 gn,.int .u32 bd,.slice ao l.length cp]] w (fun v w'=>v = .agg #[.int .i64 se,.int .i64 sa] ∧ St w NoM [] [] w') :=
 zl5 gn bd l ao cp hS w hA hs.len hs.op hs.sum hs.txt
theorem zbo (bq:Nat) (s:Tx) (ao:Option Addr) (cp:Nat) (l:List TokL) (a:Nat) (Y e p:Int) (e2 p2:Int) (w:World) (hB:(AR 130 bq s ao cp l (a:Int) Y e p).holds w):Ret prog 128 #[.pointer (some ⟨bq,0,none⟩),.int .i64 e2,.int .i64 p2] w (fun v w'=>v = .bool false ∧ St w (AR 130 bq s ao cp l (a:Int) Y e p).foot [AR 130 bq s ao cp l (a:Int) Y e2 p2] [] w'):=by
 refine zax (args:=[.pointer (some ⟨bq,0,none⟩),.int .i64 e2,.int .i64 p2]) func128 Z Z Z ?_
 have V:St w (AR 130 bq s ao cp l (a:Int) Y e p).foot [AR 130 bq s ao cp l (a:Int) Y e p] [] w:=St.enter1 hB (fun d hd=>by cases hd) (fun d hd=>by cases hd)
 refine SR<|AB Z<|NSR<|MP Z<|MI Z<|MI Z<|Q (zaf zbr zc7 (.c (v:=.int .i64 _) Z (h:=(.c (v:=.int .i64 _) Z (h:=.nil)))) ?_)
 refine Q<|zaF Z<|Q<|zac zjl Z<|Q (SO (v:=gII _ _) V zbr Z Z .u0 fun w V=>?_)
 refine NSR<|AB Z<|G<|zag func128 Z (TP (v:=.bool _) Z) ?_
 exact ⟨Z,V⟩
theorem zeF (bq:Nat) (s:Tx) (ao:Option Addr) (cp:Nat) (l:List TokL) (a:Nat) (Y e p:Int) (w:World) (hB:(AR 130 bq s ao cp l (a:Int) Y e p).holds w):Ret prog 73 #[.pointer (some ⟨bq,0,none⟩)] w (fun v w'=>v = .bool (decide (a < l.length)) ∧ St w (AR 130 bq s ao cp l (a:Int) Y e p).foot [AR 130 bq s ao cp l (a:Int) Y e p] [] w'):=by
 refine zax (args:=[.pointer (some ⟨bq,0,none⟩)]) func73 Z Z Z ?_
 have V:St w (AR 130 bq s ao cp l (a:Int) Y e p).foot [AR 130 bq s ao cp l (a:Int) Y e p] [] w:=St.enter1 hB (fun d hd=>by cases hd) (fun d hd=>by cases hd)
 refine SR<|AB Z<|G<|SQ<|RunD.start [] V (bs:=[0,1,3,7,0,16,48,112,240,511,1023]) (ds:=[some 3,some 4,some 5,some 6,some 7,some 8,some 9,some 10,some 11,some 12,some 2]) ⟨Kr,Kr,Kr⟩ (fun tab1=>?_)
 refine DO tab1 1 (fun _ _ _ hc=>zad (v:=Pp _ _) (hc.old Z Z Z) hc.z)<|DO tab1 2 (fun _ _ _ hc=>zaF (hc.d 0 Z Z Z Z) hc.z)<|DO tab1 3 (fun _ _ _ hc=>zac zcs (hc.d 1 Z Z Z Z) hc.z)<|DO tab1 4 (fun _ _ _ hc=>zae (v:=.int .i64 _) ty3 Z (hc.d 2 Z Z Z Z) (hc.st.cellL (Ar Q0) Z) hc.z)<|DO tab1 5 (fun _ _ _ hc=>zad (v:=Pp _ _) (hc.old Z Z Z) hc.z)<|DO tab1 6 (fun _ _ _ hc=>zaF (hc.d 4 Z Z Z Z) hc.z)<|DO tab1 7 (fun _ _ _ hc=>zac zds (hc.d 5 Z Z Z Z) hc.z)<|DO tab1 8 (fun _ _ _ hc=>zae (v:=.slice _ _ _) ziU Z (hc.d 6 Z Z Z Z) (hc.st.cellL (Ar Q0) Z) hc.z)<|DO tab1 9 (fun _ _ _ hc=>zaQ (rest:=[]) ziU (hc.d 7 Z Z Z Z) hc.z)<|RunD.fin zaB tab1 V Z (fun f2 w R5 hs3 hd4 hr6 V=>?_)
 obtain ⟨h3_,r0⟩:=hd4 0 3 rfl rfl
 obtain ⟨h4_,r1⟩:=hd4 1 4 rfl rfl
 obtain ⟨h5_,r2⟩:=hd4 2 5 rfl rfl
 obtain ⟨h6_,r3⟩:=hd4 3 6 rfl rfl
 obtain ⟨h7_,r4⟩:=hd4 4 7 rfl rfl
 obtain ⟨h8_,r5⟩:=hd4 5 8 rfl rfl
 obtain ⟨h9_,r6⟩:=hd4 6 9 rfl rfl
 obtain ⟨h10_,r7⟩:=hd4 7 10 rfl rfl
 obtain ⟨h11_,r8⟩:=hd4 8 11 rfl rfl
 simp only [rg9,Fc,Fn,Mc,Mn,r0,r1,r2,r3,r4,r5,r6,r7,r8,Na,An,Ca] at V
 refine zaH (sl:=[(6,.int .i64 _),(11,.int .i64 _)]) ⟨h6_,h11_,trivial⟩ ?_
 clear hs3 hd4 hr6 tab1
 refine Q<|zaY Z Z<|AB Z<|G<|zag func73 Z (TP (v:=.bool _) Z) ?_
 exact ⟨Vb (by first | rfl | (rw [decide_eq_decide]; omega)),V⟩
theorem zdf (bq:Nat) (s:Tx) (ao:Option Addr) (cp:Nat) (l:List TokL) (a:Nat) (Y e p:Int) (kd:Int) (w:World) (hB:(AR 130 bq s ao cp l (a:Int) Y e p).holds w) (hT:(AT 72 ao cp l).holds w) (hTA:Apart (AR 130 bq s ao cp l (a:Int) Y e p) (AT 72 ao cp l)) (hl:s.length ≤ 1099511627776) (hll:l.length ≤ s.length) (hts:wsz l ≤ 7 * s.length):Ret prog 126 #[.pointer (some ⟨bq,0,none⟩),.int .u8 kd] w (fun v w'=>(l.length ≤ a ∧ v = .tuple #[.agg #[.int .u8 0,str [],.int .i64 0],.bool false] ∧ St w (AR 130 bq s ao cp l (a:Int) Y e p).foot [AR 130 bq s ao cp l (a:Int) Y 72 (s.length)] [] w') ∨ (a < l.length ∧ (l.getD a zaL).kind ≠ kd ∧ v = .tuple #[.agg #[.int .u8 0,str [],.int .i64 0],.bool false] ∧ St w (AR 130 bq s ao cp l (a:Int) Y e p).foot [AR 130 bq s ao cp l (a:Int) Y 70 ((l.getD a zaL).at_)] [] w') ∨ (a < l.length ∧ (l.getD a zaL).kind = kd ∧ v = .tuple #[.agg #[.int .u8 (l.getD a zaL).kind,str (l.getD a zaL).text,.int .i64 (l.getD a zaL).at_],.bool true] ∧ St w (AR 130 bq s ao cp l (a:Int) Y e p).foot [AR 130 bq s ao cp l (a + 1:Int) Y e p] [] w')):=by
 refine zax (args:=[.pointer (some ⟨bq,0,none⟩),.int .u8 kd]) func126 Z Z Z ?_
 have V:St w (AR 130 bq s ao cp l (a:Int) Y e p).foot [AR 130 bq s ao cp l (a:Int) Y e p] [AT 72 ao cp l] w:=St.enter1 hB (by simp only [List.forall_mem_cons]; exact ⟨hT,fun _ h=>absurd h List.not_mem_nil⟩) (by simp only [List.forall_mem_cons]; exact ⟨hTA,fun _ h=>absurd h List.not_mem_nil⟩)
 have hidx:(l.getD ((a:Int).toNat) zaL).kind = (l.getD a zaL).kind:=rfl
 refine SR<|Q<|zaw V zbO fun w b4 V=>AB Z<|G<|SQ<|zau<|SR<|MP Z ?_
 replace V:=V.pick (.c .u1 (.k1 .nil))
 refine Q (zav (v1:=Pp _ _) zp3 Z Z ((zeF _ _ _ _ _ a _ _ _ _ (V.hL _ Q0)).mono fun v w hp=>?_))
 obtain ⟨rfl,hp⟩:=hp
 replace V:=V.call1 hp
 refine Q<|zf9 Z<|AB Z<|G<|zaa Z (fun g1=>?_) (fun g1=>?_)
 ·refine SR <| Q (zaf zbO zhn .nil ?_)
  refine MP Z<|MP Z<|Q<|zaF Z<|Q<|zac zjm Z<|Q<|zae (v:=str _) ty9 Z Z (V.cellL Q0 Z)<|Q<|zaX (rest:=[]) ty9 Z<|Q (zbm (v1:=Pp _ _) (v2:=.int .i64 _) (v3:=.int .i64 _) zcW Z Z Z Z ((zbo _ _ _ _ _ a _ e p _ _ _ (V.hL _ Q0)).mono fun v w hp=>?_))
  obtain ⟨rfl,hp⟩:=hp
  replace V:=V.call1 hp
  refine Q (SO (v:=zb2 _ _ _) V zbO Z Z .u1 fun w V=>?_)
  refine AB Z<|G<|zah func126 Z (zak (vs:=zlG _ _ _) Z zbO Z Z (zab (n:=3) (V.objL Q1) _ Z)) (TP (v:=.bool _) Z) ?_
  replace V:=V.pick (.k1 .nil)
  exact .inl ⟨by omega,Z,V.noD⟩
 refine SQ ?_
 obtain ⟨bs2,rfl⟩:=Res.sl_some (V.hD _ Q0) O
 refine RunD.start [] V (bs:=[0,1,3,7,0,16,48,112,255,511,1023,0,4095,8191]) (ds:=[some 19,some 20,some 21,some 22,some 23,some 24,some 25,some 26,some 27,some 28,some 29,some 30,some 31,some 18]) ⟨Kr,Kr,Kr⟩ (fun tab3=>?_)
 refine DO tab3 1 (fun _ _ _ hc=>zad (v:=Pp _ _) (hc.old Z Z Z) hc.z)<|DO tab3 2 (fun _ _ _ hc=>zaF (hc.d 0 Z Z Z Z) hc.z)<|DO tab3 3 (fun _ _ _ hc=>zac zds (hc.d 1 Z Z Z Z) hc.z)<|DO tab3 4 (fun _ _ _ hc=>zae (v:=.slice _ _ _) ziU Z (hc.d 2 Z Z Z Z) (hc.st.cellL (Ar Q0) Z) hc.z)<|DO tab3 5 (fun _ _ _ hc=>zad (v:=Pp _ _) (hc.old Z Z Z) hc.z)<|DO tab3 6 (fun _ _ _ hc=>zaF (hc.d 4 Z Z Z Z) hc.z)<|DO tab3 7 (fun _ _ _ hc=>zac zcs (hc.d 5 Z Z Z Z) hc.z)<|DO tab3 8 (fun _ _ _ hc=>zae (v:=.int .i64 _) ty3 Z (hc.d 6 Z Z Z Z) (hc.st.cellL (Ar Q0) Z) hc.z)<|DO tab3 9 (fun _ _ _ hc=>zbb ziU zbO (hc.d 3 Z Z Z Z) (hc.d 7 Z Z Z Z) O O hc.z)<|DO tab3 10 (fun _ _ _ hc=>zac zpR (hc.d 8 Z Z Z Z) hc.z)<|DO tab3 11 (fun _ _ _ hc=>zae (v:=.int .u8 _) ty5 Z (hc.d 9 Z Z Z Z) (Res.sl_cell (hc.st.hD _ Q0) (zct (g:=zmj) (d:=zaL) zdX Z O)) hc.z)<|DO tab3 12 (fun _ _ _ hc=>zad (v:=.int .u8 _) (hc.old Z Z Z) hc.z)<|RunD.fin zaB tab3 V Z (fun f4 w R7 hs5 hd6 hr8 V=>?_)
 obtain ⟨h19_,r0⟩:=hd6 0 19 rfl rfl
 obtain ⟨h20_,r1⟩:=hd6 1 20 rfl rfl
 obtain ⟨h21_,r2⟩:=hd6 2 21 rfl rfl
 obtain ⟨h22_,r3⟩:=hd6 3 22 rfl rfl
 obtain ⟨h23_,r4⟩:=hd6 4 23 rfl rfl
 obtain ⟨h24_,r5⟩:=hd6 5 24 rfl rfl
 obtain ⟨h25_,r6⟩:=hd6 6 25 rfl rfl
 obtain ⟨h26_,r7⟩:=hd6 7 26 rfl rfl
 obtain ⟨h27_,r8⟩:=hd6 8 27 rfl rfl
 obtain ⟨h28_,r9⟩:=hd6 9 28 rfl rfl
 obtain ⟨h29_,r10⟩:=hd6 10 29 rfl rfl
 obtain ⟨h30_,r11⟩:=hd6 11 30 rfl rfl
 simp only [rg12,Fc,Fn,Mc,Mn,r0,r1,r2,r3,r4,r5,r6,r7,r8,r9,r10,r11,Na,An,Ca] at V
 refine zaH (sl:=[(0,Pp _ _),(4,Pp _ _),(29,.int .u8 _),(30,.int .u8 _)]) ⟨(hs5 0 Z).trans Z,(hs5 4 Z).trans Z,h29_,h30_,trivial⟩ ?_
 clear hs5 hd6 hr8 tab3
 refine Q<|za8 Z Z<|AB Z<|G<|zal [(0,Pp _ _),(4,Pp _ _),(18,.bool _)] E3 fun f=>zaa Z (fun g9=>?_) (fun g9=>?_)
 ·refine SQ ?_
  apply RunD.start [(13,Res.row bq 130 _,Res.emp)] V (bs:=[0,0,0,4,12,28,0,64,192,448,1020,2044,4092,8190,16383,32767]) (ds:=[some 32,some 33,some 34,some 35,some 36,some 37,some 38,some 39,some 40,some 41,some 42,some 43,some 44,some 45,none,some 5]) (htab:=⟨Kr,Kr,Kr⟩)
  intro tab10
  refine DO tab10 1 (fun _ _ _ hc=>zaf zbO zhn .nil hc.z) ?_
  refine DO tab10 2 (fun _ _ _ hc=>zad (v:=Pp _ _) (hc.old Z Z Z) hc.z)<|DO tab10 3 (fun _ _ _ hc=>zad (v:=Pp _ _) (hc.old Z Z Z) hc.z)<|DO tab10 4 (fun _ _ _ hc=>zaF (hc.d 2 Z Z Z Z) hc.z)<|DO tab10 5 (fun _ _ _ hc=>zac zds (hc.d 3 Z Z Z Z) hc.z)<|zeb (det _) tab10 6 (fun f' L' w' hc hlate=>zae (v:=.slice _ _ _) ziU Z (hc.d 4 Z Z Z Z) (hc.st.cellL (Al (hlate _ _ _ Q0 Z)) Z) hc.z)<|DO tab10 7 (fun _ _ _ hc=>zad (v:=Pp _ _) (hc.old Z Z Z) hc.z)<|DO tab10 8 (fun _ _ _ hc=>zaF (hc.d 6 Z Z Z Z) hc.z)<|DO tab10 9 (fun _ _ _ hc=>zac zcs (hc.d 7 Z Z Z Z) hc.z)<|zeb (det _) tab10 10 (fun f' L' w' hc hlate=>zae (v:=.int .i64 _) ty3 Z (hc.d 8 Z Z Z Z) (hc.st.cellL (Al (hlate _ _ _ Q0 Z)) Z) hc.z)<|DO tab10 11 (fun _ _ _ hc=>zbb ziU zbO (hc.d 5 Z Z Z Z) (hc.d 9 Z Z Z Z) O O hc.z)<|DO tab10 12 (fun _ _ _ hc=>zac zcD (hc.d 10 Z Z Z Z) hc.z)<|DO tab10 13 (fun _ _ _ hc=>zae (v:=.int .i64 _) ty3 Z (hc.d 11 Z Z Z Z) (Res.sl_cell (hc.st.hD _ Q0) (zct (g:=zmj) (d:=zaL) zdX Z O)) hc.z)<|zcS (fun g v rs=>v = .bool false ∧ rs = [AR 130 bq s (some ⟨bs2,0,none⟩) cp l (((a:Nat):Int):Int) Y 70 ((l.getD a zaL).at_)]) tab10 14 Q0 (fun f' L' L'' w' hc ⟨X,hrem,hX⟩=>zbm (v1:=Pp _ _) (v2:=.int .i64 _) (v3:=.int .i64 _) zcW Z (hc.d 1 Z Z Z Z) Z (hc.d 12 Z Z Z Z) ((zbo bq s _ cp l (a) Y e p 70 ((l.getD a zaL).at_) _ (hc.st.hL _ hrem.mem2)).mono fun v w hp=>⟨[_],fun g hg=>⟨hp.1,Z⟩,hX _ _ (St.callRem hc.st hrem hp.2)⟩))<|RunD.fin zaB tab10 V Z (fun f11 w R14 hs12 hd13 hr15 V=>?_)
  obtain ⟨h32_,r0⟩:=hd13 0 32 rfl rfl
  obtain ⟨h33_,r1⟩:=hd13 1 33 rfl rfl
  obtain ⟨h34_,r2⟩:=hd13 2 34 rfl rfl
  obtain ⟨h35_,r3⟩:=hd13 3 35 rfl rfl
  obtain ⟨h36_,r4⟩:=hd13 4 36 rfl rfl
  obtain ⟨h37_,r5⟩:=hd13 5 37 rfl rfl
  obtain ⟨h38_,r6⟩:=hd13 6 38 rfl rfl
  obtain ⟨h39_,r7⟩:=hd13 7 39 rfl rfl
  obtain ⟨h40_,r8⟩:=hd13 8 40 rfl rfl
  obtain ⟨h41_,r9⟩:=hd13 9 41 rfl rfl
  obtain ⟨h42_,r10⟩:=hd13 10 42 rfl rfl
  obtain ⟨h43_,r11⟩:=hd13 11 43 rfl rfl
  obtain ⟨h44_,r12⟩:=hd13 12 44 rfl rfl
  obtain ⟨h45_,r13⟩:=hd13 13 45 rfl rfl
  simp only [rg14,Fc,Fn,Mc,Mn,r0,r1,r2,r3,r4,r5,r6,r7,r8,r9,r10,r11,r12,r13,Na,An,Ca] at V
  refine zaH (sl:=[(4,Pp _ _),(32,zb2 _ _ _),(45,.bool _)]) ⟨(hs12 4 Z).trans Z,h32_,h45_,trivial⟩ ?_
  clear hs12 hd13 hr15 tab10
  refine Q (SO (v:=zb2 _ _ _) V zbO Z Z .u2 fun w V=>?_)
  refine AB Z<|G<|zah func126 Z (zak (vs:=zlG _ _ _) Z zbO Z Z (zab (n:=3) (V.objL Q2) _ Z)) (TP (v:=.bool _) Z) ?_
  replace V:=V.pick (.k1 .nil)
  exact .inr (.inl ⟨by omega,by omega,Z,V.noD⟩)
 refine zaj<|zan<|SR<|MP Z<|Q<|zaF Z<|Q<|zac zcs Z<|Q<|zae (v:=.int .i64 _) ty3 Z Z (V.cellL Q0 Z)<|Q<|zaD Z Z Z zbS<|Q<|zaF Z<|Q<|zac zcs Z<|Q (SO (v:=.int .i64 _) V ty3 Z Z .u0 fun w V=>?_)
 refine G<|SQ<|RunD.start [] V (bs:=[0,1,3,7,0,16,48,112,240,511,1023,2047,4095]) (ds:=[some 53,some 54,some 55,some 56,some 57,some 58,some 59,some 60,some 61,some 62,some 63,none,some 5]) ⟨Kr,Kr,Kr⟩ (fun tab16=>?_)
 refine DO tab16 1 (fun _ _ _ hc=>zad (v:=Pp _ _) (hc.old Z Z Z) hc.z)<|DO tab16 2 (fun _ _ _ hc=>zaF (hc.d 0 Z Z Z Z) hc.z)<|DO tab16 3 (fun _ _ _ hc=>zac zds (hc.d 1 Z Z Z Z) hc.z)<|DO tab16 4 (fun _ _ _ hc=>zae (v:=.slice _ _ _) ziU Z (hc.d 2 Z Z Z Z) (hc.st.cellL (Ar Q0) Z) hc.z)<|DO tab16 5 (fun _ _ _ hc=>zad (v:=Pp _ _) (hc.old Z Z Z) hc.z)<|DO tab16 6 (fun _ _ _ hc=>zaF (hc.d 4 Z Z Z Z) hc.z)<|DO tab16 7 (fun _ _ _ hc=>zac zcs (hc.d 5 Z Z Z Z) hc.z)<|DO tab16 8 (fun _ _ _ hc=>zae (v:=.int .i64 _) ty3 Z (hc.d 6 Z Z Z Z) (hc.st.cellL (Ar Q0) Z) hc.z)<|DO tab16 9 (fun _ _ _ hc=>zbV (hc.d 7 Z Z Z Z) Z Z zbS hc.z)<|RunD.fin zaB tab16 V Z (fun f17 w R20 hs18 hd19 hr21 V=>?_)
 obtain ⟨h53_,r0⟩:=hd19 0 53 rfl rfl
 obtain ⟨h54_,r1⟩:=hd19 1 54 rfl rfl
 obtain ⟨h55_,r2⟩:=hd19 2 55 rfl rfl
 obtain ⟨h56_,r3⟩:=hd19 3 56 rfl rfl
 obtain ⟨h57_,r4⟩:=hd19 4 57 rfl rfl
 obtain ⟨h58_,r5⟩:=hd19 5 58 rfl rfl
 obtain ⟨h59_,r6⟩:=hd19 6 59 rfl rfl
 obtain ⟨h60_,r7⟩:=hd19 7 60 rfl rfl
 obtain ⟨h61_,r8⟩:=hd19 8 61 rfl rfl
 simp only [rg9,Fc,Fn,Mc,Mn,r0,r1,r2,r3,r4,r5,r6,r7,r8,Na,An,Ca] at V
 refine zaH (sl:=[(4,Pp _ _),(56,.slice _ _ _),(61,.int .i64 _)]) ⟨(hs18 4 Z).trans Z,h56_,h61_,trivial⟩ ?_
 clear hs18 hd19 hr21 tab16
 refine Q<|zbb ziU zbO Z Z O O<|Q<|zaC (vs:=zlG _ _ _) zbO Z Z Z (Res.sl_cells (k:=3) (V.hD _ Q0) _ (zbQ (g:=zmj) (d:=zaL) zdX _ _ O))<|Q (SO (v:=zb2 _ _ _) V zbO Z Z .u1 fun w V=>?_)
 refine AB Z<|G<|zah func126 Z (zak (vs:=zlG _ _ _) Z zbO Z Z (zab (n:=3) (V.objL Q1) _ Z)) (TP (v:=.bool _) Z) ?_
 replace V:=V.pick (.k1 .nil)
 rw [show ((a:Int) + 1 - 1).toNat = a by omega]
 exact .inr (.inr ⟨by omega,by omega,Z,V.noD⟩)
theorem zee (bq:Nat) (s:Tx) (ao:Option Addr) (cp:Nat) (l:List TokL) (a:Nat) (Y e p:Int) (w:World) (hB:(AR 130 bq s ao cp l (a:Int) Y e p).holds w) (hT:(AT 72 ao cp l).holds w) (hTA:Apart (AR 130 bq s ao cp l (a:Int) Y e p) (AT 72 ao cp l)) (hl:s.length ≤ 1099511627776) (hll:l.length ≤ s.length) (hts:wsz l ≤ 7 * s.length) (hG:LxG.holds w) (hGA:Apart (AR 130 bq s ao cp l (a:Int) Y e p) LxG):Ret prog 149 #[.pointer (some ⟨bq,0,none⟩)] w (fun v w'=>(l.length ≤ a ∧ v = .tuple #[.int .u32 0,.bool false] ∧ St w (AR 130 bq s ao cp l (a:Int) Y e p).foot [AR 130 bq s ao cp l (a:Int) Y 72 (s.length)] [] w') ∨ (a < l.length ∧ (l.getD a zaL).kind ≠ 3 ∧ v = .tuple #[.int .u32 0,.bool false] ∧ St w (AR 130 bq s ao cp l (a:Int) Y e p).foot [AR 130 bq s ao cp l (a:Int) Y 70 ((l.getD a zaL).at_)] [] w') ∨ (a < l.length ∧ (l.getD a zaL).kind = 3 ∧ (za3 (l.getD a zaL).text).2 ≠ 0 ∧ v = .tuple #[.int .u32 0,.bool false] ∧ St w (AR 130 bq s ao cp l (a:Int) Y e p).foot [AR 130 bq s ao cp l (a + 1:Int) Y ((za3 (l.getD a zaL).text).2) ((l.getD a zaL).at_)] [] w') ∨ (a < l.length ∧ (l.getD a zaL).kind = 3 ∧ (za3 (l.getD a zaL).text).2 = 0 ∧ v = .tuple #[.int .u32 (za3 (l.getD a zaL).text).1,.bool true] ∧ St w (AR 130 bq s ao cp l (a:Int) Y e p).foot [AR 130 bq s ao cp l (a + 1:Int) Y e p] [] w')):=by
 refine zax (args:=[.pointer (some ⟨bq,0,none⟩)]) func149 Z Z Z ?_
 have V:St w (AR 130 bq s ao cp l (a:Int) Y e p).foot [AR 130 bq s ao cp l (a:Int) Y e p] [AT 72 ao cp l,LxG] w:=St.enter1 hB (by simp only [List.forall_mem_cons]; exact ⟨hT,hG,fun _ h=>absurd h List.not_mem_nil⟩) (by simp only [List.forall_mem_cons]; exact ⟨hTA,hGA,fun _ h=>absurd h List.not_mem_nil⟩)
 refine SR<|AU Z<|AB Z<|NSR<|MP Z<|Q (zaK (v1:=Pp _ _) (v2:=.int .u8 _) zhS Z Z Z ((zdf _ _ _ _ l a _ _ _ 3 _ (V.hL _ Q0) (V.hD _ Q0) (V.sepD _ Q0 _ Q0) hl hll hts).mono fun v w hp=>?_))
 rcases hp with ⟨hk10,rfl,hp⟩ | ⟨hk10,hd10,rfl,hp⟩ | ⟨hk10,hd10,rfl,hp⟩
 ·replace V := V.call1 hp
  refine Q<|zad (v:=.tuple #[zb2 _ _ _,.bool _]) Z<|Q<|Ex (zb2 _ _ _) Z Z<|Q<|Ex (.bool _) Z Z<|Q<|zaw V zbO fun w b4 V=>Q (SO (v:=zb2 _ _ _) V zbO Z Z .u0 fun w V=>?_)
  refine AB Z<|G<|SQ<|SR<|MB Z<|Q<|zaT Z<|G<|zat (Vb (congrArg not (Z:false = _)))<|SR<|AU Z<|AB Z<|G<|zah func149 Z (TP (v:=.int .u32 _) Z) (TP (v:=.bool _) Z) ?_
  replace V:=V.pick (.c .u1 .nil)
  exact .inl ⟨hk10,Z,V.noD⟩
 ·replace V := V.call1 hp
  refine Q<|zad (v:=.tuple #[zb2 _ _ _,.bool _]) Z<|Q<|Ex (zb2 _ _ _) Z Z<|Q<|Ex (.bool _) Z Z<|Q<|zaw V zbO fun w b4 V=>Q (SO (v:=zb2 _ _ _) V zbO Z Z .u0 fun w V=>?_)
  refine AB Z<|G<|SQ<|SR<|MB Z<|Q<|zaT Z<|G<|zat (Vb (congrArg not (Z:false = _)))<|SR<|AU Z<|AB Z<|G<|zah func149 Z (TP (v:=.int .u32 _) Z) (TP (v:=.bool _) Z) ?_
  replace V:=V.pick (.c .u1 .nil)
  exact .inr (.inl ⟨hk10,hd10,Z,V.noD⟩)
 ·replace V := V.call1 hp
  refine Q<|zad (v:=.tuple #[zb2 _ _ _,.bool _]) Z<|Q<|Ex (zb2 _ _ _) Z Z<|Q<|Ex (.bool _) Z Z<|Q<|zaw V zbO fun w b4 V=>Q (SO (v:=zb2 _ _ _) V zbO Z Z .u0 fun w V=>?_)
  refine AB Z<|G<|SQ<|SR<|MB Z<|Q<|zaT Z<|G<|zas (Vb (congrArg not (Z:true = _)))<|zaj<|SR<|Q<|zac zdb Z<|Q<|zae (v:=str _) ty9 Z Z (V.cellL Q0 Z)<|Q<|zav (v1:=str _) zrW Z Z<|Ret.det (zdw (l.getD a zaL).text _ (V.hD _ Q1) (by have:=zlb (l:=l) (i:=a) O; omega)) V fun w V=>?_
  refine Q<|zad (v:=.tuple #[.int .u32 _,.int .i64 _]) Z<|Q<|Ex (.int .u32 _) Z Z<|Q<|Ex (.int .i64 _) Z Z<|AU Z<|AI Z<|G<|zal [(0,Pp _ _),(4,Pp _ _),(6,.int .u32 _),(7,.int .i64 _)] E4 fun f=>SQ<|SR<|MI Z<|Q<|za8 Z Z<|G<|zaa Z (fun g1=>?_) (fun g1=>?_)
  ·refine SR <| MP Z <| MI Z <| Q <| zac zcD Z <| Q (zae (v := .int .i64 _) ty3 Z Z (V.cellL Q0 Z) ?_)
   replace V:=V.pick (.c .u1 (.k1 .nil))
   refine Q (zbm (v1:=Pp _ _) (v2:=.int .i64 _) (v3:=.int .i64 _) zcW Z Z Z Z ((zbo _ _ _ _ _ _ _ e p _ _ _ (V.hL _ Q0)).mono fun v w hp=>?_))
   obtain ⟨rfl,hp⟩:=hp
   replace V:=V.call1 hp
   refine AU Z<|AB Z<|G<|zah func149 Z (TP (v:=.int .u32 _) Z) (TP (v:=.bool _) Z) ?_
   replace V:=V.pick (.k1 .nil)
   exact .inr (.inr (.inl ⟨hk10,hd10,g1,Z,V.noD⟩))
  refine zaj<|SR<|MU Z<|AU Z<|AB Z<|G<|zah func149 Z (TP (v:=.int .u32 _) Z) (TP (v:=.bool _) Z) ?_
  replace V:=V.pick (.c .u1 .nil)
  exact .inr (.inr (.inr ⟨hk10,hd10,Nn g1,Z,V.noD⟩))
theorem zqG (bq:Nat) (s:Tx) (ao:Option Addr) (cp:Nat) (l:List TokL) (Y e p:Int) (w:World) (hB:(AR 130 bq s ao cp l ((0:Nat):Int) Y e p).holds w) (hT:(AT 72 ao cp l).holds w) (hTA:Apart (AR 130 bq s ao cp l ((0:Nat):Int) Y e p) (AT 72 ao cp l)) (hl:s.length ≤ 1099511627776) (hll:l.length ≤ s.length) (hts:wsz l ≤ 7 * s.length) (hG:LxG.holds w) (hGA:Apart (AR 130 bq s ao cp l ((0:Nat):Int) Y e p) LxG):Ret prog 93 #[.pointer (some ⟨bq,0,none⟩)] w (fun v w'=>(∃ q:Int × Int,zdR s.length l = ((0,0),q) ∧ q.1 ≠ 0 ∧ v = .tuple #[.agg #[.int .u32 0,.int .u32 0],.bool false] ∧ ∃ a':Int,St w (AR 130 bq s ao cp l ((0:Nat):Int) Y e p).foot [Res.row bq 130 [str s,.slice ao l.length cp,.int .i64 (a':Int),.int .u32 Y,.int .i64 q.1,.int .i64 q.2]] [] w') ∨ (∃ gn bd:Int,zdR s.length l = ((gn,bd),(0,0)) ∧ v = .tuple #[.agg #[.int .u32 gn,.int .u32 bd],.bool true] ∧ ∃ a':Int,St w (AR 130 bq s ao cp l ((0:Nat):Int) Y e p).foot [AR 130 bq s ao cp l (a':Int) Y e p] [] w')):=by
 refine zax (args:=[.pointer (some ⟨bq,0,none⟩)]) func93 Z Z Z ?_
 have V:St w (AR 130 bq s ao cp l ((0:Nat):Int) Y e p).foot [AR 130 bq s ao cp l ((0:Nat):Int) Y e p] [AT 72 ao cp l,LxG] w:=St.enter1 hB (by simp only [List.forall_mem_cons]; exact ⟨hT,hG,fun _ h=>absurd h List.not_mem_nil⟩) (by simp only [List.forall_mem_cons]; exact ⟨hTA,hGA,fun _ h=>absurd h List.not_mem_nil⟩)
 have hnu:=zhz (l.getD 2 zaL).text
 refine SR<|Q<|zaw V zcx fun w b2 V=>AB Z<|NSR<|MP Z ?_
 replace V:=V.pick (.c .u1 (.k1 .nil))
 refine Q (zaK (v1:=Pp _ _) (v2:=.int .u8 _) zhS Z Z Z ((zdf _ _ _ _ l 0 _ _ _ 1 _ (V.hL _ Q0) (V.hD _ Q0) (V.sepD _ Q0 _ Q0) hl hll hts).mono fun v w hp=>?_))
 rcases hp with ⟨hk11,rfl,hp⟩ | ⟨hk11,hd11,rfl,hp⟩ | ⟨hk11,hd11,rfl,hp⟩
 ·replace V := V.call1 hp
  refine Q<|zad (v:=.tuple #[zb2 _ _ _,.bool _]) Z<|Q<|Ex (zb2 _ _ _) Z Z<|Q<|Ex (.bool _) Z Z<|Q<|zaw V zbO fun w b4 V=>Q (SO (v:=zb2 _ _ _) V zbO Z Z .u0 fun w V=>?_)
  refine AB Z<|G<|SQ<|SR<|MB Z<|Q<|zaT Z<|G<|zat (Vb (congrArg not (Z:false = _)))<|SR<|Q (zaf zcx zfg .nil ?_)
  refine Q (SO (v:=gUU _ _) V zcx Z Z .u2 fun w V=>?_)
  refine AB Z<|G<|zah func93 Z (zak (vs:=lUU _ _) Z zcx Z Z (zab (n:=2) (V.objL Q2) _ Z)) (TP (v:=.bool _) Z) ?_
  replace V:=V.pick (.c .u1 .nil)
  refine .inl ⟨(72,s.length),head0 O,(show (72:Int) ≠ 0 by decide),Z,_,V.noD⟩
 ·replace V := V.call1 hp
  refine Q<|zad (v:=.tuple #[zb2 _ _ _,.bool _]) Z<|Q<|Ex (zb2 _ _ _) Z Z<|Q<|Ex (.bool _) Z Z<|Q<|zaw V zbO fun w b4 V=>Q (SO (v:=zb2 _ _ _) V zbO Z Z .u0 fun w V=>?_)
  refine AB Z<|G<|SQ<|SR<|MB Z<|Q<|zaT Z<|G<|zat (Vb (congrArg not (Z:false = _)))<|SR<|Q (zaf zcx zfg .nil ?_)
  refine Q (SO (v:=gUU _ _) V zcx Z Z .u2 fun w V=>?_)
  refine AB Z<|G<|zah func93 Z (zak (vs:=lUU _ _) Z zcx Z Z (zab (n:=2) (V.objL Q2) _ Z)) (TP (v:=.bool _) Z) ?_
  replace V:=V.pick (.c .u1 .nil)
  refine .inl ⟨(70,(l.getD 0 zaL).at_),head1 O (.inl hd11),(show (70:Int) ≠ 0 by decide),Z,_,V.noD⟩
 ·replace V := V.call1 hp
  refine Q<|zad (v:=.tuple #[zb2 _ _ _,.bool _]) Z<|Q<|Ex (zb2 _ _ _) Z Z<|Q<|Ex (.bool _) Z Z<|Q<|zaw V zbO fun w b4 V=>Q (SO (v:=zb2 _ _ _) V zbO Z Z .u0 fun w V=>?_)
  refine AB Z<|G<|SQ<|SR<|MB Z<|Q<|zaT Z<|G<|zas (Vb (congrArg not (Z:true = _)))<|zaj<|SQ<|SR<|Q<|zac zdb Z<|Q (zae (v:=str _) ty9 Z Z (V.cellL Q0 Z) ?_)
  refine Q<|ze4 Z Z<|G<|zaa Z (fun g1=>?_) (fun g1=>?_)
  ·refine SR <| Q (zaf zcx zfg .nil ?_)
   refine MP Z<|Q<|zac zcD Z<|Q (zae (v:=.int .i64 _) ty3 Z Z (V.cellL Q0 Z) ?_)
   replace V:=V.pick (.c .u1 (.k2 .nil))
   refine Q (zbm (v1:=Pp _ _) (v2:=.int .i64 _) (v3:=.int .i64 _) zcW Z Z Z Z ((zbo _ _ _ _ _ _ _ e p _ _ _ (V.hL _ Q0)).mono fun v w hp=>?_))
   obtain ⟨rfl,hp⟩:=hp
   replace V:=V.call1 hp
   refine Q (SO (v:=gUU _ _) V zcx Z Z .u2 fun w V=>?_)
   refine AB Z<|G<|zah func93 Z (zak (vs:=lUU _ _) Z zcx Z Z (zab (n:=2) (V.objL Q2) _ Z)) (TP (v:=.bool _) Z) ?_
   replace V:=V.pick (.k1 .nil)
   refine .inl ⟨(70,(l.getD 0 zaL).at_),head1 O (.inr g1),(show (70:Int) ≠ 0 by decide),Z,_,V.noD⟩
  refine zaj<|SR<|MP Z ?_
  replace V:=V.pick (.c .u1 (.k2 .nil))
  refine Q (zav (v1:=Pp _ _) zmT Z Z ((zee _ _ _ _ l 1 _ _ _ _ (V.hL _ Q0) (V.hD _ Q0) (V.sepD _ Q0 _ Q0) hl hll hts (V.hD _ Q1) (V.sepD _ Q0 _ Q1)).mono fun v w hp=>?_))
  rcases hp with ⟨hk27,rfl,hp⟩ | ⟨hk27,hd27,rfl,hp⟩ | ⟨hk27,hd27,he27,rfl,hp⟩ | ⟨hk27,hd27,he27,rfl,hp⟩
  ·replace V := V.call1 hp
   refine Q<|zad (v:=.tuple #[.int .u32 _,.bool _]) Z<|Q<|Ex (.int .u32 _) Z Z<|Q<|Ex (.bool _) Z Z<|AU Z<|AB Z<|G<|zal [(0,Pp _ _),(2,Pp _ _),(5,.bool _),(6,.int .u32 _)] E4 fun f=>SQ<|SR<|MB Z<|Q<|zaT Z<|G<|zat (Vb (congrArg not (Z:false = _)))<|SQ ?_
   refine RG<|Q (zaf zcx zfg .nil ?_)
   refine Q (SO (v:=gUU _ _) V zcx Z Z .u2 fun w V=>?_)
   refine AB Z<|G<|zah func93 Z (zak (vs:=lUU _ _) Z zcx Z Z (zab (n:=2) (V.objL Q2) _ Z)) (TP (v:=.bool _) Z) ?_
   replace V:=V.pick (.k1 .nil)
   refine .inl ⟨(72,s.length),head2 hd11 (Nn g1) O,(show (72:Int) ≠ 0 by decide),Z,_,V.noD⟩
  ·replace V := V.call1 hp
   refine Q<|zad (v:=.tuple #[.int .u32 _,.bool _]) Z<|Q<|Ex (.int .u32 _) Z Z<|Q<|Ex (.bool _) Z Z<|AU Z<|AB Z<|G<|zal [(0,Pp _ _),(2,Pp _ _),(5,.bool _),(6,.int .u32 _)] E4 fun f=>SQ<|SR<|MB Z<|Q<|zaT Z<|G<|zat (Vb (congrArg not (Z:false = _)))<|SQ ?_
   refine RG<|Q (zaf zcx zfg .nil ?_)
   refine Q (SO (v:=gUU _ _) V zcx Z Z .u2 fun w V=>?_)
   refine AB Z<|G<|zah func93 Z (zak (vs:=lUU _ _) Z zcx Z Z (zab (n:=2) (V.objL Q2) _ Z)) (TP (v:=.bool _) Z) ?_
   replace V:=V.pick (.k1 .nil)
   refine .inl ⟨(70,(l.getD 1 zaL).at_),(by rw [zih hd11 (Nn g1) (by omega),if_pos hd27]),(show (70:Int) ≠ 0 by decide),rfl,_,V.noD⟩
  ·replace V := V.call1 hp
   refine Q<|zad (v:=.tuple #[.int .u32 _,.bool _]) Z<|Q<|Ex (.int .u32 _) Z Z<|Q<|Ex (.bool _) Z Z<|AU Z<|AB Z<|G<|zal [(0,Pp _ _),(2,Pp _ _),(5,.bool _),(6,.int .u32 _)] E4 fun f=>SQ<|SR<|MB Z<|Q<|zaT Z<|G<|zat (Vb (congrArg not (Z:false = _)))<|SQ ?_
   refine RG<|Q (zaf zcx zfg .nil ?_)
   refine Q (SO (v:=gUU _ _) V zcx Z Z .u2 fun w V=>?_)
   refine AB Z<|G<|zah func93 Z (zak (vs:=lUU _ _) Z zcx Z Z (zab (n:=2) (V.objL Q2) _ Z)) (TP (v:=.bool _) Z) ?_
   replace V:=V.pick (.k1 .nil)
   refine .inl ⟨((za3 (l.getD 1 zaL).text).2,(l.getD 1 zaL).at_),(by rw [zih hd11 (Nn g1) (by omega),if_neg (fun q=>q hd27),if_pos he27]),he27,rfl,_,V.noD⟩
  ·replace V := V.call1 hp
   refine Q<|zad (v:=.tuple #[.int .u32 _,.bool _]) Z<|Q<|Ex (.int .u32 _) Z Z<|Q<|Ex (.bool _) Z Z<|AU Z<|AB Z<|G<|zal [(0,Pp _ _),(2,Pp _ _),(5,.bool _),(6,.int .u32 _)] E4 fun f=>SQ<|SR<|MB Z<|Q<|zaT Z<|G<|zas (Vb (congrArg not (Z:true = _)))<|zaj ?_
   refine SR<|MP Z<|Q<|zaF Z<|Q<|zac zjm Z<|Q<|zae (v:=str _) ty9 Z Z (V.cellL Q0 Z)<|Q<|zaX (rest:=[]) ty9 Z<|AI Z<|G<|SQ<|SR<|MP Z<|Q (zav (v1:=Pp _ _) zp3 Z Z ((zeF _ _ _ _ _ 2 _ _ _ _ (V.hL _ Q0)).mono fun v w hp=>?_))
   obtain ⟨rfl,hp⟩:=hp
   replace V:=V.call1 hp
   refine G<|zaa Z (fun g2=>?_) (fun g2=>?_)
   ·obtain ⟨bs3, rfl⟩ := Res.sl_some (V.hD _ Q0) O
    refine RunD.start [] V (bs:=[0,1,3,7,0,16,48,112,255,511,1023,2047]) (ds:=[some 40,some 41,some 42,some 43,some 44,some 45,some 46,some 47,some 48,some 49,some 50,some 7]) ⟨Kr,Kr,Kr⟩ (fun tab4=>?_)
    refine DO tab4 1 (fun _ _ _ hc=>zad (v:=Pp _ _) (hc.old Z Z Z) hc.z)<|DO tab4 2 (fun _ _ _ hc=>zaF (hc.d 0 Z Z Z Z) hc.z)<|DO tab4 3 (fun _ _ _ hc=>zac zds (hc.d 1 Z Z Z Z) hc.z)<|DO tab4 4 (fun _ _ _ hc=>zae (v:=.slice _ _ _) ziU Z (hc.d 2 Z Z Z Z) (hc.st.cellL (Ar Q0) Z) hc.z)<|DO tab4 5 (fun _ _ _ hc=>zad (v:=Pp _ _) (hc.old Z Z Z) hc.z)<|DO tab4 6 (fun _ _ _ hc=>zaF (hc.d 4 Z Z Z Z) hc.z)<|DO tab4 7 (fun _ _ _ hc=>zac zcs (hc.d 5 Z Z Z Z) hc.z)<|DO tab4 8 (fun _ _ _ hc=>zae (v:=.int .i64 _) ty3 Z (hc.d 6 Z Z Z Z) (hc.st.cellL (Ar Q0) Z) hc.z)<|RunD.fin zaB tab4 V Z (fun f5 w R8 hs6 hd7 hr9 V=>?_)
    obtain ⟨h40_,r0⟩:=hd7 0 40 rfl rfl
    obtain ⟨h41_,r1⟩:=hd7 1 41 rfl rfl
    obtain ⟨h42_,r2⟩:=hd7 2 42 rfl rfl
    obtain ⟨h43_,r3⟩:=hd7 3 43 rfl rfl
    obtain ⟨h44_,r4⟩:=hd7 4 44 rfl rfl
    obtain ⟨h45_,r5⟩:=hd7 5 45 rfl rfl
    obtain ⟨h46_,r6⟩:=hd7 6 46 rfl rfl
    obtain ⟨h47_,r7⟩:=hd7 7 47 rfl rfl
    simp only [rg8,Fc,Fn,Mc,Mn,r0,r1,r2,r3,r4,r5,r6,r7,Na,An,Ca] at V
    refine zaH (sl:=[(0,Pp _ _),(2,Pp _ _),(6,.int .u32 _),(43,.slice _ _ _),(47,.int .i64 _)]) ⟨(hs6 0 Z).trans Z,(hs6 2 Z).trans Z,(hs6 6 Z).trans Z,h43_,h47_,trivial⟩ ?_
    clear hs6 hd7 hr9 tab4
    refine Q<|zbb ziU zbO Z Z O O<|Q<|zac zcD Z<|Q<|zae (v:=.int .i64 _) ty3 Z Z (Res.sl_cell (V.hD _ Q0) (zct (g:=zmj) (d:=zaL) zdX Z O))<|AI Z<|G<|zal [(0,Pp _ _),(2,Pp _ _),(6,.int .u32 _),(7,.int .i64 _)] E4 fun f=>SR<|MP Z<|Q (zav (v1:=Pp _ _) zmT Z Z ((zee _ _ _ _ l 2 _ _ _ _ (V.hL _ Q0) (V.hD _ Q0) (V.sepD _ Q0 _ Q0) hl hll hts (V.hD _ Q1) (V.sepD _ Q0 _ Q1)).mono fun v w hp=>?_))
    rcases hp with ⟨hk53,rfl,hp⟩ | ⟨hk53,hd53,rfl,hp⟩ | ⟨hk53,hd53,he53,rfl,hp⟩ | ⟨hk53,hd53,he53,rfl,hp⟩
    ·exfalso; omega
    ·replace V := V.call1 hp
     refine Q<|zad (v:=.tuple #[.int .u32 _,.bool _]) Z<|Q<|Ex (.int .u32 _) Z Z<|Q<|Ex (.bool _) Z Z<|AU Z<|AB Z<|G<|SQ<|zau<|SR<|MB Z<|Q<|zaT Z<|AB Z<|G<|zat (Vb (congrArg not (Z:false = _))) ?_
     refine SR<|Q (zaf zcx zfg .nil ?_)
     refine Q (SO (v:=gUU _ _) V zcx Z Z .u2 fun w V=>?_)
     refine AB Z<|G<|zah func93 Z (zak (vs:=lUU _ _) Z zcx Z Z (zab (n:=2) (V.objL Q2) _ Z)) (TP (v:=.bool _) Z) ?_
     replace V:=V.pick (.k1 .nil)
     refine .inl ⟨(70,(l.getD 2 zaL).at_),(by rw [zih hd11 (Nn g1) (by omega),if_neg (fun q=>q hd27),if_neg (fun q=>q he27),if_neg (by omega),if_pos hd53]),(show (70:Int) ≠ 0 by decide),rfl,_,V.noD⟩
    ·replace V := V.call1 hp
     refine Q<|zad (v:=.tuple #[.int .u32 _,.bool _]) Z<|Q<|Ex (.int .u32 _) Z Z<|Q<|Ex (.bool _) Z Z<|AU Z<|AB Z<|G<|SQ<|zau<|SR<|MB Z<|Q<|zaT Z<|AB Z<|G<|zat (Vb (congrArg not (Z:false = _))) ?_
     refine SR<|Q (zaf zcx zfg .nil ?_)
     refine Q (SO (v:=gUU _ _) V zcx Z Z .u2 fun w V=>?_)
     refine AB Z<|G<|zah func93 Z (zak (vs:=lUU _ _) Z zcx Z Z (zab (n:=2) (V.objL Q2) _ Z)) (TP (v:=.bool _) Z) ?_
     replace V:=V.pick (.k1 .nil)
     refine .inl ⟨((za3 (l.getD 2 zaL).text).2,(l.getD 2 zaL).at_),(by rw [zih hd11 (Nn g1) (by omega),if_neg (fun q=>q hd27),if_neg (fun q=>q he27),if_neg (by omega),if_neg (fun q=>q hd53),if_pos he53]),he53,rfl,_,V.noD⟩
    ·replace V := V.call1 hp
     refine Q<|zad (v:=.tuple #[.int .u32 _,.bool _]) Z<|Q<|Ex (.int .u32 _) Z Z<|Q<|Ex (.bool _) Z Z<|AU Z<|AB Z<|G<|SQ<|zau<|SR<|MB Z<|Q<|zaT Z<|AB Z<|G<|zas (Vb (congrArg not (Z:true = _))) ?_
     refine SR<|MU Z<|Q<|zai Z Z<|MB Z<|zaz (d:=63) Z (fun g10=>?_) (fun g10=>?_)
     ·refine OM (t := 63) Z (Vb (Dt g10)) Z <| OM (t := 63) Z (Vb (Dt g10)) Z <| Q <| zaE (u := .bool _) (Vb (Dt g10)) Z <| AB Z <| G <| zat (Vb (Z : true = _)) <| SR <| Q (zaf zcx zfg .nil ?_)
      refine MP Z<|MI Z<|Q (zbm (v1:=Pp _ _) (v2:=.int .i64 _) (v3:=.int .i64 _) zcW Z Z Z Z ((zbo _ _ _ _ _ _ _ e p _ _ _ (V.hL _ Q0)).mono fun v w hp=>?_))
      obtain ⟨rfl,hp⟩:=hp
      replace V:=V.call1 hp
      refine Q (SO (v:=gUU _ _) V zcx Z Z .u2 fun w V=>?_)
      refine AB Z<|G<|zah func93 Z (zak (vs:=lUU _ _) Z zcx Z Z (zab (n:=2) (V.objL Q2) _ Z)) (TP (v:=.bool _) Z) ?_
      replace V:=V.pick (.k1 .nil)
      refine .inl ⟨(24,(l.getD 2 zaL).at_),(by rw [zih hd11 (Nn g1) (by omega),if_neg (fun q=>q hd27),if_neg (fun q=>q he27),if_neg (by omega),if_neg (fun q=>q hd53),if_neg (fun q=>q he53),if_pos (by omega)]),(show (24:Int) ≠ 0 by decide),rfl,_,V.noD⟩
     refine TK (t:=63) Z (Vb (Df g10))<|zad (v:=.int .u32 _) Z<|TK (t:=63) Z (Vb (Df g10))<|zbW Z Z<|Q<|zay (u:=.bool _) (Vb (Df g10)) Z<|AB Z<|G<|zaa Z (fun g11=>?_) (fun g11=>?_)
     ·refine SR <| Q (zaf zcx zfg .nil ?_)
      refine MP Z<|MI Z<|Q (zbm (v1:=Pp _ _) (v2:=.int .i64 _) (v3:=.int .i64 _) zcW Z Z Z Z ((zbo _ _ _ _ _ _ _ e p _ _ _ (V.hL _ Q0)).mono fun v w hp=>?_))
      obtain ⟨rfl,hp⟩:=hp
      replace V:=V.call1 hp
      refine Q (SO (v:=gUU _ _) V zcx Z Z .u2 fun w V=>?_)
      refine AB Z<|G<|zah func93 Z (zak (vs:=lUU _ _) Z zcx Z Z (zab (n:=2) (V.objL Q2) _ Z)) (TP (v:=.bool _) Z) ?_
      replace V:=V.pick (.k1 .nil)
      refine .inl ⟨(24,(l.getD 2 zaL).at_),(by rw [zih hd11 (Nn g1) (by omega),if_neg (fun q=>q hd27),if_neg (fun q=>q he27),if_neg (by omega),if_neg (fun q=>q hd53),if_neg (fun q=>q he53),if_pos (by omega)]),(show (24:Int) ≠ 0 by decide),rfl,_,V.noD⟩
     refine SR<|MP Z<|Q (zav (v1:=Pp _ _) zp3 Z Z ((zeF _ _ _ _ _ 3 _ _ _ _ (V.hL _ Q0)).mono fun v w hp=>?_))
     obtain ⟨rfl,hp⟩:=hp
     replace V:=V.call1 hp
     refine AB Z<|G<|zal [(0,Pp _ _),(2,Pp _ _),(6,.int .u32 _),(8,.int .u32 _),(71,.bool _)] E5 fun f=>zaa Z (fun g12=>?_) (fun g12=>?_)
     ·refine SQ ?_
      apply RunD.start [(13,Res.row bq 130 _,Res.emp)] V (bs:=[0,0,0,4,12,28,0,64,192,448,1020,2044,4092,8190,16383,32767]) (ds:=[some 74,some 75,some 76,some 77,some 78,some 79,some 80,some 81,some 82,some 83,some 84,some 85,some 86,some 87,none,some 3]) (htab:=⟨Kr,Kr,Kr⟩)
      intro tab13
      refine DO tab13 1 (fun _ _ _ hc=>zaf zcx zfg .nil hc.z) ?_
      refine DO tab13 2 (fun _ _ _ hc=>zad (v:=Pp _ _) (hc.old Z Z Z) hc.z)<|DO tab13 3 (fun _ _ _ hc=>zad (v:=Pp _ _) (hc.old Z Z Z) hc.z)<|DO tab13 4 (fun _ _ _ hc=>zaF (hc.d 2 Z Z Z Z) hc.z)<|DO tab13 5 (fun _ _ _ hc=>zac zds (hc.d 3 Z Z Z Z) hc.z)<|zeb (det _) tab13 6 (fun f' L' w' hc hlate=>zae (v:=.slice _ _ _) ziU Z (hc.d 4 Z Z Z Z) (hc.st.cellL (Al (hlate _ _ _ Q0 Z)) Z) hc.z)<|DO tab13 7 (fun _ _ _ hc=>zad (v:=Pp _ _) (hc.old Z Z Z) hc.z)<|DO tab13 8 (fun _ _ _ hc=>zaF (hc.d 6 Z Z Z Z) hc.z)<|DO tab13 9 (fun _ _ _ hc=>zac zcs (hc.d 7 Z Z Z Z) hc.z)<|zeb (det _) tab13 10 (fun f' L' w' hc hlate=>zae (v:=.int .i64 _) ty3 Z (hc.d 8 Z Z Z Z) (hc.st.cellL (Al (hlate _ _ _ Q0 Z)) Z) hc.z)<|DO tab13 11 (fun _ _ _ hc=>zbb ziU zbO (hc.d 5 Z Z Z Z) (hc.d 9 Z Z Z Z) O O hc.z)<|DO tab13 12 (fun _ _ _ hc=>zac zcD (hc.d 10 Z Z Z Z) hc.z)<|DO tab13 13 (fun _ _ _ hc=>zae (v:=.int .i64 _) ty3 Z (hc.d 11 Z Z Z Z) (Res.sl_cell (hc.st.hD _ Q0) (zct (g:=zmj) (d:=zaL) zdX Z O)) hc.z)<|zcS (fun g v rs=>v = .bool false ∧ rs = [AR 130 bq s (some ⟨bs3,0,none⟩) cp l (((3:Nat):Int):Int) Y 70 ((l.getD 3 zaL).at_)]) tab13 14 Q0 (fun f' L' L'' w' hc ⟨X,hrem,hX⟩=>zbm (v1:=Pp _ _) (v2:=.int .i64 _) (v3:=.int .i64 _) zcW Z (hc.d 1 Z Z Z Z) Z (hc.d 12 Z Z Z Z) ((zbo bq s _ cp l (3) Y e p 70 ((l.getD 3 zaL).at_) _ (hc.st.hL _ hrem.mem2)).mono fun v w hp=>⟨[_],fun g hg=>⟨hp.1,Z⟩,hX _ _ (St.callRem hc.st hrem hp.2)⟩))<|RunD.fin zaB tab13 V Z (fun f14 w R17 hs15 hd16 hr18 V=>?_)
      obtain ⟨h74_,r0⟩:=hd16 0 74 rfl rfl
      obtain ⟨h75_,r1⟩:=hd16 1 75 rfl rfl
      obtain ⟨h76_,r2⟩:=hd16 2 76 rfl rfl
      obtain ⟨h77_,r3⟩:=hd16 3 77 rfl rfl
      obtain ⟨h78_,r4⟩:=hd16 4 78 rfl rfl
      obtain ⟨h79_,r5⟩:=hd16 5 79 rfl rfl
      obtain ⟨h80_,r6⟩:=hd16 6 80 rfl rfl
      obtain ⟨h81_,r7⟩:=hd16 7 81 rfl rfl
      obtain ⟨h82_,r8⟩:=hd16 8 82 rfl rfl
      obtain ⟨h83_,r9⟩:=hd16 9 83 rfl rfl
      obtain ⟨h84_,r10⟩:=hd16 10 84 rfl rfl
      obtain ⟨h85_,r11⟩:=hd16 11 85 rfl rfl
      obtain ⟨h86_,r12⟩:=hd16 12 86 rfl rfl
      obtain ⟨h87_,r13⟩:=hd16 13 87 rfl rfl
      simp only [rg14,Fc,Fn,Mc,Mn,r0,r1,r2,r3,r4,r5,r6,r7,r8,r9,r10,r11,r12,r13,Na,An,Ca] at V
      refine zaH (sl:=[(2,Pp _ _),(74,gUU _ _),(87,.bool _)]) ⟨(hs15 2 Z).trans Z,h74_,h87_,trivial⟩ ?_
      clear hs15 hd16 hr18 tab13
      refine Q (SO (v:=gUU _ _) V zcx Z Z .u3 fun w V=>?_)
      refine AB Z<|G<|zah func93 Z (zak (vs:=lUU _ _) Z zcx Z Z (zab (n:=2) (V.objL Q3) _ Z)) (TP (v:=.bool _) Z) ?_
      replace V:=V.pick (.k1 .nil)
      refine .inl ⟨(70,(l.getD 3 zaL).at_),(by rw [zih hd11 (Nn g1) (by omega),if_neg (fun q=>q hd27),if_neg (fun q=>q he27),if_neg (by omega),if_neg (fun q=>q hd53),if_neg (fun q=>q he53),if_neg (by omega),if_pos (by omega)]),(show (70:Int) ≠ 0 by decide),rfl,_,V.noD⟩
     refine zaj<|zan<|SR<|MU Z<|MU Z<|Q (zaf zcx zfg (.c (v:=.int .u32 _) Z (h:=(.c (v:=.int .u32 _) Z (h:=.nil)))) ?_)
     refine Q (SO (v:=gUU _ _) V zcx Z Z .u2 fun w V=>?_)
     refine AB Z<|G<|zah func93 Z (zak (vs:=lUU _ _) Z zcx Z Z (zab (n:=2) (V.objL Q2) _ Z)) (TP (v:=.bool _) Z) ?_
     replace V:=V.pick (.k1 .nil)
     refine .inr ⟨_,_,(by rw [zih hd11 (Nn g1) (by omega),if_neg (fun q=>q hd27),if_neg (fun q=>q he27),if_neg (by omega),if_neg (fun q=>q hd53),if_neg (fun q=>q he53),if_neg (by omega),if_neg (by omega)]),rfl,_,V.noD⟩
   refine zaj<|SR<|MP Z<|Q (zav (v1:=Pp _ _) zmT Z Z ((zee _ _ _ _ l 2 _ _ _ _ (V.hL _ Q0) (V.hD _ Q0) (V.sepD _ Q0 _ Q0) hl hll hts (V.hD _ Q1) (V.sepD _ Q0 _ Q1)).mono fun v w hp=>?_))
   rcases hp with ⟨hk53,rfl,hp⟩ | ⟨hk53,hd53,rfl,hp⟩ | ⟨hk53,hd53,he53,rfl,hp⟩ | ⟨hk53,hd53,he53,rfl,hp⟩
   ·replace V := V.call1 hp
    refine Q<|zad (v:=.tuple #[.int .u32 _,.bool _]) Z<|Q<|Ex (.int .u32 _) Z Z<|Q<|Ex (.bool _) Z Z<|AU Z<|AB Z<|G<|SQ<|zau<|SR<|MB Z<|Q<|zaT Z<|AB Z<|G<|zal [(0,Pp _ _),(2,Pp _ _),(6,.int .u32 _),(7,.int .i64 _),(8,.int .u32 _),(56,.bool _)] E6 (fun f=>?_)
    refine zat (Vb (congrArg not (Z:false = _)))<|SR<|Q (zaf zcx zfg .nil ?_)
    refine Q (SO (v:=gUU _ _) V zcx Z Z .u2 fun w V=>?_)
    refine AB Z<|G<|zah func93 Z (zak (vs:=lUU _ _) Z zcx Z Z (zab (n:=2) (V.objL Q2) _ Z)) (TP (v:=.bool _) Z) ?_
    replace V:=V.pick (.k1 .nil)
    refine .inl ⟨(72,s.length),(by rw [zih hd11 (Nn g1) (by omega),if_neg (fun q=>q hd27),if_neg (fun q=>q he27),if_pos (by omega)]),(show (72:Int) ≠ 0 by decide),rfl,_,V.noD⟩
   ·exfalso; omega
   ·exfalso; omega
   ·exfalso; omega
theorem zkW (s:Tx) (Y:Int) (w:World) (hG:LxG.holds w) (hl:s.length ≤ 1099511627776):Ret prog 72 #[str s,.int .u32 Y] w (fun v w'=>∃ bq ao cp,v = .tuple #[.pointer (some ⟨bq,0,none⟩),.agg #[.int .i64 (zbf s).2.1,.int .i64 (zbf s).2.2]] ∧ St w NoM [Res.row bq 130 [str s,.slice ao (zbf s).1.length cp,.int .i64 ((0:Nat):Int),.int .u32 Y,.int .i64 0,.int .i64 0],Res.sl ao (zbf s).1.length cp 72 3 ((zbf s).1.flatMap zmj)] [] w'):=by
 refine zax (args:=[str s,.int .u32 Y]) func72 Z Z Z ?_
 have V:St w NoM [] [LxG] w:=St.init_Ds (by simp only [List.forall_mem_cons]; exact ⟨hG,fun _ h=>absurd h List.not_mem_nil⟩)
 refine SR<|Q<|zao (v:=_) Z<|Q<|zaw V zbr fun w b5 V=>NSR<|MS Z<|Q (zav (v1:=str _) ent38 Z Z ((zgP s _ (V.hD _ Q0) hl).mono fun v w hp=>?_))
 obtain ⟨ao,cp,rfl,hp⟩:=hp
 replace V:=V.call0 hp
 refine Q<|zad (v:=.tuple #[.slice _ _ _,gII _ _]) Z<|Q<|Ex (.slice _ _ _) Z Z<|Q<|Ex (gII _ _) Z Z<|Q<|zaw V zbr fun w b7 V=>AL Z<|Q (SO (v:=gII _ _) V zbr Z Z .u0 fun w V=>?_)
 refine G<|SQ<|RunD.start [] V (bs:=[0,0,0,7,15,0,31,127]) (ds:=[some 13,some 14,some 15,some 16,some 17,some 18,some 4,none]) ⟨Kr,Kr,Kr⟩ (fun tab1=>?_)
 refine DO tab1 1 (fun _ _ _ hc=>zad (v:=str _) (hc.old Z Z Z) hc.z)<|DO tab1 2 (fun _ _ _ hc=>zad (v:=.slice _ _ _) (hc.old Z Z Z) hc.z)<|DO tab1 3 (fun _ _ _ hc=>zad (v:=.int .u32 _) (hc.old Z Z Z) hc.z)<|DO tab1 4 (fun _ _ _ hc=>zaf ty130 stf130 (.c (v:=str _) (hc.d 0 Z Z Z Z) (h:=(.c (v:=.slice _ _ _) (hc.d 1 Z Z Z Z) (h:=(.c (v:=.int .u32 _) (hc.d 2 Z Z Z Z) (h:=.nil)))))) hc.z) ?_
 refine RunD.op (fun v rs=>∃ b,v = .pointer (some ⟨b,0,none⟩) ∧ rs = [Res.row b 130 [str s,.slice ao (zbf s).1.length cp,.int .i64 ((0:Nat):Int),.int .u32 Y,.int .i64 0,.int .i64 0]]) tab1 5 (fun _ _ _ hc=>zbn (vs:=[str s,.slice ao (zbf s).1.length cp,.int .i64 ((0:Nat):Int),.int .u32 Y,.int .i64 0,.int .i64 0]) hc.st (hc.d 3 Z Z Z Z) Z fun w b V=>⟨[_],⟨b,Z,Z⟩,V⟩)<|DO tab1 6 (fun _ _ _ hc=>zaC (vs:=lII _ _) zbr Z (hc.old (v:=Pp _ _) Z Z Z) Z (zab (n:=2) (hc.st.objL (Ar Q0)) _ Z) hc.z)<|zjy (fun g v rs=>v = g 17 ∧ rs = []) tab1 7 (fun f' L' w' hc=> zao (v:=f' 17) (evs Z Z) ⟨[],fun g hg=>⟨(hg 4 17 Z Z).symm,Z⟩,hc.st⟩)<|RunD.fin zaB tab1 V Z (fun f2 w R5 hs3 hd4 hr6 V=>?_)
 obtain ⟨h13_,r0⟩:=hd4 0 13 rfl rfl
 obtain ⟨h14_,r1⟩:=hd4 1 14 rfl rfl
 obtain ⟨h15_,r2⟩:=hd4 2 15 rfl rfl
 obtain ⟨h16_,r3⟩:=hd4 3 16 rfl rfl
 obtain ⟨b17,h17_,r4⟩:=hd4 4 17 rfl rfl
 obtain ⟨h18_,r5⟩:=hd4 5 18 rfl rfl
 obtain ⟨h4_,r6⟩:=hd4 6 4 rfl rfl
 rw [DrawTab.mask tab1 _ (j:=6) (l:=4) (t:=17) rfl rfl,h17_] at h4_
 simp only [rg7,Fc,Fn,Mc,Mn,r0,r1,r2,r3,r4,r5,r6,Na,An,Ca] at V
 refine zaH (sl:=[(4,Pp _ _),(5,Pp _ _),(18,gII _ _)]) ⟨h4_,(hs3 5 Z).trans Z,h18_,trivial⟩ ?_
 clear hs3 hd4 hr6 tab1
 refine Q (SO (v:=gII _ _) V zbr Z Z .u3 fun w V=>?_)
 refine G<|zah func72 Z (TP (v:=Pp _ _) Z) (zak (vs:=lII _ _) Z zbr Z Z (zab (n:=2) (V.objL Q3) _ Z)) ?_
 replace V:=V.pick (.k1 (.c .u1 .nil))
 exact ⟨_,_,_,Z,V.noD⟩
theorem zkY (s:Tx) (w:World) (hG:LxG.holds w) (hl:s.length ≤ 1099511627776):Ret prog 44 #[str s] w (fun v w'=>v = .tuple #[.agg #[.int .u32 (zch s).1.1,.int .u32 (zch s).1.2],.agg #[.int .i64 (zch s).2.1,.int .i64 (zch s).2.2]] ∧ St w NoM [] [] w'):=by
 refine zax (args:=[str s]) func44 Z Z Z ?_
 have V:St w NoM [] [LxG] w:=St.init_Ds (by simp only [List.forall_mem_cons]; exact ⟨hG,fun _ h=>absurd h List.not_mem_nil⟩)
 refine SR<|Q<|zaw V zcx fun w b2 V=>Q<|zaw V zbr fun w b3 V=>NSR<|MS Z<|Q (zaK (v1:=str _) (v2:=.int .u32 _) ent72 Z Z Z ((zkW s 0 _ (V.hD _ Q0) hl).mono fun v w hp=>?_))
 obtain ⟨bq,ao,cp,rfl,hp⟩:=hp
 replace V:=V.call0 hp
 refine Q<|zad (v:=.tuple #[Pp _ _,gII _ _]) Z<|Q<|Ex (Pp _ _) Z Z<|Q<|Ex (gII _ _) Z Z<|Q<|zaw V zbr fun w b5 V=>AP Z<|Q (SO (v:=gII _ _) V zbr Z Z .u0 fun w V=>?_)
 refine G<|SQ<|SR<|Q<|zac zco Z<|Q<|zae (v:=.int .i64 _) zhj Z Z (V.cellL Q0 Z)<|Q<|za8 Z Z<|G<|zaa Z (fun g1=>?_) (fun g1=>?_)
 ·refine SQ ?_
  replace V:=V.pick (.c .u4 (.k4 .nil))
  apply RunD.start [(2,Res.row b2 81 _,Res.row b2 81 _)] V (bs:=[0,0,1,7]) (ds:=[some 16,some 17,none,none]) (htab:=⟨Kr,Kr,Kr⟩)
  intro tab2
  refine DO tab2 1 (fun _ _ _ hc=>zaf zcx zfg .nil hc.z) ?_
  refine DO tab2 2 (fun _ _ _ hc=>zaC (vs:=lII _ _) zbr Z (hc.old (v:=Pp _ _) Z Z Z) Z (zab (n:=2) (hc.st.objL (Ar Q0)) _ Z) hc.z)<|zck tab2 3 Q0 (fun f' L' L2 w' hc hsel=>zbI (v:=gUU _ _) hc.st zcx (hc.old (v:=Pp _ _) Z Z Z) (hc.d 0 Z Z Z Z) Z Z Z hsel (by repeat (first | exact Put.nil | apply Put.put | apply Put.skip)) fun w V=>⟨Z,V⟩) ?_
  refine RunD.fin zaB tab2 V Z (fun f3 w R6 hs4 hd5 hr7 V=>?_)
  obtain ⟨h16_,r0⟩:=hd5 0 16 rfl rfl
  obtain ⟨h17_,r1⟩:=hd5 1 17 rfl rfl
  obtain ⟨_,_,r2⟩:=hr7 2 rfl
  simp only [rg3,Fc,Fn,Mc,Mn,r0,r1,r2,Na,An,Ca] at V
  refine zaH (sl:=[(2,Pp _ _),(3,Pp _ _),(17,gII _ _)]) ⟨(hs4 2 Z).trans Z,(hs4 3 Z).trans Z,h17_,trivial⟩ ?_
  clear hs4 hd5 hr7 tab2
  refine Q (SO (v:=gII _ _) V zbr Z Z .u4 fun w V=>?_)
  refine G<|zah func44 Z (zak (vs:=lUU _ _) Z zcx Z Z (zab (n:=2) (V.objL Q0) _ Z)) (zak (vs:=lII _ _) Z zbr Z Z (zab (n:=2) (V.objL Q4) _ Z)) ?_
  have he:zch s = ((0,0),(zbf s).2):=if_pos g1
  rw [he]
  exact ⟨Z,V.pure⟩
 refine zaj<|SQ ?_
 replace V:=V.pick (.k2 (.c .u1 (.c .u1 (.k1 .nil))))
 replace V:=V.toD (L1:=[_,_,_,_]) (L2:=[_])
 refine RG<|MP Z ?_
 replace V:=V.pick (.c .u1 (.k3 .nil))
 refine Q (zav (v1:=Pp _ _) ent93 Z Z ((zqG _ s _ _ (zbf s).1 _ _ _ _ (V.hL _ Q0) (V.hD _ Q0) (V.sepD _ Q0 _ Q0) hl (zjL s) (zjK s) (V.hD _ Q1) (V.sepD _ Q0 _ Q1)).mono fun v w hp=>?_))
 rcases hp with ⟨q,hq,hq0,rfl,a2,hp⟩ | ⟨gn,bd,hq,rfl,a2,hp⟩
 ·replace V := V.call1 hp
  refine Q<|zad (v:=.tuple #[gUU _ _,.bool _]) Z<|Q<|Ex (gUU _ _) Z Z<|Q<|Ex (.bool _) Z Z<|Q<|zaw V zcx fun w b6 V=>Q (SO (v:=gUU _ _) V zcx Z Z .u0 fun w V=>?_)
  refine AB Z<|G<|zal [(2,Pp _ _),(3,Pp _ _),(4,Pp _ _),(6,Pp _ _),(7,.bool _)] E5 fun f=>SQ<|SR<|MB Z<|Q<|zaT Z<|G<|zat (Vb (congrArg not (Z:false = _)))<|SQ ?_
  replace V:=V.pick (.c .u4 (.k4 .nil))
  apply RunD.start [(5,Res.row b2 81 _,Res.row b2 81 _)] V (bs:=[0,0,2,6,14,1,63]) (ds:=[some 25,some 26,some 27,some 28,some 29,none,none]) (htab:=⟨Kr,Kr,Kr⟩)
  intro tab8
  refine DO tab8 1 (fun _ _ _ hc=>zaf zcx zfg .nil hc.z) ?_
  refine DO tab8 2 (fun _ _ _ hc=>zad (v:=Pp _ _) (hc.old Z Z Z) hc.z)<|DO tab8 3 (fun _ _ _ hc=>zaF (hc.d 1 Z Z Z Z) hc.z)<|DO tab8 4 (fun _ _ _ hc=>zac zjl (hc.d 2 Z Z Z Z) hc.z)<|DO tab8 5 (fun _ _ _ hc=>zaC (vs:=lII _ _) zbr Z (hc.d 3 Z Z Z Z) Z (zab (n:=2) (hc.st.objL (Ar Q1)) _ Z) hc.z)<|zck tab8 6 Q0 (fun f' L' L2 w' hc hsel=>zbI (v:=gUU _ _) hc.st zcx (hc.old (v:=Pp _ _) Z Z Z) (hc.d 0 Z Z Z Z) Z Z Z hsel (by repeat (first | exact Put.nil | apply Put.put | apply Put.skip)) fun w V=>⟨Z,V⟩) ?_
  refine RunD.fin zaB tab8 V Z (fun f9 w R12 hs10 hd11 hr13 V=>?_)
  obtain ⟨h25_,r0⟩:=hd11 0 25 rfl rfl
  obtain ⟨h26_,r1⟩:=hd11 1 26 rfl rfl
  obtain ⟨h27_,r2⟩:=hd11 2 27 rfl rfl
  obtain ⟨h28_,r3⟩:=hd11 3 28 rfl rfl
  obtain ⟨h29_,r4⟩:=hd11 4 29 rfl rfl
  obtain ⟨_,_,r5⟩:=hr13 5 rfl
  simp only [rg6,Fc,Fn,Mc,Mn,r0,r1,r2,r3,r4,r5,Na,An,Ca] at V
  refine zaH (sl:=[(2,Pp _ _),(3,Pp _ _),(29,gII _ _)]) ⟨(hs10 2 Z).trans Z,(hs10 3 Z).trans Z,h29_,trivial⟩ ?_
  clear hs10 hd11 hr13 tab8
  refine Q (SO (v:=gII _ _) V zbr Z Z .u4 fun w V=>?_)
  refine G<|zah func44 Z (zak (vs:=lUU _ _) Z zcx Z Z (zab (n:=2) (V.objL Q0) _ Z)) (zak (vs:=lII _ _) Z zbr Z Z (zab (n:=2) (V.objL Q4) _ Z)) ?_
  have he:zch s = zdR s.length (zbf s).1:=if_neg g1
  rw [he,hq]
  exact ⟨Z,V.pure⟩
 ·replace V := V.call1 hp
  refine Q<|zad (v:=.tuple #[gUU _ _,.bool _]) Z<|Q<|Ex (gUU _ _) Z Z<|Q<|Ex (.bool _) Z Z<|Q<|zaw V zcx fun w b6 V=>Q (SO (v:=gUU _ _) V zcx Z Z .u0 fun w V=>?_)
  refine AB Z<|G<|zal [(2,Pp _ _),(3,Pp _ _),(4,Pp _ _),(6,Pp _ _),(7,.bool _)] E5 fun f=>SQ<|SR<|MB Z<|Q<|zaT Z<|G<|zas (Vb (congrArg not (Z:true = _)))<|zaj<|SR<|Q<|zaC (vs:=lUU _ _) zcx Z Z Z (zab (n:=2) (V.objL Q0) _ Z)<|Q (zaf zbr zc7 .nil ?_)
  refine Q (SO (v:=gUU _ _) V zcx Z Z .u4 fun w V=>?_)
  refine Q (SO (v:=gII _ _) V zbr Z Z .u3 fun w V=>?_)
  refine G<|zah func44 Z (zak (vs:=lUU _ _) Z zcx Z Z (zab (n:=2) (V.objL Q4) _ Z)) (zak (vs:=lII _ _) Z zbr Z Z (zab (n:=2) (V.objL Q3) _ Z)) ?_
  have he:zch s = zdR s.length (zbf s).1:=if_neg g1
  rw [he,hq]
  exact ⟨Z,V.pure⟩
theorem ziP (bq:Nat) (s:Tx) (ao:Option Addr) (cp:Nat) (l:List TokL) (a:Nat) (Y e p:Int) (t:Tx) (m:Nat) (ht:za6 t = some m) (w:World) (hB:(AR 130 bq s ao cp l (a:Int) Y e p).holds w) (hbd:0 ≤ Y ∧ Y < 4294967296):Ret prog 129 #[.pointer (some ⟨bq,0,none⟩),str t] w (fun v w'=>v = .int .u32 (idL t Y) ∧ St w (AR 130 bq s ao cp l (a:Int) Y e p).foot [AR 130 bq s ao cp l (a:Int) Y e p] [] w'):=by
 refine zax (args:=[.pointer (some ⟨bq,0,none⟩),str t]) func129 Z Z Z ?_
 have V:St w (AR 130 bq s ao cp l (a:Int) Y e p).foot [AR 130 bq s ao cp l (a:Int) Y e p] [] w:=St.enter1 hB (fun d hd=>by cases hd) (fun d hd=>by cases hd)
 refine SR<|AU Z<|NSR<|Q<|zao (v:=.int .u64 _) Z<|G<|SQ<|SR<|MS Z<|Q<|zaX (rest:=[]) ty9 Z<|MI Z<|G ?_
 refine zau<|zba<|za7 [(0,Pp _ _),(1,str _),(8,.int .i64 _)] E3 (fun (qq:Nat × Nat)=>[(5,.int .u64 (qq.2:Int)),(9,.int .i64 (qq.1:Int))]) (fun (qq:Nat × Nat)=>[]) (fun (qq:Nat × Nat)=>dgI t m qq.1 qq.2) (fun (qq:Nat × Nat)=>t.length - qq.1) ((0,0)) V (zp9 ht) E2 ?_
 intro ⟨i,n⟩ f w V hJ ih1
 replace V:St _ _ ([] ++ [_]) _ _:=V
 replace hJ:dgI t m i n:=hJ
 refine zbj (sl:=[(5,.int .u64 (n:Int)),(9,.int .i64 (i:Int))]) E2 ?_
 have hj1:=hJ.le
 have hj2:=hJ.lt
 have hj3:=hJ.small
 have hj5:=hJ.len
 refine SR<|Q<|zaY Z Z<|G<|SQ<|zaa Z (fun g2=>?_) (fun g2=>?_)
 ·have hb := zr4 hJ O
  have hbn:=zr3 hJ O
  have hidx:(t.getD ((i:Int).toNat) 0).toNat = (t.getD i 0).toNat:=rfl
  refine zaj<|SQ<|zau<|SR<|MI Z<|AI Z<|NR<|Q<|zad (v:=.int .u64 _) Z<|Q<|zcw Z Z Z zfx<|MS Z<|MI Z<|Q<|zaZ ty9 Z Z O O<|Q (zbV Z Z Z Wu8 ?_)
  first | refine Q (zaW ty5 zbX rfl zfx ?_) | refine Q (za4 ty5 zbX rfl ?_)
  refine Q<|zaD Z Z Z zfx<|Q<|zao (v:=.int .u64 _) Z<|G<|zan<|RG<|Q<|zaD Z Z Z zbS<|MI Z<|G<|zaG ?_
  exact ih1 ((i + 1,10 * n + ((t.getD i 0).toNat - 48))) _ w (Od) V ((zm0 hJ O)) E3 ⟨(congrArg (Value.int .u64) Od),(Vi Od),trivial⟩
 refine zaU (id:=0) Z<|SQ<|SR<|Q<|zad (v:=.int .u64 _) Z<|MP Z<|Q<|zaF Z<|Q<|zac zmO Z<|Q (zae (v:=.int .u32 _) zbM Z Z (V.cellL Q0 Z) ?_)
 first | refine Q (zaW zbM zbX rfl zfx ?_) | refine Q (za4 zbM zbX rfl ?_)
 refine Q<|zbh Z Z<|G<|zaa Z (fun g3=>?_) (fun g3=>?_)
 ·refine SR <| AU Z <| G <| zag func129 Z (TP (v := .int .u32 _) Z) ?_
  have hi:t.length ≤ i:=by omega
  rw [ztR hJ hi g3]
  exact ⟨Z,V⟩
 refine zaj<|SR<|Q (zad (v:=.int .u64 _) Z ?_)
 first | refine Q (zaW zbX zbM rfl zqU ?_) | refine Q (za4 zbX zbM rfl ?_)
 refine AU Z<|G<|zag func129 Z (TP (v:=.int .u32 _) Z) ?_
 have hi:t.length ≤ i:=by omega
 rw [dgI_ok hJ hi g3]
 exact ⟨Z,V⟩
theorem zqF (bq:Nat) (s:Tx) (ao:Option Addr) (cp:Nat) (l:List TokL) (a:Nat) (Y e p:Int) (w:World) (hB:(AR 130 bq s ao cp l (a:Int) Y e p).holds w) (hT:(AT 72 ao cp l).holds w) (hTA:Apart (AR 130 bq s ao cp l (a:Int) Y e p) (AT 72 ao cp l)) (hl:s.length ≤ 1099511627776) (hll:l.length ≤ s.length) (hts:wsz l ≤ 7 * s.length) (hbd:0 ≤ Y ∧ Y < 4294967296) (hpl:∀ i,i < l.length → (l.getD i zaL).kind = 2 → ∃ m,za6 (l.getD i zaL).text = some m):Ret prog 130 #[.pointer (some ⟨bq,0,none⟩)] w (fun v w'=>(l.length ≤ a ∧ v = .tuple #[.int .u32 0,.bool false] ∧ St w (AR 130 bq s ao cp l (a:Int) Y e p).foot [AR 130 bq s ao cp l (a:Int) Y 72 (s.length)] [] w') ∨ (a < l.length ∧ (l.getD a zaL).kind ≠ 2 ∧ v = .tuple #[.int .u32 0,.bool false] ∧ St w (AR 130 bq s ao cp l (a:Int) Y e p).foot [AR 130 bq s ao cp l (a:Int) Y 70 ((l.getD a zaL).at_)] [] w') ∨ (a < l.length ∧ (l.getD a zaL).kind = 2 ∧ idL (l.getD a zaL).text Y = 0 ∧ v = .tuple #[.int .u32 0,.bool false] ∧ St w (AR 130 bq s ao cp l (a:Int) Y e p).foot [AR 130 bq s ao cp l (a + 1:Int) Y 43 ((l.getD a zaL).at_)] [] w') ∨ (a < l.length ∧ (l.getD a zaL).kind = 2 ∧ idL (l.getD a zaL).text Y ≠ 0 ∧ v = .tuple #[.int .u32 (idL (l.getD a zaL).text Y),.bool true] ∧ St w (AR 130 bq s ao cp l (a:Int) Y e p).foot [AR 130 bq s ao cp l (a + 1:Int) Y e p] [] w')):=by
 refine zax (args:=[.pointer (some ⟨bq,0,none⟩)]) func130 Z Z Z ?_
 have V:St w (AR 130 bq s ao cp l (a:Int) Y e p).foot [AR 130 bq s ao cp l (a:Int) Y e p] [AT 72 ao cp l] w:=St.enter1 hB (by simp only [List.forall_mem_cons]; exact ⟨hT,fun _ h=>absurd h List.not_mem_nil⟩) (by simp only [List.forall_mem_cons]; exact ⟨hTA,fun _ h=>absurd h List.not_mem_nil⟩)
 refine SR<|AU Z<|AB Z<|NSR<|MP Z<|Q (zaK (v1:=Pp _ _) (v2:=.int .u8 _) zhS Z Z Z ((zdf _ _ _ _ l a _ _ _ 2 _ (V.hL _ Q0) (V.hD _ Q0) (V.sepD _ Q0 _ Q0) hl hll hts).mono fun v w hp=>?_))
 rcases hp with ⟨hk9,rfl,hp⟩ | ⟨hk9,hd9,rfl,hp⟩ | ⟨hk9,hd9,rfl,hp⟩
 ·replace V := V.call1 hp
  refine Q<|zad (v:=.tuple #[zb2 _ _ _,.bool _]) Z<|Q<|Ex (zb2 _ _ _) Z Z<|Q<|Ex (.bool _) Z Z<|Q<|zaw V zbO fun w b4 V=>Q (SO (v:=zb2 _ _ _) V zbO Z Z .u0 fun w V=>?_)
  refine AB Z<|G<|SQ<|SR<|MB Z<|Q<|zaT Z<|G<|zat (Vb (congrArg not (Z:false = _)))<|SR<|AU Z<|AB Z<|G<|zah func130 Z (TP (v:=.int .u32 _) Z) (TP (v:=.bool _) Z) ?_
  replace V:=V.pick (.c .u1 .nil)
  exact .inl ⟨hk9,Z,V.noD⟩
 ·replace V := V.call1 hp
  refine Q<|zad (v:=.tuple #[zb2 _ _ _,.bool _]) Z<|Q<|Ex (zb2 _ _ _) Z Z<|Q<|Ex (.bool _) Z Z<|Q<|zaw V zbO fun w b4 V=>Q (SO (v:=zb2 _ _ _) V zbO Z Z .u0 fun w V=>?_)
  refine AB Z<|G<|SQ<|SR<|MB Z<|Q<|zaT Z<|G<|zat (Vb (congrArg not (Z:false = _)))<|SR<|AU Z<|AB Z<|G<|zah func130 Z (TP (v:=.int .u32 _) Z) (TP (v:=.bool _) Z) ?_
  replace V:=V.pick (.c .u1 .nil)
  exact .inr (.inl ⟨hk9,hd9,Z,V.noD⟩)
 ·replace V := V.call1 hp
  refine Q<|zad (v:=.tuple #[zb2 _ _ _,.bool _]) Z<|Q<|Ex (zb2 _ _ _) Z Z<|Q<|Ex (.bool _) Z Z<|Q<|zaw V zbO fun w b4 V=>Q (SO (v:=zb2 _ _ _) V zbO Z Z .u0 fun w V=>?_)
  refine AB Z<|G<|SQ<|SR<|MB Z<|Q<|zaT Z<|G<|zas (Vb (congrArg not (Z:true = _)))<|zaj<|SR<|MP Z<|Q<|zac zdb Z<|Q (zae (v:=str _) ty9 Z Z (V.cellL Q0 Z) ?_)
  obtain ⟨m,hm⟩:=hpl a hk9 hd9
  replace V:=V.pick (.c .u1 (.k1 .nil))
  refine Q (zaK (v1:=Pp _ _) (v2:=str _) zsX Z Z Z ((ziP _ _ _ _ _ _ _ _ _ _ m hm _ (V.hL _ Q0) hbd).mono fun v w hp=>?_))
  obtain ⟨rfl,hp⟩:=hp
  replace V:=V.call1 hp
  refine AU Z<|G<|SQ<|SR<|MU Z<|Q<|zai Z Z<|G<|zaa Z (fun g1=>?_) (fun g1=>?_)
  ·refine SR <| MP Z <| Q <| zac zcD Z <| Q <| zae (v := .int .i64 _) ty3 Z Z (V.cellL Q1 Z) <| Q (zbm (v1 := Pp _ _) (v2 := .int .i64 _) (v3 := .int .i64 _) zcW Z Z Z Z ((zbo _ _ _ _ _ _ _ e p _ _ _ (V.hL _ Q0)).mono fun v w hp => ?_))
   obtain ⟨rfl,hp⟩:=hp
   replace V:=V.call1 hp
   refine AU Z<|AB Z<|G<|zah func130 Z (TP (v:=.int .u32 _) Z) (TP (v:=.bool _) Z) ?_
   replace V:=V.pick (.k1 .nil)
   exact .inr (.inr (.inl ⟨hk9,hd9,g1,Z,V.noD⟩))
  refine zaj<|SR<|MU Z<|AU Z<|AB Z<|G<|zah func130 Z (TP (v:=.int .u32 _) Z) (TP (v:=.bool _) Z) ?_
  replace V:=V.pick (.k1 .nil)
  exact .inr (.inr (.inr ⟨hk9,hd9,g1,Z,V.noD⟩))
theorem zoo (bq:Nat) (s:Tx) (ao:Option Addr) (cp:Nat) (l:List TokL) (a:Nat) (Y e p:Int) (w:World) (ha:a < l.length) (hB:(AR 130 bq s ao cp l (a:Int) Y e p).holds w) (hT:(AT 72 ao cp l).holds w) (hTA:Apart (AR 130 bq s ao cp l (a:Int) Y e p) (AT 72 ao cp l)) (hl:s.length ≤ 1099511627776) (hll:l.length ≤ s.length) (hts:wsz l ≤ 7 * s.length) (hbd:0 ≤ Y ∧ Y < 4294967296) (hpl:∀ i,i < l.length → (l.getD i zaL).kind = 2 → ∃ m,za6 (l.getD i zaL).text = some m):Ret prog 173 #[.pointer (some ⟨bq,0,none⟩)] w (fun v w'=>(∃ (z1 z2:Int) (z3:Tx) (a':Int),(zbE 105 (l.getD a zaL) Y).2 ≠ 0 ∧ v = .tuple #[.agg #[.int .u8 z1,.int .u32 z2,str z3],.bool false] ∧ St w (AR 130 bq s ao cp l (a:Int) Y e p).foot [Res.row bq 130 [str s,.slice ao l.length cp,.int .i64 (a':Int),.int .u32 Y,.int .i64 (zbE 105 (l.getD a zaL) Y).2,.int .i64 ((l.getD a zaL).at_)]] [] w') ∨ ((zbE 105 (l.getD a zaL) Y).2 = 0 ∧ v = .tuple #[.agg #[.int .u8 (zbE 105 (l.getD a zaL) Y).1.kind,.int .u32 (zbE 105 (l.getD a zaL) Y).1.n,str (zbE 105 (l.getD a zaL) Y).1.s],.bool true] ∧ St w (AR 130 bq s ao cp l (a:Int) Y e p).foot [AR 130 bq s ao cp l (a + 1:Int) Y e p] [] w')):=by
 refine zax (args:=[.pointer (some ⟨bq,0,none⟩)]) func173 Z Z Z ?_
 have V:St w (AR 130 bq s ao cp l (a:Int) Y e p).foot [AR 130 bq s ao cp l (a:Int) Y e p] [AT 72 ao cp l] w:=St.enter1 hB (by simp only [List.forall_mem_cons]; exact ⟨hT,fun _ h=>absurd h List.not_mem_nil⟩) (by simp only [List.forall_mem_cons]; exact ⟨hTA,fun _ h=>absurd h List.not_mem_nil⟩)
 refine SR<|Q<|zaw V zbc fun w b2 V=>AB Z<|NSR<|MP Z ?_
 replace V:=V.pick (.c .u1 (.k1 .nil))
 refine Q (zav (v1:=Pp _ _) zsW Z Z ((zqF _ _ _ _ l a _ _ _ _ (V.hL _ Q0) (V.hD _ Q0) (V.sepD _ Q0 _ Q0) hl hll hts hbd hpl).mono fun v w hp=>?_))
 rcases hp with ⟨hk8,rfl,hp⟩ | ⟨hk8,hd8,rfl,hp⟩ | ⟨hk8,hd8,he8,rfl,hp⟩ | ⟨hk8,hd8,he8,rfl,hp⟩
 ·exfalso; omega
 ·replace V := V.call1 hp
  refine Q<|zad (v:=.tuple #[.int .u32 _,.bool _]) Z<|Q<|Ex (.int .u32 _) Z Z<|Q<|Ex (.bool _) Z Z<|AU Z<|AB Z<|NSR<|MU Z<|Q (zaf zbc zei (.c (v:=.int .u8 _) Z (h:=(.c (v:=.int .u32 _) Z (h:=.nil)))) ?_)
  refine MB Z<|Q (SO (v:=zcp _ _ _) V zbc Z Z .u1 fun w V=>?_)
  refine AB Z<|G<|zah func173 Z (zak (vs:=zcB _ _ _) Z zbc Z Z (zab (n:=3) (V.objL Q1) _ Z)) (TP (v:=.bool _) Z) ?_
  replace V:=V.pick (.k1 .nil)
  rw [zf7 (c:=105) (by decide) (show (l.getD a zaL).kind ≠ zel 105 from hd8)]
  exact .inl ⟨_,_,_,_,(show (70:Int) ≠ 0 by decide),Z,V.noD⟩
 ·replace V := V.call1 hp
  refine Q<|zad (v:=.tuple #[.int .u32 _,.bool _]) Z<|Q<|Ex (.int .u32 _) Z Z<|Q<|Ex (.bool _) Z Z<|AU Z<|AB Z<|NSR<|MU Z<|Q (zaf zbc zei (.c (v:=.int .u8 _) Z (h:=(.c (v:=.int .u32 _) Z (h:=.nil)))) ?_)
  refine MB Z<|Q (SO (v:=zcp _ _ _) V zbc Z Z .u1 fun w V=>?_)
  refine AB Z<|G<|zah func173 Z (zak (vs:=zcB _ _ _) Z zbc Z Z (zab (n:=3) (V.objL Q1) _ Z)) (TP (v:=.bool _) Z) ?_
  replace V:=V.pick (.k1 .nil)
  rw [zsh hd8 he8]
  exact .inl ⟨_,_,_,_,(show (43:Int) ≠ 0 by decide),Z,V.noD⟩
 ·replace V := V.call1 hp
  refine Q<|zad (v:=.tuple #[.int .u32 _,.bool _]) Z<|Q<|Ex (.int .u32 _) Z Z<|Q<|Ex (.bool _) Z Z<|AU Z<|AB Z<|NSR<|MU Z<|Q (zaf zbc zei (.c (v:=.int .u8 _) Z (h:=(.c (v:=.int .u32 _) Z (h:=.nil)))) ?_)
  refine MB Z<|Q (SO (v:=zcp _ _ _) V zbc Z Z .u1 fun w V=>?_)
  refine AB Z<|G<|zah func173 Z (zak (vs:=zcB _ _ _) Z zbc Z Z (zab (n:=3) (V.objL Q1) _ Z)) (TP (v:=.bool _) Z) ?_
  replace V:=V.pick (.k1 .nil)
  rw [ztZ hd8 he8]
  exact .inr ⟨Z,Z,V.noD⟩
theorem zik (bq:Nat) (s:Tx) (ao:Option Addr) (cp:Nat) (l:List TokL) (a:Nat) (Y e p:Int) (w:World) (ha:a < l.length) (hB:(AR 130 bq s ao cp l (a:Int) Y e p).holds w) (hT:(AT 72 ao cp l).holds w) (hTA:Apart (AR 130 bq s ao cp l (a:Int) Y e p) (AT 72 ao cp l)) (hl:s.length ≤ 1099511627776) (hll:l.length ≤ s.length) (hts:wsz l ≤ 7 * s.length) (hG:LxG.holds w) (hGA:Apart (AR 130 bq s ao cp l (a:Int) Y e p) LxG):Ret prog 174 #[.pointer (some ⟨bq,0,none⟩)] w (fun v w'=>(∃ (z1 z2:Int) (z3:Tx) (a':Int),(zbE 110 (l.getD a zaL) Y).2 ≠ 0 ∧ v = .tuple #[.agg #[.int .u8 z1,.int .u32 z2,str z3],.bool false] ∧ St w (AR 130 bq s ao cp l (a:Int) Y e p).foot [Res.row bq 130 [str s,.slice ao l.length cp,.int .i64 (a':Int),.int .u32 Y,.int .i64 (zbE 110 (l.getD a zaL) Y).2,.int .i64 ((l.getD a zaL).at_)]] [] w') ∨ ((zbE 110 (l.getD a zaL) Y).2 = 0 ∧ v = .tuple #[.agg #[.int .u8 (zbE 110 (l.getD a zaL) Y).1.kind,.int .u32 (zbE 110 (l.getD a zaL) Y).1.n,str (zbE 110 (l.getD a zaL) Y).1.s],.bool true] ∧ St w (AR 130 bq s ao cp l (a:Int) Y e p).foot [AR 130 bq s ao cp l (a + 1:Int) Y e p] [] w')):=by
 refine zax (args:=[.pointer (some ⟨bq,0,none⟩)]) func174 Z Z Z ?_
 have V:St w (AR 130 bq s ao cp l (a:Int) Y e p).foot [AR 130 bq s ao cp l (a:Int) Y e p] [AT 72 ao cp l,LxG] w:=St.enter1 hB (by simp only [List.forall_mem_cons]; exact ⟨hT,hG,fun _ h=>absurd h List.not_mem_nil⟩) (by simp only [List.forall_mem_cons]; exact ⟨hTA,hGA,fun _ h=>absurd h List.not_mem_nil⟩)
 refine SR<|Q<|zaw V zbc fun w b2 V=>AB Z<|NSR<|MP Z ?_
 replace V:=V.pick (.c .u1 (.k1 .nil))
 refine Q (zav (v1:=Pp _ _) zmT Z Z ((zee _ _ _ _ l a _ _ _ _ (V.hL _ Q0) (V.hD _ Q0) (V.sepD _ Q0 _ Q0) hl hll hts (V.hD _ Q1) (V.sepD _ Q0 _ Q1)).mono fun v w hp=>?_))
 rcases hp with ⟨hk8,rfl,hp⟩ | ⟨hk8,hd8,rfl,hp⟩ | ⟨hk8,hd8,he8,rfl,hp⟩ | ⟨hk8,hd8,he8,rfl,hp⟩
 ·exfalso; omega
 ·replace V := V.call1 hp
  refine Q<|zad (v:=.tuple #[.int .u32 _,.bool _]) Z<|Q<|Ex (.int .u32 _) Z Z<|Q<|Ex (.bool _) Z Z<|AU Z<|AB Z<|NSR<|MU Z<|Q (zaf zbc zei (.c (v:=.int .u8 _) Z (h:=(.c (v:=.int .u32 _) Z (h:=.nil)))) ?_)
  refine MB Z<|Q (SO (v:=zcp _ _ _) V zbc Z Z .u1 fun w V=>?_)
  refine AB Z<|G<|zah func174 Z (zak (vs:=zcB _ _ _) Z zbc Z Z (zab (n:=3) (V.objL Q1) _ Z)) (TP (v:=.bool _) Z) ?_
  replace V:=V.pick (.k1 .nil)
  rw [zf7 (c:=110) (by decide) (show (l.getD a zaL).kind ≠ zel 110 from hd8)]
  exact .inl ⟨_,_,_,_,(show (70:Int) ≠ 0 by decide),Z,V.noD⟩
 ·replace V := V.call1 hp
  refine Q<|zad (v:=.tuple #[.int .u32 _,.bool _]) Z<|Q<|Ex (.int .u32 _) Z Z<|Q<|Ex (.bool _) Z Z<|AU Z<|AB Z<|NSR<|MU Z<|Q (zaf zbc zei (.c (v:=.int .u8 _) Z (h:=(.c (v:=.int .u32 _) Z (h:=.nil)))) ?_)
  refine MB Z<|Q (SO (v:=zcp _ _ _) V zbc Z Z .u1 fun w V=>?_)
  refine AB Z<|G<|zah func174 Z (zak (vs:=zcB _ _ _) Z zbc Z Z (zab (n:=3) (V.objL Q1) _ Z)) (TP (v:=.bool _) Z) ?_
  replace V:=V.pick (.k1 .nil)
  rw [zql hd8 he8]
  exact .inl ⟨_,_,_,_,he8,Z,V.noD⟩
 ·replace V := V.call1 hp
  refine Q<|zad (v:=.tuple #[.int .u32 _,.bool _]) Z<|Q<|Ex (.int .u32 _) Z Z<|Q<|Ex (.bool _) Z Z<|AU Z<|AB Z<|NSR<|MU Z<|Q (zaf zbc zei (.c (v:=.int .u8 _) Z (h:=(.c (v:=.int .u32 _) Z (h:=.nil)))) ?_)
  refine MB Z<|Q (SO (v:=zcp _ _ _) V zbc Z Z .u1 fun w V=>?_)
  refine AB Z<|G<|zah func174 Z (zak (vs:=zcB _ _ _) Z zbc Z Z (zab (n:=3) (V.objL Q1) _ Z)) (TP (v:=.bool _) Z) ?_
  replace V:=V.pick (.k1 .nil)
  rw [zsg hd8 he8]
  exact .inr ⟨Z,Z,V.noD⟩
theorem zkV (bq:Nat) (s:Tx) (ao:Option Addr) (cp:Nat) (l:List TokL) (a:Nat) (Y e p:Int) (w:World) (ha:a < l.length) (hB:(AR 130 bq s ao cp l (a:Int) Y e p).holds w) (hT:(AT 72 ao cp l).holds w) (hTA:Apart (AR 130 bq s ao cp l (a:Int) Y e p) (AT 72 ao cp l)) (hl:s.length ≤ 1099511627776) (hll:l.length ≤ s.length) (hts:wsz l ≤ 7 * s.length):Ret prog 175 #[.pointer (some ⟨bq,0,none⟩)] w (fun v w'=>(∃ (z1 z2:Int) (z3:Tx) (a':Int),(zbE 115 (l.getD a zaL) Y).2 ≠ 0 ∧ v = .tuple #[.agg #[.int .u8 z1,.int .u32 z2,str z3],.bool false] ∧ St w (AR 130 bq s ao cp l (a:Int) Y e p).foot [Res.row bq 130 [str s,.slice ao l.length cp,.int .i64 (a':Int),.int .u32 Y,.int .i64 (zbE 115 (l.getD a zaL) Y).2,.int .i64 ((l.getD a zaL).at_)]] [] w') ∨ ((zbE 115 (l.getD a zaL) Y).2 = 0 ∧ v = .tuple #[.agg #[.int .u8 (zbE 115 (l.getD a zaL) Y).1.kind,.int .u32 (zbE 115 (l.getD a zaL) Y).1.n,str (zbE 115 (l.getD a zaL) Y).1.s],.bool true] ∧ St w (AR 130 bq s ao cp l (a:Int) Y e p).foot [AR 130 bq s ao cp l (a + 1:Int) Y e p] [] w')):=by
 refine zax (args:=[.pointer (some ⟨bq,0,none⟩)]) func175 Z Z Z ?_
 have V:St w (AR 130 bq s ao cp l (a:Int) Y e p).foot [AR 130 bq s ao cp l (a:Int) Y e p] [AT 72 ao cp l] w:=St.enter1 hB (by simp only [List.forall_mem_cons]; exact ⟨hT,fun _ h=>absurd h List.not_mem_nil⟩) (by simp only [List.forall_mem_cons]; exact ⟨hTA,fun _ h=>absurd h List.not_mem_nil⟩)
 refine SR<|Q<|zaw V zbc fun w b2 V=>AB Z<|NSR<|MP Z ?_
 replace V:=V.pick (.c .u1 (.k1 .nil))
 refine Q (zaK (v1:=Pp _ _) (v2:=.int .u8 _) zhS Z Z Z ((zdf _ _ _ _ l a _ _ _ 4 _ (V.hL _ Q0) (V.hD _ Q0) (V.sepD _ Q0 _ Q0) hl hll hts).mono fun v w hp=>?_))
 rcases hp with ⟨hk9,rfl,hp⟩ | ⟨hk9,hd9,rfl,hp⟩ | ⟨hk9,hd9,rfl,hp⟩
 ·exfalso; omega
 ·replace V := V.call1 hp
  refine Q<|zad (v:=.tuple #[zb2 _ _ _,.bool _]) Z<|Q<|Ex (zb2 _ _ _) Z Z<|Q<|Ex (.bool _) Z Z<|Q<|zaw V zbO fun w b4 V=>Q (SO (v:=zb2 _ _ _) V zbO Z Z .u0 fun w V=>?_)
  refine AB Z<|G<|SQ<|SR<|Q<|zac zdb Z<|Q<|zae (v:=str _) ty9 Z Z (V.cellL Q0 Z)<|Q<|zaX (rest:=[]) ty9 Z<|MI Z<|G<|zau<|zba<|za7 [(0,Pp _ _),(2,Pp _ _),(4,Pp _ _),(5,.bool _),(14,.int .i64 _)] E5 (fun (qq:Nat)=>[(15,.int .i64 (qq:Int))]) (fun (qq:Nat)=>[]) (fun (qq:Nat)=>qq = 0) (fun (qq:Nat)=>0) (0) V Z ⟨Z,trivial⟩ ?_
  intro i f w V hJ ih1
  replace V:St _ _ ([] ++ [_,_,_]) _ _:=V
  replace hJ:i = 0:=hJ
  refine zbj (sl:=[(15,.int .i64 (i:Int))]) ⟨Z,trivial⟩<|SR<|Q<|zaY Z Z<|G<|SQ<|zaa Z (fun g2=>?_) (fun g2=>?_)
  ·exfalso
   first | omega | (simp at g2; done) | (simp at g2; omega)
  refine zaU (id:=0) Z<|SR<|Q<|zac zdb Z<|Q<|zae (v:=str _) ty9 Z Z (V.cellL Q0 Z)<|Q (zaf zbc zei (.c (v:=.int .u8 _) Z (h:=(.c (v:=str _) Z (h:=.nil)))) ?_)
  refine MB Z<|Q (SO (v:=zcp _ _ _) V zbc Z Z .u2 fun w V=>?_)
  refine AB Z<|G<|zah func175 Z (zak (vs:=zcB _ _ _) Z zbc Z Z (zab (n:=3) (V.objL Q2) _ Z)) (TP (v:=.bool _) Z) ?_
  replace V:=V.pick (.c .u1 .nil)
  rw [zf7 (c:=115) (by decide) (show (l.getD a zaL).kind ≠ zel 115 from hd9)]
  exact .inl ⟨_,_,_,_,(show (70:Int) ≠ 0 by decide),Z,V.noD⟩
 ·replace V := V.call1 hp
  refine Q<|zad (v:=.tuple #[zb2 _ _ _,.bool _]) Z<|Q<|Ex (zb2 _ _ _) Z Z<|Q<|Ex (.bool _) Z Z<|Q<|zaw V zbO fun w b4 V=>Q (SO (v:=zb2 _ _ _) V zbO Z Z .u0 fun w V=>?_)
  refine AB Z<|G<|SQ<|SR<|Q<|zac zdb Z<|Q<|zae (v:=str _) ty9 Z Z (V.cellL Q0 Z)<|Q<|zaX (rest:=[]) ty9 Z<|MI Z<|G<|zau<|zba<|za7 [(0,Pp _ _),(2,Pp _ _),(4,Pp _ _),(5,.bool _),(14,.int .i64 _)] E5 (fun (qq:Nat)=>[(15,.int .i64 (qq:Int))]) (fun (qq:Nat)=>[]) (fun (qq:Nat)=>qq ≤ (l.getD a zaL).text.length ∧ ∀ j,j < qq → (l.getD a zaL).text.getD j 0 ≠ 0) (fun (qq:Nat)=>(l.getD a zaL).text.length - qq) (0) V ⟨Nat.zero_le _,fun j hj=>absurd hj (Nat.not_lt_zero _)⟩ ⟨Z,trivial⟩ ?_
  intro i f w V hJ ih3
  replace V:St _ _ ([] ++ [_,_,_]) _ _:=V
  replace hJ:i ≤ (l.getD a zaL).text.length ∧ ∀ j,j < i → (l.getD a zaL).text.getD j 0 ≠ 0:=hJ
  refine zbj (sl:=[(15,.int .i64 (i:Int))]) ⟨Z,trivial⟩ ?_
  have hj1:=hJ.1
  have hidx:((l.getD a zaL).text.getD ((i:Int).toNat) 0).toNat = ((l.getD a zaL).text.getD i 0).toNat:=rfl
  have hwm:=zlb (l:=l) (i:=a) O
  refine SR<|Q<|zaY Z Z<|G<|SQ<|zaa Z (fun g4=>?_) (fun g4=>?_)
  ·refine zaj <| SQ <| zau <| SR <| MI Z <| AI Z <| NSR <| Q <| zac zdb Z <| Q <| zae (v := str _) ty9 Z Z (V.cellL Q0 Z) <| MI Z <| Q <| zaZ ty9 Z Z O O <| Q (zai Z Z ?_)
   refine G<|zaa Z (fun g5=>?_) (fun g5=>?_)
   ·refine SR <| Q (zaf zbc zei .nil ?_)
    refine MP Z<|Q<|zac zcD Z<|Q (zae (v:=.int .i64 _) ty3 Z Z (V.cellL Q0 Z) ?_)
    replace V:=V.pick (.c .u1 (.k2 .nil))
    refine Q (zbm (v1:=Pp _ _) (v2:=.int .i64 _) (v3:=.int .i64 _) zcW Z Z Z Z ((zbo _ _ _ _ _ _ _ e p _ _ _ (V.hL _ Q0)).mono fun v w hp=>?_))
    obtain ⟨rfl,hp⟩:=hp
    replace V:=V.call1 hp
    refine Q (SO (v:=zcp _ _ _) V zbc Z Z .u2 fun w V=>?_)
    refine AB Z<|G<|zah func175 Z (zak (vs:=zcB _ _ _) Z zbc Z Z (zab (n:=3) (V.objL Q2) _ Z)) (TP (v:=.bool _) Z) ?_
    replace V:=V.pick (.k1 .nil)
    have hz:zbN (l.getD a zaL).text = i:=zk7 (by omega) (UInt8.toNat_inj.1 (by rw [← hidx]; show _ = 0; omega)) hJ.2
    rw [zqj hd9 (by rw [hz]; omega)]
    exact .inl ⟨_,_,_,_,(show (13:Int) ≠ 0 by decide),Z,V.noD⟩
   refine zaj<|zan<|RG<|Q<|zaD Z Z Z zbS<|MI Z<|G<|zaG ?_
   exact ih3 (i + 1) _ w ((by omega)) V (⟨by omega,zlE hJ.2 (fun e=>g5 (by rw [hidx,e]; rfl))⟩) E5 ⟨(Vi (by omega)),trivial⟩
  refine zaU (id:=0) Z<|SR<|Q<|zac zdb Z<|Q<|zae (v:=str _) ty9 Z Z (V.cellL Q0 Z)<|Q (zaf zbc zei (.c (v:=.int .u8 _) Z (h:=(.c (v:=str _) Z (h:=.nil)))) ?_)
  refine MB Z<|Q (SO (v:=zcp _ _ _) V zbc Z Z .u2 fun w V=>?_)
  refine AB Z<|G<|zah func175 Z (zak (vs:=zcB _ _ _) Z zbc Z Z (zab (n:=3) (V.objL Q2) _ Z)) (TP (v:=.bool _) Z) ?_
  replace V:=V.pick (.c .u1 .nil)
  have hz:zbN (l.getD a zaL).text = (l.getD a zaL).text.length:=zfy (fun q hq=>hJ.2 q O)
  rw [zsf hd9 hz]
  exact .inr ⟨Z,Z,V.noD⟩
theorem zkX (bq:Nat) (s:Tx) (ao:Option Addr) (cp:Nat) (l:List TokL) (a:Nat) (Y e p:Int) (c:Int) (hc:0 ≤ c ∧ c ≤ 255) (hc0:c ≠ 0) (hc1:c ≠ 105) (hc2:c ≠ 110) (hc3:c ≠ 115) (w:World) (ha:a < l.length) (hB:(AR 130 bq s ao cp l (a:Int) Y e p).holds w) (hT:(AT 72 ao cp l).holds w) (hTA:Apart (AR 130 bq s ao cp l (a:Int) Y e p) (AT 72 ao cp l)) (hl:s.length ≤ 1099511627776) (hll:l.length ≤ s.length) (hts:wsz l ≤ 7 * s.length):Ret prog 177 #[.pointer (some ⟨bq,0,none⟩),.int .u8 c] w (fun v w'=>(∃ (z1 z2:Int) (z3:Tx) (a':Int),(zbE c (l.getD a zaL) Y).2 ≠ 0 ∧ v = .tuple #[.agg #[.int .u8 z1,.int .u32 z2,str z3],.bool false] ∧ St w (AR 130 bq s ao cp l (a:Int) Y e p).foot [Res.row bq 130 [str s,.slice ao l.length cp,.int .i64 (a':Int),.int .u32 Y,.int .i64 (zbE c (l.getD a zaL) Y).2,.int .i64 ((l.getD a zaL).at_)]] [] w') ∨ ((zbE c (l.getD a zaL) Y).2 = 0 ∧ v = .tuple #[.agg #[.int .u8 (zbE c (l.getD a zaL) Y).1.kind,.int .u32 (zbE c (l.getD a zaL) Y).1.n,str (zbE c (l.getD a zaL) Y).1.s],.bool true] ∧ St w (AR 130 bq s ao cp l (a:Int) Y e p).foot [AR 130 bq s ao cp l (a + 1:Int) Y e p] [] w')):=by
 refine zax (args:=[.pointer (some ⟨bq,0,none⟩),.int .u8 c]) func177 Z Z Z ?_
 have V:St w (AR 130 bq s ao cp l (a:Int) Y e p).foot [AR 130 bq s ao cp l (a:Int) Y e p] [AT 72 ao cp l] w:=St.enter1 hB (by simp only [List.forall_mem_cons]; exact ⟨hT,fun _ h=>absurd h List.not_mem_nil⟩) (by simp only [List.forall_mem_cons]; exact ⟨hTA,fun _ h=>absurd h List.not_mem_nil⟩)
 refine SR<|Q<|zaw V zbc fun w b4 V=>AB Z<|NSR<|MP Z ?_
 replace V:=V.pick (.c .u1 (.k1 .nil))
 refine Q (zaK (v1:=Pp _ _) (v2:=.int .u8 _) zhS Z Z Z ((zdf _ _ _ _ l a _ _ _ 1 _ (V.hL _ Q0) (V.hD _ Q0) (V.sepD _ Q0 _ Q0) hl hll hts).mono fun v w hp=>?_))
 rcases hp with ⟨hk12,rfl,hp⟩ | ⟨hk12,hd12,rfl,hp⟩ | ⟨hk12,hd12,rfl,hp⟩
 ·exfalso; omega
 ·replace V := V.call1 hp
  refine Q<|zad (v:=.tuple #[zb2 _ _ _,.bool _]) Z<|Q<|Ex (zb2 _ _ _) Z Z<|Q<|Ex (.bool _) Z Z<|Q<|zaw V zbO fun w b6 V=>Q (SO (v:=zb2 _ _ _) V zbO Z Z .u0 fun w V=>?_)
  refine AB Z<|G<|SQ<|SR<|MB Z<|Q<|zaT Z<|G<|zat (Vb (congrArg not (Z:false = _)))<|SR<|Q (zaf zbc zei .nil ?_)
  refine Q (SO (v:=zcp _ _ _) V zbc Z Z .u2 fun w V=>?_)
  refine AB Z<|G<|zah func177 Z (zak (vs:=zcB _ _ _) Z zbc Z Z (zab (n:=3) (V.objL Q2) _ Z)) (TP (v:=.bool _) Z) ?_
  replace V:=V.pick (.c .u1 .nil)
  rw [zf7 hc0 (by rw [zgs hc1 hc2 hc3]; exact hd12)]
  exact .inl ⟨_,_,_,_,(show (70:Int) ≠ 0 by decide),Z,V.noD⟩
 ·replace V := V.call1 hp
  refine Q<|zad (v:=.tuple #[zb2 _ _ _,.bool _]) Z<|Q<|Ex (zb2 _ _ _) Z Z<|Q<|Ex (.bool _) Z Z<|Q<|zaw V zbO fun w b6 V=>Q (SO (v:=zb2 _ _ _) V zbO Z Z .u0 fun w V=>?_)
  refine AB Z<|G<|SQ<|SR<|MB Z<|Q<|zaT Z<|G<|zas (Vb (congrArg not (Z:true = _)))<|zaj<|SR<|MC Z<|Q<|zac zdb Z<|Q (zae (v:=str _) ty9 Z Z (V.cellL Q0 Z) ?_)
  refine Q<|zaK (v1:=.int .u8 _) (v2:=str _) ent209 Z Z Z<|Ret.det (zij c (l.getD a zaL).text hc.1 hc.2 _) V fun w V=>Q<|zad (v:=.tuple #[.int .u32 _,.bool _]) Z<|Q<|Ex (.int .u32 _) Z Z<|Q<|Ex (.bool _) Z Z<|AU Z<|AB Z<|G<|zal [(0,Pp _ _),(4,Pp _ _),(6,Pp _ _),(8,.int .u32 _),(9,.bool _)] E5 fun f=>SQ<|SR<|MB Z<|Q<|zaT Z<|G<|zaR Z (fun g1=>?_) (fun g1=>?_)
  ·refine SR <| Q (zaf zbc zei .nil ?_)
   refine MP Z<|Q<|zac zcD Z<|Q (zae (v:=.int .i64 _) ty3 Z Z (V.cellL Q0 Z) ?_)
   replace V:=V.pick (.c .u1 (.k2 .nil))
   refine Q (zbm (v1:=Pp _ _) (v2:=.int .i64 _) (v3:=.int .i64 _) zcW Z Z Z Z ((zbo _ _ _ _ _ _ _ e p _ _ _ (V.hL _ Q0)).mono fun v w hp=>?_))
   obtain ⟨rfl,hp⟩:=hp
   replace V:=V.call1 hp
   refine Q (SO (v:=zcp _ _ _) V zbc Z Z .u2 fun w V=>?_)
   refine AB Z<|G<|zah func177 Z (zak (vs:=zcB _ _ _) Z zbc Z Z (zab (n:=3) (V.objL Q2) _ Z)) (TP (v:=.bool _) Z) ?_
   replace V:=V.pick (.k1 .nil)
   rw [zn2 hc0 hc1 hc2 hc3 hd12 (by simpa using g1)]
   exact .inl ⟨_,_,_,_,(show (71:Int) ≠ 0 by decide),Z,V.noD⟩
  refine zaj<|SR<|MU Z<|Q (zaf zbc zei (.c (v:=.int .u8 _) Z (h:=(.c (v:=.int .u32 _) Z (h:=.nil)))) ?_)
  refine Q (SO (v:=zcp _ _ _) V zbc Z Z .u2 fun w V=>?_)
  refine AB Z<|G<|zah func177 Z (zak (vs:=zcB _ _ _) Z zbc Z Z (zab (n:=3) (V.objL Q2) _ Z)) (TP (v:=.bool _) Z) ?_
  replace V:=V.pick (.c .u1 .nil)
  rw [zqn hc0 hc1 hc2 hc3 hd12 (by simpa using g1)]
  exact .inr ⟨Z,Z,V.noD⟩
theorem zqH (bq:Nat) (c:Int) (w:World):Ret prog 132 #[.pointer (some ⟨bq,0,none⟩),.int .u8 c] w (fun v w'=>(c = 105 ∧ v = .func (.func 173) #[.pointer (some ⟨bq,0,none⟩)] #[] ∧ St w NoM [] [] w') ∨ (c = 110 ∧ v = .func (.func 174) #[.pointer (some ⟨bq,0,none⟩)] #[] ∧ St w NoM [] [] w') ∨ (c = 115 ∧ v = .func (.func 175) #[.pointer (some ⟨bq,0,none⟩)] #[] ∧ St w NoM [] [] w') ∨ (c ≠ 105 ∧ c ≠ 110 ∧ c ≠ 115 ∧ ∃ b2 b3,v = .func (.func 176) #[] #[.pointer (some ⟨b2,0,none⟩),.pointer (some ⟨b3,0,none⟩)] ∧ St w NoM [Res.row b2 124 [.pointer (some ⟨bq,0,none⟩)],Res.row b3 5 [.int .u8 c]] [] w')):=by
 refine zax (args:=[.pointer (some ⟨bq,0,none⟩),.int .u8 c]) func132 Z Z Z ?_
 have V:=St.init w
 refine SR<|Q<|zbn (v:=Pp _ _) V Z Z fun w b2 V=>Q<|zbn (v:=.int .u8 _) V Z Z fun w b3 V=>Q<|zao (v:=_) Z<|G<|SQ<|SR<|Q<|zae (v:=.int .u8 _) ty5 Z Z (V.cellL Q0 Z)<|G<|zau<|SR<|Q (zai Z Z ?_)
 refine AB Z<|G<|zaa Z (fun g1=>?_) (fun g1=>?_)
 ·refine SR <| Q <| zae (v := .pointer _) zq8 Z Z (V.cellL Q1 Z) <| Q <| zbJ <| Q <| zao (v := .func _ _ _) Z <| G <| zag func132 Z (TP (v := .func _ _ _) Z) ?_
  exact .inl ⟨by omega,Z,V.pure⟩
 refine SR<|Q<|zai Z Z<|AB Z<|G<|zaa Z (fun g2=>?_) (fun g2=>?_)
 ·refine SR <| Q <| zae (v := .pointer _) zq8 Z Z (V.cellL Q1 Z) <| Q <| zbJ <| Q <| zao (v := .func _ _ _) Z <| G <| zag func132 Z (TP (v := .func _ _ _) Z) ?_
  exact .inr (.inl ⟨by omega,Z,V.pure⟩)
 refine SR<|Q<|zai Z Z<|AB Z<|G<|zaa Z (fun g3=>?_) (fun g3=>?_)
 ·refine SR <| Q <| zae (v := .pointer _) zq8 Z Z (V.cellL Q1 Z) <| Q <| zbJ <| Q <| zao (v := .func _ _ _) Z <| G <| zag func132 Z (TP (v := .func _ _ _) Z) ?_
  exact .inr (.inr (.inl ⟨by omega,Z,V.pure⟩))
 refine zaj<|zan<|SR<|Q<|zbJ<|Q<|zao (v:=.func _ _ _) Z<|G<|zag func132 Z (TP (v:=.func _ _ _) Z) ?_
 replace V:=V.pick (.c .u1 (.k1 .nil))
 exact .inr (.inr (.inr ⟨by omega,by omega,by omega,_,_,Z,V⟩))
theorem zoq (bq:Nat) (s:Tx) (ao:Option Addr) (cp:Nat) (l:List TokL) (a:Nat) (Y e p:Int) (c:Int) (hc:0 ≤ c ∧ c ≤ 255) (hc0:c ≠ 0) (hc1:c ≠ 105) (hc2:c ≠ 110) (hc3:c ≠ 115) (c2 c3:Nat) (w:World) (ha:a < l.length) (hB:(AR 130 bq s ao cp l (a:Int) Y e p).holds w) (hT:(AT 72 ao cp l).holds w) (hTA:Apart (AR 130 bq s ao cp l (a:Int) Y e p) (AT 72 ao cp l)) (hl:s.length ≤ 1099511627776) (hll:l.length ≤ s.length) (hts:wsz l ≤ 7 * s.length) (h2:(Res.row c2 124 [.pointer (some ⟨bq,0,none⟩)]).holds w) (h3:(Res.row c3 5 [.int .u8 c]).holds w) (ha2:Apart (AR 130 bq s ao cp l (a:Int) Y e p) (Res.row c2 124 [.pointer (some ⟨bq,0,none⟩)])) (ha3:Apart (AR 130 bq s ao cp l (a:Int) Y e p) (Res.row c3 5 [.int .u8 c])):Ret prog 176 #[.pointer (some ⟨c2,0,none⟩),.pointer (some ⟨c3,0,none⟩)] w (fun v w'=>(∃ (z1 z2:Int) (z3:Tx) (a':Int),(zbE c (l.getD a zaL) Y).2 ≠ 0 ∧ v = .tuple #[.agg #[.int .u8 z1,.int .u32 z2,str z3],.bool false] ∧ St w (AR 130 bq s ao cp l (a:Int) Y e p).foot [Res.row bq 130 [str s,.slice ao l.length cp,.int .i64 (a':Int),.int .u32 Y,.int .i64 (zbE c (l.getD a zaL) Y).2,.int .i64 ((l.getD a zaL).at_)]] [] w') ∨ ((zbE c (l.getD a zaL) Y).2 = 0 ∧ v = .tuple #[.agg #[.int .u8 (zbE c (l.getD a zaL) Y).1.kind,.int .u32 (zbE c (l.getD a zaL) Y).1.n,str (zbE c (l.getD a zaL) Y).1.s],.bool true] ∧ St w (AR 130 bq s ao cp l (a:Int) Y e p).foot [AR 130 bq s ao cp l (a + 1:Int) Y e p] [] w')):=by
 refine zax (args:=[.pointer (some ⟨c2,0,none⟩),.pointer (some ⟨c3,0,none⟩)]) func176 Z Z Z ?_
 have V:St w (AR 130 bq s ao cp l (a:Int) Y e p).foot [AR 130 bq s ao cp l (a:Int) Y e p] [AT 72 ao cp l,Res.row c2 124 [.pointer (some ⟨bq,0,none⟩)],Res.row c3 5 [.int .u8 c]] w:=St.enter1 hB (by simp only [List.forall_mem_cons]; exact ⟨hT,h2,h3,fun _ h=>absurd h List.not_mem_nil⟩) (by simp only [List.forall_mem_cons]; exact ⟨hTA,ha2,ha3,fun _ h=>absurd h List.not_mem_nil⟩)
 refine SR<|Q<|zaw V zbc fun w b2 V=>AB Z<|NSR<|Q<|zae (v:=Pp _ _) zq8 Z Z (V.cellD Q1 Z)<|Q (zae (v:=.int .u8 _) ty5 Z Z (V.cellD Q2 Z) ?_)
 replace V:=V.pick (.c .u1 (.k1 .nil))
 refine Q (zaK (v1:=Pp _ _) (v2:=.int .u8 _) ent177 Z Z Z ((zkX _ _ _ _ l a _ _ _ c hc hc0 hc1 hc2 hc3 _ ha (V.hL _ Q0) (V.hD _ Q0) (V.sepD _ Q0 _ Q0) hl hll hts).mono fun v w hp=>?_))
 rcases hp with ⟨z1,z2,z3,a2,hne,rfl,hp⟩ | ⟨hz,rfl,hp⟩
 ·replace V := V.call1 hp
  refine Q<|Ex (zcp _ _ _) Z Z<|Q<|Ex (.bool _) Z Z<|Q (SO (v:=zcp _ _ _) V zbc Z Z .u1 fun w V=>?_)
  refine AB Z<|G<|zah func176 Z (zak (vs:=zcB _ _ _) Z zbc Z Z (zab (n:=3) (V.objL Q1) _ Z)) (TP (v:=.bool _) Z) ?_
  replace V:=V.pick (.k1 .nil)
  exact .inl ⟨_,_,_,_,hne,Z,V.noD⟩
 ·replace V := V.call1 hp
  refine Q<|Ex (zcp _ _ _) Z Z<|Q<|Ex (.bool _) Z Z<|Q (SO (v:=zcp _ _ _) V zbc Z Z .u1 fun w V=>?_)
  refine AB Z<|G<|zah func176 Z (zak (vs:=zcB _ _ _) Z zbc Z Z (zab (n:=3) (V.objL Q1) _ Z)) (TP (v:=.bool _) Z) ?_
  replace V:=V.pick (.k1 .nil)
  exact .inr ⟨hz,Z,V.noD⟩
theorem CallV.mono {P:Program} {fv:Value} {args:List Value} {w:World} {C C':Value → World → Prop} (h:CallV P fv args w C) (hc:∀ v w,C v w → C' v w):CallV P fv args w C':=Inv.mono h hc
theorem zop (bq:Nat) (s:Tx) (ao:Option Addr) (cp:Nat) (l:List TokL) (a:Nat) (Y e p:Int) (c:Int) (hc:0 ≤ c ∧ c ≤ 255) (hc0:c ≠ 0) (w:World) (ha:a < l.length) (hl:s.length ≤ 1099511627776) (hll:l.length ≤ s.length) (hts:wsz l ≤ 7 * s.length) (hbd:0 ≤ Y ∧ Y < 4294967296) (hpl:∀ i,i < l.length → (l.getD i zaL).kind = 2 → ∃ m,za6 (l.getD i zaL).text = some m):Ret prog 132 #[.pointer (some ⟨bq,0,none⟩),.int .u8 c] w (fun v w'=>∃ fn fi ca R,v = .func fn fi ca ∧ St w NoM [R] [] w' ∧ ∀ w1,(AR 130 bq s ao cp l (a:Int) Y e p).holds w1 → (AT 72 ao cp l).holds w1 → Apart (AR 130 bq s ao cp l (a:Int) Y e p) (AT 72 ao cp l) → LxG.holds w1 → Apart (AR 130 bq s ao cp l (a:Int) Y e p) LxG → R.holds w1 → Apart (AR 130 bq s ao cp l (a:Int) Y e p) R → CallV prog (.func fn fi ca) [] w1 (fun v w'=>(∃ (z1 z2:Int) (z3:Tx) (a':Int),(zbE c (l.getD a zaL) Y).2 ≠ 0 ∧ v = .tuple #[.agg #[.int .u8 z1,.int .u32 z2,str z3],.bool false] ∧ St w1 (AR 130 bq s ao cp l (a:Int) Y e p).foot [Res.row bq 130 [str s,.slice ao l.length cp,.int .i64 (a':Int),.int .u32 Y,.int .i64 (zbE c (l.getD a zaL) Y).2,.int .i64 ((l.getD a zaL).at_)]] [] w') ∨ ((zbE c (l.getD a zaL) Y).2 = 0 ∧ v = .tuple #[.agg #[.int .u8 (zbE c (l.getD a zaL) Y).1.kind,.int .u32 (zbE c (l.getD a zaL) Y).1.n,str (zbE c (l.getD a zaL) Y).1.s],.bool true] ∧ St w1 (AR 130 bq s ao cp l (a:Int) Y e p).foot [AR 130 bq s ao cp l (a + 1:Int) Y e p] [] w'))):=by
 refine (zqH bq c w).mono fun v w' h=>?_
 rcases h with ⟨rfl,rfl,hp⟩ | ⟨rfl,rfl,hp⟩ | ⟨rfl,rfl,hp⟩ | ⟨h1,h2,h3,b2,b3,rfl,hp⟩
 ·refine ⟨_,_,_,Res.star [],Z,hp.starNil,fun w1 r1 r2 r3 r4 r5 r6 r7=>zcH (first:=[_]) (cap:=[]) ent173 (zoo bq s ao cp l a Y e p w1 ha r1 r2 r3 hl hll hts hbd hpl)⟩
 ·refine ⟨_,_,_,Res.star [],Z,hp.starNil,fun w1 r1 r2 r3 r4 r5 r6 r7=>zcH (first:=[_]) (cap:=[]) ent174 (zik bq s ao cp l a Y e p w1 ha r1 r2 r3 hl hll hts r4 r5)⟩
 ·refine ⟨_,_,_,Res.star [],Z,hp.starNil,fun w1 r1 r2 r3 r4 r5 r6 r7=>zcH (first:=[_]) (cap:=[]) ent175 (zkV bq s ao cp l a Y e p w1 ha r1 r2 r3 hl hll hts)⟩
 ·refine ⟨_,_,_,Res.star [_,_],Z,St.pack (L1:=[_,_]) hp,fun w1 r1 r2 r3 r4 r5 r6 r7=>ziR (cap:=[_,_]) ent176 (zoq bq s ao cp l a Y e p c hc hc0 h1 h2 h3 b2 b3 w1 ha r1 r2 r3 hl hll hts (r6.1 _ Q0) (r6.1 _ Q1) (fun b hb hb2=>r7 b hb ⟨_,.head _,hb2⟩) (fun b hb hb2=>r7 b hb ⟨_,.tail _ Q0,hb2⟩))⟩
theorem zl4 {q:zcI} {fm:FormL} {ob:Bool} (h1:(refT.find? (nmF q)).getD zeroF = fm) (h2:(refT.find? (nmF q)).isSome = ob) (w:World):Ret prog 127 #[str q] w fun v w'=>v = .tuple #[.agg (zlJ fm).toArray,.bool ob] ∧ St w NoM [] [] w':=by
 subst h1; subst h2; exact zod q w
theorem zkO {fm:FormL} (hop:za5 fm.op = fm) (h0:0 ≤ fm.op) (k j:Nat) (hk:k = j) (hb:j ≤ 9000000000000000000) (w:World):Ret prog 131 #[.int .u16 fm.op,.int .i64 (k:Int)] w fun v w'=>v = .int .u8 (zaN fm (j:Int)) ∧ St w NoM [] [] w':=by
 subst hk
 have:=zh0 fm.op h0 (k:Int) O w
 rw [hop] at this; exact this
theorem zqE (bq:Nat) (s:Tx) (ao:Option Addr) (cp:Nat) (l:List TokL) (Y e p:Int) (w:World) (h0:0 < l.length) (hB:(AR 130 bq s ao cp l ((0:Nat):Int) Y e p).holds w) (hT:(AT 72 ao cp l).holds w) (hTA:Apart (AR 130 bq s ao cp l ((0:Nat):Int) Y e p) (AT 72 ao cp l)) (hl:s.length ≤ 1099511627776) (hll:l.length ≤ s.length) (hts:wsz l ≤ 7 * s.length) (hl24:s.length ≤ 16777216) (hG:LxG.holds w) (hGA:Apart (AR 130 bq s ao cp l ((0:Nat):Int) Y e p) LxG) (hbd:0 ≤ Y ∧ Y < 4294967296) (hpl:∀ i,i < l.length → (l.getD i zaL).kind = 2 → ∃ m,za6 (l.getD i zaL).text = some m):Ret prog 74 #[.pointer (some ⟨bq,0,none⟩)] w (fun v w'=>(∃ (q1 q2:Int) (o1 t1 r1:Int) (xo:Option Addr) (xn xc:Nat) (a':Int),zcf s.length l Y = (zeroIL,false,(q1,q2)) ∧ v = .tuple #[.agg #[.int .u16 o1,.int .u32 t1,.int .u32 r1,.slice xo xn xc],.bool false] ∧ St w (AR 130 bq s ao cp l ((0:Nat):Int) Y e p).foot [AR 130 bq s ao cp l (a':Int) Y q1 q2] [] w') ∨ (∃ (x:InstP) (a':Int),zcf s.length l Y = (x.L,true,(0,0)) ∧ (x.args.map zaS).sum ≤ 900000000 ∧ (∀ a ∈ x.args,a.s.length ≤ 100000000000) ∧ (0 ≤ x.op ∧ x.op < 65536) ∧ v = .tuple #[.agg #[.int .u16 x.op,.int .u32 x.ty,.int .u32 x.res,.slice x.ao x.args.length x.cap],.bool true] ∧ St w (AR 130 bq s ao cp l ((0:Nat):Int) Y e p).foot [AR 130 bq s ao cp l (a':Int) Y e p,Res.oargs 110 x] [] w')):=by
 refine zax (args:=[.pointer (some ⟨bq,0,none⟩)]) func74 Z Z Z ?_
 have V:St w (AR 130 bq s ao cp l ((0:Nat):Int) Y e p).foot [AR 130 bq s ao cp l ((0:Nat):Int) Y e p] [AT 72 ao cp l,LxG] w:=St.enter1 hB (by simp only [List.forall_mem_cons]; exact ⟨hT,hG,fun _ h=>absurd h List.not_mem_nil⟩) (by simp only [List.forall_mem_cons]; exact ⟨hTA,hGA,fun _ h=>absurd h List.not_mem_nil⟩)
 obtain ⟨bT,rfl⟩:=Res.sl_some (V.hD _ Q0) h0
 refine SR<|Q<|zaw V zbB fun w b2 V=>AB Z<|G<|zhs<|SR<|Q<|zaw V zbB fun w b4 V=>NSR<|Q<|zaw V zaA fun w b5 V=>G<|SQ ?_
 refine RG<|Q<|zaw V zbO fun w b6 V=>NSR<|AL Z<|NSR<|AB Z<|AB Z<|NSR<|MP Z ?_
 refine Q<|zaF Z<|Q<|zac zds Z<|Q<|zae (v:=.slice _ _ _) ziU Z Z (V.cellL Q4 Z)<|Q<|zbb ziU zbO Z Z O O<|Q<|zaC (vs:=zlG _ _ _) zbO Z Z Z (Res.sl_cells (k:=3) (V.hD _ Q0) _ (zbQ (g:=zmj) (d:=zaL) zdX _ _ O))<|Q<|zaw V zbO fun w b10 V=>Q (SO (v:=zb2 _ _ _) V zbO Z Z .u0 fun w V=>?_)
 refine NSR<|Q<|zac zpR Z<|Q<|zae (v:=.int .u8 _) ty5 Z Z (V.cellL Q0 Z)<|Q<|zai Z Z<|AB Z<|G<|zal [(0,Pp _ _),(2,Pp _ _),(4,Pp _ _),(5,Pp _ _),(6,Pp _ _),(7,.slice _ _ _),(10,Pp _ _),(11,.bool _)] E8 fun f=>SQ ?_
 replace V:=V.pick (.c .u5 (.k5 .nil))
 refine zsl (l:=0) (L1:=[_]) Z [(0,Pp _ _),(2,Pp _ _),(4,Pp _ _),(5,Pp _ _),(6,Pp _ _),(7,.slice _ _ _),(10,Pp _ _),(11,.bool _)] V E8 (fun (qq:Nat)=>[]) (fun (qq:Nat)=>[AR 130 bq s (some ⟨bT,0,none⟩) cp l (((qq:Nat):Int):Int) Y e p]) (fun (qq:Nat)=>LnA l qq) (fun m f w V hA=>?_) (fun cut1=>?_)
 replace V:St _ _ ([AR 130 bq s (some ⟨bT,0,none⟩) cp l (((m:Nat):Int):Int) Y e p] ++ [_,_,_,_,_]) _ _:=V
 replace hA:LnA l m:=hA
 ·refine SQ <| SR <| MP Z <| Q (zaK (v1 := Pp _ _) (v2 := .int .u8 _) zhS Z Z Z ((zdf _ _ _ _ l m _ _ _ 1 _ (V.hL _ Q0) (V.hD _ Q0) (V.sepD _ Q0 _ Q0) hl hll hts).mono fun v w hp => ?_))
  rcases hp with ⟨hk47,rfl,hp⟩ | ⟨hk47,hd47,rfl,hp⟩ | ⟨hk47,hd47,rfl,hp⟩
  ·replace V := V.call1 hp
   refine Q<|zad (v:=.tuple #[zb2 _ _ _,.bool _]) Z<|Q<|Ex (zb2 _ _ _) Z Z<|Q<|Ex (.bool _) Z Z<|Q (SO (v:=zb2 _ _ _) V zbO Z Z .u2 fun w V=>?_)
   refine AB Z<|NSR<|MB Z<|Q<|zaT Z<|G<|zat (Vb (congrArg not (Z:false = _)))<|SR<|Q<|zaC (vs:=zbA _ _ _ _ _ _) zbB Z Z Z (zab (n:=4) (V.objL Q4) _ Z)<|Q (SO (v:=zbt _ _ _ _ _ _) V zbB Z Z .u5 fun w V=>?_)
   refine AB Z<|G<|zah func74 Z (zak (vs:=zbA _ _ _ _ _ _) Z zbB Z Z (zab (n:=4) (V.objL Q5) _ Z)) (TP (v:=.bool _) Z) ?_
   replace V:=V.pick (.k1 .nil)
   exact .inl ⟨_,_,_,_,_,_,_,_,_,hA.early hk47,Z,V.noD⟩
  ·replace V := V.call1 hp
   refine Q<|zad (v:=.tuple #[zb2 _ _ _,.bool _]) Z<|Q<|Ex (zb2 _ _ _) Z Z<|Q<|Ex (.bool _) Z Z<|Q (SO (v:=zb2 _ _ _) V zbO Z Z .u2 fun w V=>?_)
   refine AB Z<|NSR<|MB Z<|Q<|zaT Z<|G<|zat (Vb (congrArg not (Z:false = _)))<|SR<|Q<|zaC (vs:=zbA _ _ _ _ _ _) zbB Z Z Z (zab (n:=4) (V.objL Q4) _ Z)<|Q (SO (v:=zbt _ _ _ _ _ _) V zbB Z Z .u5 fun w V=>?_)
   refine AB Z<|G<|zah func74 Z (zak (vs:=zbA _ _ _ _ _ _) Z zbB Z Z (zab (n:=4) (V.objL Q5) _ Z)) (TP (v:=.bool _) Z) ?_
   replace V:=V.pick (.k1 .nil)
   exact .inl ⟨_,_,_,_,_,_,_,_,_,hA.noword hk47 hd47,Z,V.noD⟩
  ·replace V := V.call1 hp
   refine Q<|zad (v:=.tuple #[zb2 _ _ _,.bool _]) Z<|Q<|Ex (zb2 _ _ _) Z Z<|Q<|Ex (.bool _) Z Z<|Q (SO (v:=zb2 _ _ _) V zbO Z Z .u2 fun w V=>?_)
   refine AB Z<|NSR<|MB Z<|Q<|zaT Z<|G<|zas (Vb (congrArg not (Z:true = _)))<|zaj<|SQ<|SR<|Q<|zac zdb Z<|Q (zae (v:=str _) ty9 Z Z (V.cellL Q2 Z) ?_)
   obtain ⟨fm,hfn⟩:∃ x,(refT.find? (nmF (l.getD m zaL).text)).getD zeroF = x:=⟨_,rfl⟩
   obtain ⟨ob,hob⟩:∃ x,(refT.find? (nmF (l.getD m zaL).text)).isSome = x:=⟨_,rfl⟩
   refine Q<|zav (v1:=str _) ent127 Z Z<|Ret.det (zl4 hfn hob _) V fun w V=>Q<|zad (v:=.tuple #[zam _ _ _ _ _ _ _ _,.bool _]) Z<|Q<|Ex (zam _ _ _ _ _ _ _ _) Z Z<|Q<|Ex (.bool _) Z Z<|Q (SO (v:=zam _ _ _ _ _ _ _ _) V zaA Z Z .u3 fun w V=>?_)
   refine AB Z<|NSR<|MB Z<|Q<|zaT Z<|G<|zaR Z (fun g2=>?_) (fun g2=>?_)
   ·refine SQ ?_
    apply RunD.start [(4,Res.row bq 130 _,Res.emp)] V (bs:=[0,0,0,4,14,31,63]) (ds:=[some 61,some 62,some 63,some 64,some 65,none,some 3]) (htab:=⟨Kr,Kr,Kr⟩)
    intro tab3
    refine DO tab3 1 (fun _ _ _ hc=>zaC (vs:=zbA _ _ _ _ _ _) zbB Z (hc.old (v:=Pp _ _) Z Z Z) Z (zab (n:=4) (hc.st.objL (Ar Q3)) _ Z) hc.z)<|DO tab3 2 (fun _ _ _ hc=>zad (v:=Pp _ _) (hc.old Z Z Z) hc.z)<|DO tab3 3 (fun _ _ _ hc=>zac zcD (hc.old (v:=Pp _ _) Z Z Z) hc.z)<|DO tab3 4 (fun _ _ _ hc=>zae (v:=.int .i64 _) ty3 Z (hc.d 2 Z Z Z Z) (hc.st.cellL (Ar Q1) Z) hc.z)<|zcS (fun g v rs=>v = .bool false ∧ rs = [AR 130 bq s (some ⟨bT,0,none⟩) cp l (((m + 1:Nat):Int):Int) Y 71 ((l.getD m zaL).at_)]) tab3 5 Q0 (fun f' L' L'' w' hc ⟨X,hrem,hX⟩=>zbm (v1:=Pp _ _) (v2:=.int .i64 _) (v3:=.int .i64 _) zcW Z (hc.d 1 Z Z Z Z) Z (hc.d 3 Z Z Z Z) ((zbo bq s _ cp l (m + 1) Y e p 71 ((l.getD m zaL).at_) _ (hc.st.hL _ hrem.mem2)).mono fun v w hp=>⟨[_],fun g hg=>⟨hp.1,Z⟩,hX _ _ (St.callRem hc.st hrem hp.2)⟩))<|RunD.fin zaB tab3 V Z (fun f4 w R7 hs5 hd6 hr8 V=>?_)
    obtain ⟨h61_,r0⟩:=hd6 0 61 rfl rfl
    obtain ⟨h62_,r1⟩:=hd6 1 62 rfl rfl
    obtain ⟨h63_,r2⟩:=hd6 2 63 rfl rfl
    obtain ⟨h64_,r3⟩:=hd6 3 64 rfl rfl
    obtain ⟨h65_,r4⟩:=hd6 4 65 rfl rfl
    simp only [rg5,Fc,Fn,Mc,Mn,r0,r1,r2,r3,r4,Na,An,Ca] at V
    refine zaH (sl:=[(2,Pp _ _),(61,zbt _ _ _ _ _ _),(65,.bool _)]) ⟨(hs5 2 Z).trans Z,h61_,h65_,trivial⟩ ?_
    clear hs5 hd6 hr8 tab3
    refine Q (SO (v:=zbt _ _ _ _ _ _) V zbB Z Z .u6 fun w V=>?_)
    refine AB Z<|G<|zah func74 Z (zak (vs:=zbA _ _ _ _ _ _) Z zbB Z Z (zab (n:=4) (V.objL Q6) _ Z)) (TP (v:=.bool _) Z) ?_
    replace V:=V.pick (.k1 .nil)
    exact .inl ⟨_,_,_,_,_,_,_,_,_,hA.noname hk47 hd47 (hob.trans (by simpa using g2)),rfl,V.noD⟩
   have hB:=LnB.mk2 hA hk47 hd47 (hob.trans (by simpa using g2)) hfn
   have hop:=hB.op
   have hop0:=hB.op0
   refine zaj<|SQ<|SR<|Q<|zac zcY Z<|Q<|zae (v:=.bool _) ty4 Z Z (V.cellL Q3 Z)<|MB Z<|Q<|znb ty4 Z Z<|G<|zal [(0,Pp _ _),(2,Pp _ _),(4,Pp _ _),(5,Pp _ _),(7,.slice _ _ _),(10,Pp _ _),(11,.bool _),(69,.bool _)] E8 fun f=>zaR Z (fun g9=>?_) (fun g9=>?_)
   ·refine SQ ?_
    apply RunD.start [(4,Res.row bq 130 _,Res.emp)] V (bs:=[0,0,0,4,14,31,63]) (ds:=[some 70,some 71,some 72,some 73,some 74,none,some 3]) (htab:=⟨Kr,Kr,Kr⟩)
    intro tab10
    refine DO tab10 1 (fun _ _ _ hc=>zaC (vs:=zbA _ _ _ _ _ _) zbB Z (hc.old (v:=Pp _ _) Z Z Z) Z (zab (n:=4) (hc.st.objL (Ar Q3)) _ Z) hc.z)<|DO tab10 2 (fun _ _ _ hc=>zad (v:=Pp _ _) (hc.old Z Z Z) hc.z)<|DO tab10 3 (fun _ _ _ hc=>zac zcD (hc.old (v:=Pp _ _) Z Z Z) hc.z)<|DO tab10 4 (fun _ _ _ hc=>zae (v:=.int .i64 _) ty3 Z (hc.d 2 Z Z Z Z) (hc.st.cellL (Ar Q0) Z) hc.z)<|zcS (fun g v rs=>v = .bool false ∧ rs = [AR 130 bq s (some ⟨bT,0,none⟩) cp l (((m + 1:Nat):Int):Int) Y 41 ((l.getD 0 zaL).at_)]) tab10 5 Q0 (fun f' L' L'' w' hc ⟨X,hrem,hX⟩=>zbm (v1:=Pp _ _) (v2:=.int .i64 _) (v3:=.int .i64 _) zcW Z (hc.d 1 Z Z Z Z) Z (hc.d 3 Z Z Z Z) ((zbo bq s _ cp l (m + 1) Y e p 41 ((l.getD 0 zaL).at_) _ (hc.st.hL _ hrem.mem2)).mono fun v w hp=>⟨[_],fun g hg=>⟨hp.1,Z⟩,hX _ _ (St.callRem hc.st hrem hp.2)⟩))<|RunD.fin zaB tab10 V Z (fun f11 w R14 hs12 hd13 hr15 V=>?_)
    obtain ⟨h70_,r0⟩:=hd13 0 70 rfl rfl
    obtain ⟨h71_,r1⟩:=hd13 1 71 rfl rfl
    obtain ⟨h72_,r2⟩:=hd13 2 72 rfl rfl
    obtain ⟨h73_,r3⟩:=hd13 3 73 rfl rfl
    obtain ⟨h74_,r4⟩:=hd13 4 74 rfl rfl
    simp only [rg5,Fc,Fn,Mc,Mn,r0,r1,r2,r3,r4,Na,An,Ca] at V
    refine zaH (sl:=[(2,Pp _ _),(70,zbt _ _ _ _ _ _),(74,.bool _)]) ⟨(hs12 2 Z).trans Z,h70_,h74_,trivial⟩ ?_
    clear hs12 hd13 hr15 tab10
    refine Q (SO (v:=zbt _ _ _ _ _ _) V zbB Z Z .u6 fun w V=>?_)
    refine AB Z<|G<|zah func74 Z (zak (vs:=zbA _ _ _ _ _ _) Z zbB Z Z (zab (n:=4) (V.objL Q6) _ Z)) (TP (v:=.bool _) Z) ?_
    replace V:=V.pick (.k1 .nil)
    exact .inl ⟨_,_,_,_,_,_,_,_,_,hB.nores (by simpa using g9),rfl,V.noD⟩
   have hrs:fm.res = decide ((l.getD 0 zaL).kind = 2):=by simpa using g9
   refine zaj<|SR<|Q<|zac zfZ Z<|Q<|zae (v:=.int .u16 _) zov Z Z (V.cellL Q3 Z)<|Q<|zac zfp Z<|Q (SO (v:=.int .u16 _) V zov Z Z .u4 fun w V=>?_)
   refine G<|SQ ?_
   replace V:=V.pick (.c .u4 (.k5 .nil))
   refine zec (L1:=[_]) [(0,Pp _ _),(2,Pp _ _),(4,Pp _ _),(5,Pp _ _),(7,.slice _ _ _)] V E5 (fun (qq:Int)=>[]) (fun (qq:Int)=>[Res.row b4 44 [.int .u16 fm.op,.int .u32 0,.int .u32 qq,.slice none 0 0]]) (fun (qq:Int)=>((l.getD 0 zaL).kind = 2 → qq = idL (l.getD 0 zaL).text Y ∧ qq ≠ 0) ∧ (¬ (l.getD 0 zaL).kind = 2 → qq = 0)) (fun res f w V hR0=>?_) (fun cut16=>?_)
   replace V:St _ _ ([Res.row b4 44 [.int .u16 fm.op,.int .u32 0,.int .u32 res,.slice none 0 0]] ++ [_,_,_,_,_]) _ _:=V
   replace hR0:((l.getD 0 zaL).kind = 2 → res = idL (l.getD 0 zaL).text Y ∧ res ≠ 0) ∧ (¬ (l.getD 0 zaL).kind = 2 → res = 0):=hR0
   skip
   ·have hC : LnC Y l m fm res := ⟨hB, hrs, hR0.1, hR0.2⟩
    refine SQ<|zec (L1:=[_,_]) [(0,Pp _ _),(2,Pp _ _),(4,Pp _ _),(5,Pp _ _),(7,.slice _ _ _)] V E5 (fun (qq:Int × Nat)=>[]) (fun (qq:Int × Nat)=>[Res.row b4 44 [.int .u16 fm.op,.int .u32 qq.1,.int .u32 res,.slice none 0 0],AR 130 bq s (some ⟨bT,0,none⟩) cp l (((qq.2:Nat):Int):Int) Y e p]) (fun (qq:Int × Nat)=>LnI Y l m fm res qq.1 qq.2) (fun ⟨ty,q⟩ f w V hI=>?_) (fun cut18=>?_)
    replace V:St _ _ ([Res.row b4 44 [.int .u16 fm.op,.int .u32 ty,.int .u32 res,.slice none 0 0],AR 130 bq s (some ⟨bT,0,none⟩) cp l (((q:Nat):Int):Int) Y e p] ++ [_,_,_,_]) _ _:=V
    replace hI:LnI Y l m fm res ty q:=hI
    skip
    ·refine SQ <| zfG ?_
     replace V:=V.pushNil 110 3
     replace V:=V.pushNil 5 1
     refine za7 [(0,Pp _ _),(2,Pp _ _),(4,Pp _ _),(5,Pp _ _)] E4 (fun (qq:Nat × List ArgP × Option Addr × Nat × Option Addr × Nat)=>[(7,.slice qq.2.2.2.2.1 (qq.2.1.map ArgP.kind).length qq.2.2.2.2.2)]) (fun (qq:Nat × List ArgP × Option Addr × Nat × Option Addr × Nat)=>[Res.sl qq.2.2.2.2.1 (qq.2.1.map ArgP.kind).length qq.2.2.2.2.2 5 1 ((qq.2.1.map ArgP.kind).flatMap u8C),Res.sl qq.2.2.1 qq.2.1.length qq.2.2.2.1 110 3 (qq.2.1.flatMap zgN),Res.row b4 44 [.int .u16 fm.op,.int .u32 ty,.int .u32 res,.slice qq.2.2.1 qq.2.1.length qq.2.2.2.1],AR 130 bq s (some ⟨bT,0,none⟩) cp l (((q + qq.1:Nat):Int):Int) Y e p]) (fun (qq:Nat × List ArgP × Option Addr × Nat × Option Addr × Nat)=>ArI fm Y l q qq.1 qq.2.1) (fun (qq:Nat × List ArgP × Option Addr × Nat × Option Addr × Nat)=>l.length - qq.1) ((0,[],none,0,none,0)) V (ArI.start hI.le) ⟨Z,trivial⟩ ?_
     intro ⟨j,ags,xo,xc,ko,kc⟩ f w V hJ ih20
     replace V:St _ _ ([Res.sl ko (ags.map ArgP.kind).length kc 5 1 ((ags.map ArgP.kind).flatMap u8C),Res.sl xo ags.length xc 110 3 (ags.flatMap zgN),Res.row b4 44 [.int .u16 fm.op,.int .u32 ty,.int .u32 res,.slice xo ags.length xc],AR 130 bq s (some ⟨bT,0,none⟩) cp l (((q + j:Nat):Int):Int) Y e p] ++ [_,_,_,_]) _ _:=V
     replace hJ:ArI fm Y l q j ags:=hJ
     refine zbj (sl:=[(7,.slice ko (ags.map ArgP.kind).length kc)]) ⟨Z,trivial⟩ ?_
     have hjl:=hJ.len
     have hjle:=hJ.le
     have hkl:(ags.map ArgP.kind).length = ags.length:=List.length_map _
     refine SQ<|SR<|MP Z ?_
     replace V:=V.pick (.c .u3 (.k7 .nil))
     refine Q (zav (v1:=Pp _ _) zp3 Z Z ((zeF _ _ _ _ _ (q + j) _ _ _ _ (V.hL _ Q0)).mono fun v w hp=>?_))
     obtain ⟨rfl,hp⟩:=hp
     replace V:=V.call1 hp
     refine G<|zaa Z (fun g21=>?_) (fun g21=>?_)
     ·refine SR <| Q <| zac zfZ Z <| Q <| zae (v := .int .u16 _) zov Z Z (V.cellL Q6 Z) <| Q <| zac zcg Z <| Q <| zae (v := .slice _ _ _) zeo Z Z (V.cellL Q3 Z) <| Q <| zaQ (rest := []) zeo Z <| Q <| zaK (v1 := .int .u16 _) (v2 := .int .i64 _) zsV Z Z Z <| Ret.det (zkO hop hop0.1 _ j hjl O _) V fun w V => AC Z <| G <| SQ <| SR <| MC Z <| Q (zai Z Z ?_)
      refine G<|zaa Z (fun g22=>?_) (fun g22=>?_)
      ·refine SQ ?_
       apply RunD.start [(13,Res.row bq 130 _,Res.emp)] V (bs:=[0,0,0,4,12,28,0,64,192,448,1020,2044,4092,8190,16383,32767]) (ds:=[some 113,some 114,some 115,some 116,some 117,some 118,some 119,some 120,some 121,some 122,some 123,some 124,some 125,some 126,none,some 3]) (htab:=⟨Kr,Kr,Kr⟩)
       intro tab23
       refine DO tab23 1 (fun _ _ _ hc=>zaC (vs:=zbA _ _ _ _ _ _) zbB Z (hc.old (v:=Pp _ _) Z Z Z) Z (zab (n:=4) (hc.st.objL (Ar Q2)) _ Z) hc.z)<|DO tab23 2 (fun _ _ _ hc=>zad (v:=Pp _ _) (hc.old Z Z Z) hc.z)<|DO tab23 3 (fun _ _ _ hc=>zad (v:=Pp _ _) (hc.old Z Z Z) hc.z)<|DO tab23 4 (fun _ _ _ hc=>zaF (hc.d 2 Z Z Z Z) hc.z)<|DO tab23 5 (fun _ _ _ hc=>zac zds (hc.d 3 Z Z Z Z) hc.z)<|zeb (det _) tab23 6 (fun f' L' w' hc hlate=>zae (v:=.slice _ _ _) ziU Z (hc.d 4 Z Z Z Z) (hc.st.cellL (Al (hlate _ _ _ Q0 Z)) Z) hc.z)<|DO tab23 7 (fun _ _ _ hc=>zad (v:=Pp _ _) (hc.old Z Z Z) hc.z)<|DO tab23 8 (fun _ _ _ hc=>zaF (hc.d 6 Z Z Z Z) hc.z)<|DO tab23 9 (fun _ _ _ hc=>zac zcs (hc.d 7 Z Z Z Z) hc.z)<|zeb (det _) tab23 10 (fun f' L' w' hc hlate=>zae (v:=.int .i64 _) ty3 Z (hc.d 8 Z Z Z Z) (hc.st.cellL (Al (hlate _ _ _ Q0 Z)) Z) hc.z)<|DO tab23 11 (fun _ _ _ hc=>zbb ziU zbO (hc.d 5 Z Z Z Z) (hc.d 9 Z Z Z Z) O O hc.z)<|DO tab23 12 (fun _ _ _ hc=>zac zcD (hc.d 10 Z Z Z Z) hc.z)<|DO tab23 13 (fun _ _ _ hc=>zae (v:=.int .i64 _) ty3 Z (hc.d 11 Z Z Z Z) (Res.sl_cell (hc.st.hD _ Q0) (zct (g:=zmj) (d:=zaL) zdX Z O)) hc.z)<|zcS (fun g v rs=>v = .bool false ∧ rs = [AR 130 bq s (some ⟨bT,0,none⟩) cp l (((q + j:Nat):Int):Int) Y 70 ((l.getD (q + j) zaL).at_)]) tab23 14 Q0 (fun f' L' L'' w' hc ⟨X,hrem,hX⟩=>zbm (v1:=Pp _ _) (v2:=.int .i64 _) (v3:=.int .i64 _) zcW Z (hc.d 1 Z Z Z Z) Z (hc.d 12 Z Z Z Z) ((zbo bq s _ cp l (q + j) Y e p 70 ((l.getD (q + j) zaL).at_) _ (hc.st.hL _ hrem.mem2)).mono fun v w hp=>⟨[_],fun g hg=>⟨hp.1,Z⟩,hX _ _ (St.callRem hc.st hrem hp.2)⟩))<|RunD.fin zaB tab23 V Z (fun f24 w R27 hs25 hd26 hr28 V=>?_)
       obtain ⟨h113_,r0⟩:=hd26 0 113 rfl rfl
       obtain ⟨h114_,r1⟩:=hd26 1 114 rfl rfl
       obtain ⟨h115_,r2⟩:=hd26 2 115 rfl rfl
       obtain ⟨h116_,r3⟩:=hd26 3 116 rfl rfl
       obtain ⟨h117_,r4⟩:=hd26 4 117 rfl rfl
       obtain ⟨h118_,r5⟩:=hd26 5 118 rfl rfl
       obtain ⟨h119_,r6⟩:=hd26 6 119 rfl rfl
       obtain ⟨h120_,r7⟩:=hd26 7 120 rfl rfl
       obtain ⟨h121_,r8⟩:=hd26 8 121 rfl rfl
       obtain ⟨h122_,r9⟩:=hd26 9 122 rfl rfl
       obtain ⟨h123_,r10⟩:=hd26 10 123 rfl rfl
       obtain ⟨h124_,r11⟩:=hd26 11 124 rfl rfl
       obtain ⟨h125_,r12⟩:=hd26 12 125 rfl rfl
       obtain ⟨h126_,r13⟩:=hd26 13 126 rfl rfl
       simp only [rg14,Fc,Fn,Mc,Mn,r0,r1,r2,r3,r4,r5,r6,r7,r8,r9,r10,r11,r12,r13,Na,An,Ca] at V
       refine zaH (sl:=[(2,Pp _ _),(113,zbt _ _ _ _ _ _),(126,.bool _)]) ⟨(hs25 2 Z).trans Z,h113_,h126_,trivial⟩ ?_
       clear hs25 hd26 hr28 tab23
       refine Q (SO (v:=zbt _ _ _ _ _ _) V zbB Z Z .u8 fun w V=>?_)
       refine AB Z<|G<|zah func74 Z (zak (vs:=zbA _ _ _ _ _ _) Z zbB Z Z (zab (n:=4) (V.objL Q8) _ Z)) (TP (v:=.bool _) Z) ?_
       replace V:=V.pick (.k1 .nil)
       exact .inl ⟨_,_,_,_,_,_,_,_,_,hI.zero hJ O g22,Z,V.noD⟩
      refine zaj<|SR<|MP Z<|MC Z ?_
      have hc0:zaN fm (j:Int) ≠ 0:=g22
      refine Q (zaK (v1:=Pp _ _) (v2:=.int .u8 _) ent132 Z Z Z ((zop bq s (some ⟨bT,0,none⟩) cp l (q + j) Y e p (zaN fm (j:Int)) (zdN fm _) hc0 _ O hl hll hts hbd hpl).mono fun v w hp=>?_))
      obtain ⟨fn,fi,ca,R,rfl,hp,hcl⟩:=hp
      replace V:St _ _ (_ :: _) _ _:=V.call0 hp
      replace V:=V.pick (.c .u1 (.k8 .nil))
      refine Q (zou  Z  (((hcl _ (V.hL _ Q0) (V.hD _ Q0) (V.sepD _ Q0 _ Q0) (V.hD _ Q1) (V.sepD _ Q0 _ Q1) (V.hL _ Q1) ((List.pairwise_cons.1 V.sep).1 _ Q0))).mono fun v w hp=>?_))
      rcases hp with ⟨z1,z2,z3,a2,hne,rfl,hp⟩ | ⟨hz,rfl,hp⟩
      ·replace V := V.call1 hp
       refine Q<|zad (v:=.tuple #[zcp _ _ _,.bool _]) Z<|Q<|Ex (zcp _ _ _) Z Z<|Q<|Ex (.bool _) Z Z<|Q<|zaw V zbc fun w b13 V=>Q (SO (v:=zcp _ _ _) V zbc Z Z .u0 fun w V=>?_)
       refine AB Z<|G<|zal [(0,Pp _ _),(2,Pp _ _),(4,Pp _ _),(5,Pp _ _),(7,.slice _ _ _),(13,Pp _ _),(14,.bool _)] E7 fun f=>SQ<|SR<|MB Z<|Q<|zaT Z<|G<|zat (Vb (congrArg not (Z:false = _)))<|SR<|Q<|zaC (vs:=zbA _ _ _ _ _ _) zbB Z Z Z (zab (n:=4) (V.objL Q5) _ Z)<|Q (SO (v:=zbt _ _ _ _ _ _) V zbB Z Z .u9 fun w V=>?_)
       refine AB Z<|G<|zah func74 Z (zak (vs:=zbA _ _ _ _ _ _) Z zbB Z Z (zab (n:=4) (V.objL Q9) _ Z)) (TP (v:=.bool _) Z) ?_
       replace V:=V.pick (.c .u1 .nil)
       exact .inl ⟨_,_,_,_,_,_,_,_,_,hI.bad hJ O hne,Z,V.noD⟩
      ·replace V := V.call1 hp
       refine Q<|zad (v:=.tuple #[zcp _ _ _,.bool _]) Z<|Q<|Ex (zcp _ _ _) Z Z<|Q<|Ex (.bool _) Z Z<|Q<|zaw V zbc fun w b13 V=>Q (SO (v:=zcp _ _ _) V zbc Z Z .u0 fun w V=>?_)
       refine AB Z<|G<|zal [(0,Pp _ _),(2,Pp _ _),(4,Pp _ _),(5,Pp _ _),(7,.slice _ _ _),(13,Pp _ _),(14,.bool _)] E7 fun f=>SQ<|SR<|MB Z<|Q<|zaT Z<|G<|zas (Vb (congrArg not (Z:true = _)))<|zaj<|SR<|Q<|zac zcg Z<|Q (zae (v:=.slice _ _ _) zeo Z Z (V.cellL Q5 Z) ?_)
       refine Q<|zaC (vs:=zcB _ _ _) zbc Z Z Z (zab (n:=3) (V.objL Q0) _ Z)<|Q (zaI (z0:=[.int .u8 0,.int .u32 0,str []]) V zeo zbc Z Z Kr (.c (v:=zcp _ _ _) Z (h:=.nil)) fun w b140 V=>?_)
       refine Q (zaO (news:=(zcB _ _ _)) V zeo zbc Z Z .u5 Z Z Z (zab (n:=3) (V.objL Q0) _ Z) Z Z O fun w ao29 cp30 V=>?_)
       replace V:=V.drop .u1
       refine Q<|zac zcg Z<|Q (SO (v:=.slice _ _ _) V zeo Z Z .u5 fun w V=>?_)
       refine NSR<|ML Z<|Q<|zac zdt Z<|Q<|zae (v:=.int .u8 _) ty5 Z Z (V.cellL Q1 Z)<|Q (zaI (z0:=[.int .u8 0]) V zgh ty5 Z Z Kr (.c (v:=.int .u8 _) Z (h:=.nil)) fun w b146 V=>?_)
       refine Q (zaO (news:=[.int .u8 _]) V zgh ty5 Z Z .u5 Z Z Z (zab (n:=1) (V.objL Q0) _ Z) Z Z O fun w ao31 cp32 V=>?_)
       replace V:=V.drop .u1
       refine AL Z<|G ?_
       have e1:(ags ++ [(zbE (zaN fm (j:Int)) (l.getD (q + j) zaL) Y).1]).length = ags.length + 1:=List.length_append
       have e2:(ags ++ [(zbE (zaN fm (j:Int)) (l.getD (q + j) zaL) Y).1]).flatMap zgN = ags.flatMap zgN ++ zgN (zbE (zaN fm (j:Int)) (l.getD (q + j) zaL) Y).1:=by rw [List.flatMap_append]; simp
       have e3:((ags ++ [(zbE (zaN fm (j:Int)) (l.getD (q + j) zaL) Y).1]).map ArgP.kind).flatMap u8C = (ags.map ArgP.kind).flatMap u8C ++ [.int .u8 (zbE (zaN fm (j:Int)) (l.getD (q + j) zaL) Y).1.kind]:=by rw [List.map_append,List.flatMap_append]; rfl
       have e4:((ags ++ [(zbE (zaN fm (j:Int)) (l.getD (q + j) zaL) Y).1]).map ArgP.kind).length = (ags.map ArgP.kind).length + 1:=by rw [List.length_map,List.length_map,e1]
       replace V:=V.pick (.k2 (.c .u3 (.c .u1 (.c .u2 (.c .u2 (.c .u2 (.c .u2 .nil)))))))
       refine zg1 ?_ (SQ (zaj (ih20 ((j + 1,ags ++ [(zbE (zaN fm (j:Int)) (l.getD (q + j) zaL) Y).1],ao29,cp30,ao31,cp32)) _ w ((by (try dsimp only); omega)) (by (try dsimp only); rw [e1,e2,e3,e4]; exact V) (hJ.step (by omega) hz) E4 ⟨(by (try dsimp only); rw [e4]; rfl),trivial⟩)))
       rfl
     refine zaj<|SQ<|SR<|Q<|zac zfZ rfl<|Q<|zae (v:=.int .u16 _) zov rfl rfl (V.cellL Q6 rfl)<|ML rfl<|Q<|zaK (v1:=.int .u16 _) (v2:=.slice _ _ _) zsU rfl rfl rfl<|Ret.det (zkR fm.op hop0.1 (ags.map ArgP.kind) _ _ _ (Res.rs_of_sl (V.hL _ Q1)) (by rw [List.length_map]; omega)) V fun w V=>Q<|zad (v:=.tuple #[.int .i64 _,.bool _]) rfl<|Q<|Ex (.int .i64 _) rfl rfl<|Q<|Ex (.bool _) rfl rfl<|AI rfl<|AB rfl<|G<|SQ ?_
     refine RG<|MB Z<|Q<|zaT Z<|G<|zaR Z (fun g33=>?_) (fun g33=>?_)
     ·refine SQ ?_
      apply RunD.start [(7,Res.row bq 130 _,Res.emp)] V (bs:=[0,0,0,4,12,28,60,126,255,511]) (ds:=[some 157,some 158,some 159,some 160,some 161,some 162,some 163,some 164,none,some 3]) (htab:=⟨Kr,Kr,Kr⟩)
      intro tab34
      refine DO tab34 1 (fun _ _ _ hc=>zaC (vs:=zbA _ _ _ _ _ _) zbB Z (hc.old (v:=Pp _ _) Z Z Z) Z (zab (n:=4) (hc.st.objL (Ar Q2)) _ Z) hc.z)<|DO tab34 2 (fun _ _ _ hc=>zad (v:=Pp _ _) (hc.old Z Z Z) hc.z)<|DO tab34 3 (fun _ _ _ hc=>zad (v:=Pp _ _) (hc.old Z Z Z) hc.z)<|DO tab34 4 (fun _ _ _ hc=>zaF (hc.d 2 Z Z Z Z) hc.z)<|DO tab34 5 (fun _ _ _ hc=>zac zjm (hc.d 3 Z Z Z Z) hc.z)<|zeb (det _) tab34 6 (fun f' L' w' hc hlate=>zae (v:=str _) ty9 Z (hc.d 4 Z Z Z Z) (hc.st.cellL (Al (hlate _ _ _ Q0 Z)) Z) hc.z)<|DO tab34 7 (fun _ _ _ hc=>zaX (rest:=[]) ty9 (hc.d 5 Z Z Z Z) hc.z)<|zcS (fun g v rs=>v = .bool false ∧ rs = [AR 130 bq s (some ⟨bT,0,none⟩) cp l (((q + j:Nat):Int):Int) Y 72 (s.length)]) tab34 8 Q0 (fun f' L' L'' w' hc ⟨X,hrem,hX⟩=>zbm (v1:=Pp _ _) (v2:=.int .i64 _) (v3:=.int .i64 _) zcW Z (hc.d 1 Z Z Z Z) Z (hc.d 6 Z Z Z Z) ((zbo bq s _ cp l (q + j) Y e p 72 (s.length) _ (hc.st.hL _ hrem.mem2)).mono fun v w hp=>⟨[_],fun g hg=>⟨hp.1,Z⟩,hX _ _ (St.callRem hc.st hrem hp.2)⟩))<|RunD.fin zaB tab34 V Z (fun f35 w R38 hs36 hd37 hr39 V=>?_)
      obtain ⟨h157_,r0⟩:=hd37 0 157 rfl rfl
      obtain ⟨h158_,r1⟩:=hd37 1 158 rfl rfl
      obtain ⟨h159_,r2⟩:=hd37 2 159 rfl rfl
      obtain ⟨h160_,r3⟩:=hd37 3 160 rfl rfl
      obtain ⟨h161_,r4⟩:=hd37 4 161 rfl rfl
      obtain ⟨h162_,r5⟩:=hd37 5 162 rfl rfl
      obtain ⟨h163_,r6⟩:=hd37 6 163 rfl rfl
      obtain ⟨h164_,r7⟩:=hd37 7 164 rfl rfl
      simp only [rg8,Fc,Fn,Mc,Mn,r0,r1,r2,r3,r4,r5,r6,r7,Na,An,Ca] at V
      refine zaH (sl:=[(2,Pp _ _),(157,zbt _ _ _ _ _ _),(164,.bool _)]) ⟨(hs36 2 Z).trans Z,h157_,h164_,trivial⟩ ?_
      clear hs36 hd37 hr39 tab34
      refine Q (SO (v:=zbt _ _ _ _ _ _) V zbB Z Z .u8 fun w V=>?_)
      refine AB Z<|G<|zah func74 Z (zak (vs:=zbA _ _ _ _ _ _) Z zbB Z Z (zab (n:=4) (V.objL Q8) _ Z)) (TP (v:=.bool _) Z) ?_
      replace V:=V.pick (.k1 .nil)
      exact .inl ⟨_,_,_,_,_,_,_,_,_,hI.nofit hJ (by omega) (by simpa using g33),rfl,V.noD⟩
     have hfit:(zdS fm.op (ags.map ArgP.kind)).2 = true:=by simpa using g33
     have hsm:=hJ.small hts hll hl24
     obtain ⟨rop,rws,re,hR⟩:∃ rop rws re,zja Y (⟨fm.op,ty,res,ags⟩:InstL) = ((rop,rws),re):=⟨_,_,_,rfl⟩
     have hre:re = zbg Y ⟨fm.op,ty,res,ags⟩:=by rw [← ziw,hR]
     refine zaj<|SQ<|SQ<|zlS [(9,10)] [] V (bs:=[0,0,2,6,14,31,63,127,127,0,767,2047]) (ds:=[some 166,some 167,some 168,some 169,some 170,some 171,some 165,some 172,some 173,some 17,none,some 18]) ⟨Kr,Kr,Kr⟩ (fun tab40=>?_)
     refine DO tab40 1 (fun _ _ _ hc=>zaC (vs:=zbA _ _ _ _ _ _) zbB rfl (hc.old (v:=Pp _ _) rfl rfl rfl) rfl (zab (n:=4) (hc.st.objL (Ar Q3)) _ rfl) hc.z)<|DO tab40 2 (fun _ _ _ hc=>zad (v:=Pp _ _) (hc.old rfl rfl rfl) hc.z)<|DO tab40 3 (fun _ _ _ hc=>zaF (hc.d 1 rfl rfl rfl rfl) hc.z)<|DO tab40 4 (fun _ _ _ hc=>zac zmO (hc.d 2 rfl rfl rfl rfl) hc.z)<|DO tab40 5 (fun _ _ _ hc=>zae (v:=.int .u32 _) zbM rfl (hc.d 3 rfl rfl rfl rfl) (hc.st.cellL (Ar Q0) rfl) hc.z)<|RunD.op (fun v rs=>∃ ro rc,v = .tuple #[.agg #[.int .u16 rop,.slice ro rws.length rc],.int .i64 re] ∧ rs = [Res.sl ro rws.length rc 22 1 (rws.flatMap zir)]) tab40 6 (fun _ _ _ hc=>zaK (v1:=zbt _ _ _ _ _ _) (v2:=.int .u32 _) ztN rfl (hc.d 0 rfl rfl rfl rfl) (hc.d 4 rfl rfl rfl rfl) ((zkU (p:=⟨fm.op,ty,res,xo,xc,ags⟩) hR hop0.1 _ (Res.rs_of_sl (hc.st.hL _ (Ar Q2))) hsm.1 hsm.2).mono fun v w hp=>(by obtain ⟨ro,rc,rfl,hp⟩:=hp; exact ⟨_,⟨ro,rc,rfl,rfl⟩,hc.st.call0 hp⟩)))<|zjy (fun g v rs=>v = g 171 ∧ rs = []) tab40 7 (fun _ _ _ hc=>zad (evs rfl rfl) ⟨[],fun g hg=>⟨(hg 5 171 rfl rfl).symm,rfl⟩,hc.st⟩)<|zjy (fun g v rs=>(∀ ro rc,g 171 = .tuple #[.agg #[.int .u16 rop,.slice ro rws.length rc],.int .i64 re] → v = .agg #[.int .u16 rop,.slice ro rws.length rc]) ∧ rs = []) tab40 8 (fun f' L' w' hc=> by obtain ⟨_,_,q1,_⟩:=hc.dep 5 171 rfl rfl; obtain ⟨ro,rc,htc,_⟩:=q1; obtain ⟨gm,_,q2,hgm,_⟩:=hc.dep 6 165 rfl rfl; have htm:f' 165 = .tuple #[.agg #[.int .u16 rop,.slice ro rws.length rc],.int .i64 re]:=(by rw [q2.1,hgm 5 171 rfl rfl,htc]); exact zdg (v:=.agg #[.int .u16 rop,.slice ro rws.length rc]) (evs htm rfl) rfl ⟨[],fun g hg=>⟨fun ro2 rc2 e=>(by rw [hg 5 171 rfl rfl,htc] at e; cases e; rfl),rfl⟩,hc.st⟩)<|RunD.op (det (.int .i64 re)) tab40 9 (fun f' L' w' hc=> by obtain ⟨_,_,q1,_⟩:=hc.dep 5 171 rfl rfl; obtain ⟨ro,rc,htc,_⟩:=q1; obtain ⟨gm,_,q2,hgm,_⟩:=hc.dep 6 165 rfl rfl; have htm:f' 165 = .tuple #[.agg #[.int .u16 rop,.slice ro rws.length rc],.int .i64 re]:=(by rw [q2.1,hgm 5 171 rfl rfl,htc]); exact zdg (v:=.int .i64 re) (evs htm rfl) rfl hc.z)<|RunD.op (fun v rs=>∃ b,v = .pointer (some ⟨b,0,none⟩) ∧ rs = [Res.row b 62 [.int .u16 0,.slice none 0 0]]) tab40 10 (fun _ _ _ hc=>zaw hc.st zfA fun w b V=>⟨[_],⟨b,rfl,rfl⟩,V⟩)<|zqr (fun g v rs=>v = undef ∧ ∃ b,g 17 = .pointer (some ⟨b,0,none⟩) ∧ ∀ ro rc,g 171 = .tuple #[.agg #[.int .u16 rop,.slice ro rws.length rc],.int .i64 re] → rs = [Res.row b 62 [.int .u16 rop,.slice ro rws.length rc]]) tab40 11 9 17 Q0 rfl (fun f' L' L'' w' hc hq=>by obtain ⟨_,rs,hz,_,hp⟩:=hq; obtain ⟨b,hb,hrs⟩:=hz; subst hrs; obtain ⟨_,_,q1,_⟩:=hc.dep 5 171 rfl rfl; obtain ⟨ro,rc,htc,_⟩:=q1; obtain ⟨gx,_,q3,hgx,_⟩:=hc.dep 7 172 rfl rfl; have htx:=q3.1 ro rc ((hgx 5 171 rfl rfl).trans htc); have V:=hc.st.perm (hp.append_right _); exact zbI (v:=gHL _ _ _ _) V zfA (evs hb rfl) (evs htx rfl) rfl rfl rfl .here (by repeat (first | exact Put.nil | apply Put.put | apply Put.skip)) fun w V=>⟨[_],fun g hg=>⟨rfl,b,(hg 9 17 rfl rfl).trans hb,fun ro2 rc2 e=>(by rw [hg 5 171 rfl rfl,htc] at e; cases e; rfl)⟩,V⟩) ?_
     refine zkJ zaB tab40 V Z (fun f41 w R44 hs42 hd43 hr45 V=>?_)
     obtain ⟨h166_,r0⟩:=hd43 0 166 rfl rfl
     obtain ⟨h167_,r1⟩:=hd43 1 167 rfl rfl
     obtain ⟨h168_,r2⟩:=hd43 2 168 rfl rfl
     obtain ⟨h169_,r3⟩:=hd43 3 169 rfl rfl
     obtain ⟨h170_,r4⟩:=hd43 4 170 rfl rfl
     obtain ⟨ro,rc,h171_,r5⟩:=hd43 5 171 rfl rfl
     obtain ⟨h165_,r6⟩:=hd43 6 165 rfl rfl
     rw [DrawTab.mask tab40 _ (j:=6) (l:=5) (t:=171) rfl rfl,h171_] at h165_
     obtain ⟨h172_,r7⟩:=hd43 7 172 rfl rfl
     replace h172_:=h172_ ro rc ((DrawTab.mask tab40 _ (j:=7) (l:=5) (t:=171) rfl rfl).trans h171_)
     obtain ⟨h173_,r8⟩:=hd43 8 173 rfl rfl
     obtain ⟨_,_,b17,h17_,r10⟩:=hr45 10 rfl
     rw [DrawTab.mask tab40 _ (j:=10) (l:=9) (t:=17) rfl rfl] at h17_
     replace r10:=r10 ro rc ((DrawTab.mask tab40 _ (j:=10) (l:=5) (t:=171) rfl rfl).trans h171_)
     simp only [rg11,Fc,Fn,Mc,Mn,show zk6 [(9,10)] R44 0 = R44 0 from rfl,show zk6 [(9,10)] R44 1 = R44 1 from rfl,show zk6 [(9,10)] R44 2 = R44 2 from rfl,show zk6 [(9,10)] R44 3 = R44 3 from rfl,show zk6 [(9,10)] R44 4 = R44 4 from rfl,show zk6 [(9,10)] R44 5 = R44 5 from rfl,show zk6 [(9,10)] R44 6 = R44 6 from rfl,show zk6 [(9,10)] R44 7 = R44 7 from rfl,show zk6 [(9,10)] R44 8 = R44 8 from rfl,show zk6 [(9,10)] R44 9 = [] from rfl,show zk6 [(9,10)] R44 10 = R44 10 from rfl,r0,r1,r2,r3,r4,r5,r6,r7,r8,r10,Na,An,Ca] at V
     refine zaH (sl:=[(0,Pp _ _),(2,Pp _ _),(4,Pp _ _),(173,.int .i64 _)]) ⟨(hs42 0 Z).trans Z,(hs42 2 Z).trans Z,(hs42 4 Z).trans Z,h173_,trivial⟩ ?_
     clear hs42 hd43 hr45 tab40
     refine AI Z<|G<|zal [(0,Pp _ _),(2,Pp _ _),(4,Pp _ _),(18,.int .i64 _)] E4 fun f=>SR<|MI Z<|Q<|za8 Z Z<|G<|zaa Z (fun g46=>?_) (fun g46=>?_)
     ·refine SQ ?_
      replace V:=V.pick (.c .u2 (.k9 .nil))
      apply RunD.start [(3,Res.row bq 130 _,Res.emp)] V (bs:=[0,0,0,6,15,31]) (ds:=[some 176,some 177,some 178,some 179,none,some 3]) (htab:=⟨Kr,Kr,Kr⟩)
      intro tab47
      refine DO tab47 1 (fun _ _ _ hc=>zaC (vs:=zbA _ _ _ _ _ _) zbB Z (hc.old (v:=Pp _ _) Z Z Z) Z (zab (n:=4) (hc.st.objL (Ar Q4)) _ Z) hc.z)<|DO tab47 2 (fun _ _ _ hc=>zad (v:=Pp _ _) (hc.old Z Z Z) hc.z)<|DO tab47 3 (fun _ _ _ hc=>zad (v:=.int .i64 _) (hc.old Z Z Z) hc.z)<|zcS (fun g v rs=>v = .bool false ∧ rs = [AR 130 bq s (some ⟨bT,0,none⟩) cp l (((q + j:Nat):Int):Int) Y re 0]) tab47 4 Q0 (fun f' L' L'' w' hc ⟨X,hrem,hX⟩=>zbm (v1:=Pp _ _) (v2:=.int .i64 _) (v3:=.int .i64 _) zcW Z (hc.d 1 Z Z Z Z) (hc.d 2 Z Z Z Z) Z ((zbo bq s _ cp l (q + j) Y e p re 0 _ (hc.st.hL _ hrem.mem2)).mono fun v w hp=>⟨[_],fun g hg=>⟨hp.1,Z⟩,hX _ _ (St.callRem hc.st hrem hp.2)⟩))<|RunD.fin zaB tab47 V Z (fun f48 w R51 hs49 hd50 hr52 V=>?_)
      obtain ⟨h176_,r0⟩:=hd50 0 176 rfl rfl
      obtain ⟨h177_,r1⟩:=hd50 1 177 rfl rfl
      obtain ⟨h178_,r2⟩:=hd50 2 178 rfl rfl
      obtain ⟨h179_,r3⟩:=hd50 3 179 rfl rfl
      simp only [rg4,Fc,Fn,Mc,Mn,r0,r1,r2,r3,Na,An,Ca] at V
      refine zaH (sl:=[(2,Pp _ _),(176,zbt _ _ _ _ _ _),(179,.bool _)]) ⟨(hs49 2 Z).trans Z,h176_,h179_,trivial⟩ ?_
      clear hs49 hd50 hr52 tab47
      refine Q (SO (v:=zbt _ _ _ _ _ _) V zbB Z Z .u10 fun w V=>?_)
      refine AB Z<|G<|zah func74 Z (zak (vs:=zbA _ _ _ _ _ _) Z zbB Z Z (zab (n:=4) (V.objL Q10) _ Z)) (TP (v:=.bool _) Z) ?_
      replace V:=V.pick (.k1 .nil)
      exact .inl ⟨_,_,_,_,_,_,_,_,_,hI.wrong hJ O hfit hre g46,Z,V.noD⟩
     refine zaj<|SR<|Q<|zaC (vs:=zbA _ _ _ _ _ _) zbB Z Z Z (zab (n:=4) (V.objL Q5) _ Z)<|Q (SO (v:=zbt _ _ _ _ _ _) V zbB Z Z .u9 fun w V=>?_)
     refine AB Z<|G<|zah func74 Z (zak (vs:=zbA _ _ _ _ _ _) Z zbB Z Z (zab (n:=4) (V.objL Q9) _ Z)) (TP (v:=.bool _) Z) ?_
     replace V:=V.pick (.c .u2 (.c .u3 .nil))
     exact .inr ⟨⟨fm.op,ty,res,xo,xc,ags⟩,_,hI.good hJ O hfit hre O,hsm.1,hsm.2,hop0,Z,V.noD⟩
    ·refine SR <| Q <| zac zeY Z <| Q <| zae (v := .bool _) ty4 Z Z (V.cellL Q4 Z) <| G <| zaR Z (fun g53 => ?_) (fun g53 => ?_)
     ·refine SR <| MP Z ?_
      replace V:=V.pick (.c .u1 (.k5 .nil))
      refine Q (zav (v1:=Pp _ _) zsW Z Z ((zqF _ _ _ _ l (m + 1) _ _ _ _ (V.hL _ Q0) (V.hD _ Q0) (V.sepD _ Q0 _ Q0) hl hll hts hbd hpl).mono fun v w hp=>?_))
      rcases hp with ⟨hk96,rfl,hp⟩ | ⟨hk96,hd96,rfl,hp⟩ | ⟨hk96,hd96,he96,rfl,hp⟩ | ⟨hk96,hd96,he96,rfl,hp⟩
      ·replace V := V.call1 hp
       refine Q<|zad (v:=.tuple #[.int .u32 _,.bool _]) Z<|Q<|Ex (.int .u32 _) Z Z<|Q<|Ex (.bool _) Z Z<|Q<|zac zey Z<|Q (SO (v:=.int .u32 _) V zbM Z Z .u1 fun w V=>?_)
       refine AB Z<|NSR<|MB Z<|Q<|zaT Z<|G<|zat (Vb (congrArg not (Z:false = _)))<|SR<|Q<|zaC (vs:=zbA _ _ _ _ _ _) zbB Z Z Z (zab (n:=4) (V.objL Q1) _ Z)<|Q (SO (v:=zbt _ _ _ _ _ _) V zbB Z Z .u5 fun w V=>?_)
       refine AB Z<|G<|zah func74 Z (zak (vs:=zbA _ _ _ _ _ _) Z zbB Z Z (zab (n:=4) (V.objL Q5) _ Z)) (TP (v:=.bool _) Z) ?_
       replace V:=V.pick (.k1 .nil)
       exact .inl ⟨_,_,_,_,_,_,_,_,_,hC.early g53 hk96,Z,V.noD⟩
      ·replace V := V.call1 hp
       refine Q<|zad (v:=.tuple #[.int .u32 _,.bool _]) Z<|Q<|Ex (.int .u32 _) Z Z<|Q<|Ex (.bool _) Z Z<|Q<|zac zey Z<|Q (SO (v:=.int .u32 _) V zbM Z Z .u1 fun w V=>?_)
       refine AB Z<|NSR<|MB Z<|Q<|zaT Z<|G<|zat (Vb (congrArg not (Z:false = _)))<|SR<|Q<|zaC (vs:=zbA _ _ _ _ _ _) zbB Z Z Z (zab (n:=4) (V.objL Q1) _ Z)<|Q (SO (v:=zbt _ _ _ _ _ _) V zbB Z Z .u5 fun w V=>?_)
       refine AB Z<|G<|zah func74 Z (zak (vs:=zbA _ _ _ _ _ _) Z zbB Z Z (zab (n:=4) (V.objL Q5) _ Z)) (TP (v:=.bool _) Z) ?_
       replace V:=V.pick (.k1 .nil)
       exact .inl ⟨_,_,_,_,_,_,_,_,_,hC.notid g53 hk96 hd96,Z,V.noD⟩
      ·replace V := V.call1 hp
       refine Q<|zad (v:=.tuple #[.int .u32 _,.bool _]) Z<|Q<|Ex (.int .u32 _) Z Z<|Q<|Ex (.bool _) Z Z<|Q<|zac zey Z<|Q (SO (v:=.int .u32 _) V zbM Z Z .u1 fun w V=>?_)
       refine AB Z<|NSR<|MB Z<|Q<|zaT Z<|G<|zat (Vb (congrArg not (Z:false = _)))<|SR<|Q<|zaC (vs:=zbA _ _ _ _ _ _) zbB Z Z Z (zab (n:=4) (V.objL Q1) _ Z)<|Q (SO (v:=zbt _ _ _ _ _ _) V zbB Z Z .u5 fun w V=>?_)
       refine AB Z<|G<|zah func74 Z (zak (vs:=zbA _ _ _ _ _ _) Z zbB Z Z (zab (n:=4) (V.objL Q5) _ Z)) (TP (v:=.bool _) Z) ?_
       replace V:=V.pick (.k1 .nil)
       exact .inl ⟨_,_,_,_,_,_,_,_,_,hC.noid g53 hk96 hd96 he96,Z,V.noD⟩
      ·replace V := V.call1 hp
       refine Q<|zad (v:=.tuple #[.int .u32 _,.bool _]) Z<|Q<|Ex (.int .u32 _) Z Z<|Q<|Ex (.bool _) Z Z<|Q<|zac zey Z<|Q (SO (v:=.int .u32 _) V zbM Z Z .u1 fun w V=>?_)
       refine AB Z<|NSR<|MB Z<|Q<|zaT Z<|G<|zas (Vb (congrArg not (Z:true = _)))<|zaj ?_
       replace V:=V.pick (.c .u1 (.k5 .nil))
       exact cut18 ((idL (l.getD (m + 1) zaL).text Y,m + 2)) _ w (V) (LnI.yes hC g53 Z he96 hk96 hd96) E5 trivial
     refine zaj ?_
     exact cut18 ((0,m + 1)) _ w (V) (LnI.no hC (by simpa using g53)) E5 trivial
   ·refine SR <| MB Z <| G <| zaa Z (fun g54 => ?_) (fun g54 => ?_)
    ·refine SR <| MP Z <| Q <| zac zdb Z <| Q (zae (v := str _) ty9 Z Z (V.cellL Q2 Z) ?_)
     obtain ⟨m0,hm0⟩:=hpl 0 h0 g54
     replace V:=V.pick (.c .u1 (.k5 .nil))
     refine Q (zaK (v1:=Pp _ _) (v2:=str _) zsX Z Z Z ((ziP _ _ _ _ _ _ _ _ _ _ m0 hm0 _ (V.hL _ Q0) hbd).mono fun v w hp=>?_))
     obtain ⟨rfl,hp⟩:=hp
     replace V:=V.call1 hp
     refine Q<|zac zgt Z<|Q (SO (v:=.int .u32 _) V zbM Z Z .u1 fun w V=>?_)
     refine NSR<|Q<|zac zgt Z<|Q<|zae (v:=.int .u32 _) zbM Z Z (V.cellL Q1 Z)<|Q<|zai Z Z<|G<|zaa Z (fun g55=>?_) (fun g55=>?_)
     ·refine SQ ?_
      apply RunD.start [(4,Res.row bq 130 _,Res.emp)] V (bs:=[0,0,0,4,14,31,63]) (ds:=[some 87,some 88,some 89,some 90,some 91,none,some 3]) (htab:=⟨Kr,Kr,Kr⟩)
      intro tab56
      refine DO tab56 1 (fun _ _ _ hc=>zaC (vs:=zbA _ _ _ _ _ _) zbB Z (hc.old (v:=Pp _ _) Z Z Z) Z (zab (n:=4) (hc.st.objL (Ar Q0)) _ Z) hc.z)<|DO tab56 2 (fun _ _ _ hc=>zad (v:=Pp _ _) (hc.old Z Z Z) hc.z)<|DO tab56 3 (fun _ _ _ hc=>zac zcD (hc.old (v:=Pp _ _) Z Z Z) hc.z)<|DO tab56 4 (fun _ _ _ hc=>zae (v:=.int .i64 _) ty3 Z (hc.d 2 Z Z Z Z) (hc.st.cellL (Ar Q1) Z) hc.z)<|zcS (fun g v rs=>v = .bool false ∧ rs = [AR 130 bq s (some ⟨bT,0,none⟩) cp l (((m + 1:Nat):Int):Int) Y 43 ((l.getD 0 zaL).at_)]) tab56 5 Q0 (fun f' L' L'' w' hc ⟨X,hrem,hX⟩=>zbm (v1:=Pp _ _) (v2:=.int .i64 _) (v3:=.int .i64 _) zcW Z (hc.d 1 Z Z Z Z) Z (hc.d 3 Z Z Z Z) ((zbo bq s _ cp l (m + 1) Y e p 43 ((l.getD 0 zaL).at_) _ (hc.st.hL _ hrem.mem2)).mono fun v w hp=>⟨[_],fun g hg=>⟨hp.1,Z⟩,hX _ _ (St.callRem hc.st hrem hp.2)⟩))<|RunD.fin zaB tab56 V Z (fun f57 w R60 hs58 hd59 hr61 V=>?_)
      obtain ⟨h87_,r0⟩:=hd59 0 87 rfl rfl
      obtain ⟨h88_,r1⟩:=hd59 1 88 rfl rfl
      obtain ⟨h89_,r2⟩:=hd59 2 89 rfl rfl
      obtain ⟨h90_,r3⟩:=hd59 3 90 rfl rfl
      obtain ⟨h91_,r4⟩:=hd59 4 91 rfl rfl
      simp only [rg5,Fc,Fn,Mc,Mn,r0,r1,r2,r3,r4,Na,An,Ca] at V
      refine zaH (sl:=[(2,Pp _ _),(87,zbt _ _ _ _ _ _),(91,.bool _)]) ⟨(hs58 2 Z).trans Z,h87_,h91_,trivial⟩ ?_
      clear hs58 hd59 hr61 tab56
      refine Q (SO (v:=zbt _ _ _ _ _ _) V zbB Z Z .u6 fun w V=>?_)
      refine AB Z<|G<|zah func74 Z (zak (vs:=zbA _ _ _ _ _ _) Z zbB Z Z (zab (n:=4) (V.objL Q6) _ Z)) (TP (v:=.bool _) Z) ?_
      replace V:=V.pick (.k1 .nil)
      exact .inl ⟨_,_,_,_,_,_,_,_,_,hB.noid hrs g54 g55,Z,V.noD⟩
     refine zaj ?_
     replace V:=V.pick (.c .u1 (.k5 .nil))
     exact cut16 ((idL (l.getD 0 zaL).text Y)) _ w (V) (⟨fun _=>⟨Z,g55⟩,fun q=>absurd g54 q⟩) E5 trivial
    refine zaj ?_
    exact cut16 (0) _ w (V) (⟨fun q=>absurd q g54,fun _=>rfl⟩) E5 trivial
 ·refine SR <| MB Z <| Q <| zf9 Z <| G <| zaa Z (fun g62 => ?_) (fun g62 => ?_)
  ·refine zg1 Z (SQ (zaj ?_))
   exact cut1 (0) _ w (V) (LnA.start h0 g62) E8 trivial
  refine zaj<|SR<|MP Z<|Q<|zaF Z<|Q<|zac zcs Z<|Q<|zae (v:=.int .i64 _) ty3 Z Z (V.cellL Q0 Z)<|Q<|zaD Z Z Z zbS<|Q<|zaF Z<|Q<|zac zcs Z<|Q (SO (v:=.int .i64 _) V ty3 Z Z .u0 fun w V=>?_)
  refine G<|SQ<|SR<|MP Z<|Q (zaK (v1:=Pp _ _) (v2:=.int .u8 _) zhS Z Z Z ((zdf _ _ _ _ l 1 _ _ _ 5 _ (V.hL _ Q0) (V.hD _ Q0) (V.sepD _ Q0 _ Q0) hl hll hts).mono fun v w hp=>?_))
  rcases hp with ⟨hk39,rfl,hp⟩ | ⟨hk39,hd39,rfl,hp⟩ | ⟨hk39,hd39,rfl,hp⟩
  ·replace V := V.call1 hp
   refine Q<|zad (v:=.tuple #[zb2 _ _ _,.bool _]) Z<|Q<|Ex (zb2 _ _ _) Z Z<|Q<|Ex (.bool _) Z Z<|AB Z<|NSR<|MB Z<|Q<|zaT Z<|G<|zat (Vb (congrArg not (Z:false = _)))<|SR<|Q<|zaC (vs:=zbA _ _ _ _ _ _) zbB Z Z Z (zab (n:=4) (V.objL Q4) _ Z)<|Q (SO (v:=zbt _ _ _ _ _ _) V zbB Z Z .u5 fun w V=>?_)
   refine AB Z<|G<|zah func74 Z (zak (vs:=zbA _ _ _ _ _ _) Z zbB Z Z (zab (n:=4) (V.objL Q5) _ Z)) (TP (v:=.bool _) Z) ?_
   replace V:=V.pick (.k1 .nil)
   exact .inl ⟨_,_,_,_,_,_,_,_,_,zrD (Nn g62) h0 hk39,Z,V.noD⟩
  ·replace V := V.call1 hp
   refine Q<|zad (v:=.tuple #[zb2 _ _ _,.bool _]) Z<|Q<|Ex (zb2 _ _ _) Z Z<|Q<|Ex (.bool _) Z Z<|AB Z<|NSR<|MB Z<|Q<|zaT Z<|G<|zat (Vb (congrArg not (Z:false = _)))<|SR<|Q<|zaC (vs:=zbA _ _ _ _ _ _) zbB Z Z Z (zab (n:=4) (V.objL Q4) _ Z)<|Q (SO (v:=zbt _ _ _ _ _ _) V zbB Z Z .u5 fun w V=>?_)
   refine AB Z<|G<|zah func74 Z (zak (vs:=zbA _ _ _ _ _ _) Z zbB Z Z (zab (n:=4) (V.objL Q5) _ Z)) (TP (v:=.bool _) Z) ?_
   replace V:=V.pick (.k1 .nil)
   exact .inl ⟨_,_,_,_,_,_,_,_,_,zpD (Nn g62) hk39 hd39,Z,V.noD⟩
  ·replace V := V.call1 hp
   refine Q<|zad (v:=.tuple #[zb2 _ _ _,.bool _]) Z<|Q<|Ex (zb2 _ _ _) Z Z<|Q<|Ex (.bool _) Z Z<|AB Z<|NSR<|MB Z<|Q<|zaT Z<|G<|zas (Vb (congrArg not (Z:true = _)))<|zaj<|SQ<|zfG ?_
   exact cut1 (2) _ w (V) (LnA.said (Nn g62) hk39 hd39) E8 trivial
theorem zqI (s:Tx) (Y:Int) (w:World) (hG:LxG.holds w) (hl:s.length ≤ 1099511627776) (hl24:s.length ≤ 16777216) (hbd:0 ≤ Y ∧ Y < 4294967296):Ret prog 36 #[str s,.int .u32 Y] w (fun v w'=>∃ xo xc,(zaV s Y).1.Sm ∧ v = .tuple #[.agg #[.int .u16 (zaV s Y).1.op,.int .u32 (zaV s Y).1.ty,.int .u32 (zaV s Y).1.res,.slice xo (zaV s Y).1.args.length xc],.bool (zaV s Y).2.1,.agg #[.int .i64 (zaV s Y).2.2.1,.int .i64 (zaV s Y).2.2.2]] ∧ St w NoM [Res.sl xo (zaV s Y).1.args.length xc 110 3 ((zaV s Y).1.args.flatMap zgN)] [] w'):=by
 refine zax (args:=[str s,.int .u32 Y]) func36 Z Z Z ?_
 have V:St w NoM [] [LxG] w:=St.init_Ds (by simp only [List.forall_mem_cons]; exact ⟨hG,fun _ h=>absurd h List.not_mem_nil⟩)
 refine SR<|Q<|zaw V zbB fun w b4 V=>AB Z<|Q<|zaw V zbr fun w b6 V=>NSR<|MS Z<|MU Z<|Q (zaK (v1:=str _) (v2:=.int .u32 _) ent72 Z Z Z ((zkW s Y _ (V.hD _ Q0) hl).mono fun v w hp=>?_))
 obtain ⟨bq,ao,cp,rfl,hp⟩:=hp
 replace V:=V.call0 hp
 refine Q<|zad (v:=.tuple #[Pp _ _,gII _ _]) Z<|Q<|Ex (Pp _ _) Z Z<|Q<|Ex (gII _ _) Z Z<|Q<|zaw V zbr fun w b8 V=>AP Z<|Q (SO (v:=gII _ _) V zbr Z Z .u0 fun w V=>?_)
 refine G<|SQ<|SQ ?_
 replace V:=V.pick (.k2 (.c .u1 (.c .u1 (.k1 .nil))))
 replace V:=V.toD (L1:=[_,_,_,_]) (L2:=[_])
 refine RG<|Q<|zac zco Z<|Q<|zae (v:=.int .i64 _) zhj Z Z (V.cellL Q0 Z)<|Q<|za8 Z Z<|MB Z<|zaz (d:=20) Z (fun g1=>?_) (fun g1=>?_)
 ·refine OM (t := 20) Z (Vb (Dt g1)) Z <| OM (t := 20) Z (Vb (Dt g1)) Z <| OM (t := 20) Z (Vb (Dt g1)) Z <| Q <| zaE (u := .bool _) (Vb (Dt g1)) Z <| G <| zat (Vb (Z : true = _)) <| SQ ?_
  replace V:=V.pick (.c .u3 (.k3 .nil))
  apply RunD.start [(2,Res.row b4 44 _,Res.row b4 44 _)] V (bs:=[0,0,1,5,15]) (ds:=[some 25,some 26,none,some 5,none]) (htab:=⟨Kr,Kr,Kr⟩)
  intro tab2
  refine DO tab2 1 (fun _ _ _ hc=>zaf zbB ztj .nil hc.z) ?_
  refine DO tab2 2 (fun _ _ _ hc=>zaC (vs:=lII _ _) zbr Z (hc.old (v:=Pp _ _) Z Z Z) Z (zab (n:=2) (hc.st.objL (Ar Q0)) _ Z) hc.z)<|zck tab2 3 Q0 (fun f' L' L2 w' hc hsel=>zbI (v:=zbt _ _ _ _ _ _) hc.st zbB (hc.old (v:=Pp _ _) Z Z Z) (hc.d 0 Z Z Z Z) Z Z Z hsel (by repeat (first | exact Put.nil | apply Put.put | apply Put.skip)) fun w V=>⟨Z,V⟩) ?_
  refine DO tab2 4 (fun _ _ _ hc=>zao (v:=.bool _) Z hc.z)<|RunD.fin zaB tab2 V Z (fun f3 w R6 hs4 hd5 hr7 V=>?_)
  obtain ⟨h25_,r0⟩:=hd5 0 25 rfl rfl
  obtain ⟨h26_,r1⟩:=hd5 1 26 rfl rfl
  obtain ⟨_,_,r2⟩:=hr7 2 rfl
  obtain ⟨h5_,r3⟩:=hd5 3 5 rfl rfl
  simp only [rg4,Fc,Fn,Mc,Mn,r0,r1,r2,r3,Na,An,Ca] at V
  refine zaH (sl:=[(4,Pp _ _),(5,.bool _),(6,Pp _ _),(26,gII _ _)]) ⟨(hs4 4 Z).trans Z,h5_,(hs4 6 Z).trans Z,h26_,trivial⟩ ?_
  clear hs4 hd5 hr7 tab2
  refine Q (SO (v:=gII _ _) V zbr Z Z .u3 fun w V=>?_)
  refine G<|zbP func36 Z (zak (vs:=zbA _ _ _ _ _ _) Z zbB Z Z (zab (n:=4) (V.objL Q0) _ Z)) (TP (v:=.bool _) Z) (zak (vs:=lII _ _) Z zbr Z Z (zab (n:=2) (V.objL Q3) _ Z)) ?_
  replace V:=V.pick .nil
  have he:zaV s Y = (zeroIL,false,(zbf s).2):=zpF g1
  rw [he]
  exact ⟨none,0,zhf,Z,(V.pushNil 110 3).noD⟩
 refine TK (t:=20) Z (Vb (Df g1)) (zad (v:=Pp _ _) Z ?_)
 replace V:=V.pick (.c .u1 (.k3 .nil))
 refine TK (t:=20) Z (Vb (Df g1)) (zav (v1:=Pp _ _) zp3 Z Z ((zeF _ _ _ _ _ 0 _ _ _ _ (V.hL _ Q0)).mono fun v w hp=>?_))
 obtain ⟨rfl,hp⟩:=hp
 replace V:=V.call1 hp
 refine TK (t:=20) Z (Vb (Df g1))<|zf9 Z<|Q<|zay (u:=.bool _) (Vb (Df g1)) Z<|G<|zal [(4,Pp _ _),(6,Pp _ _),(7,Pp _ _),(8,Pp _ _),(24,.bool _)] E5 fun f=>zaa Z (fun g8=>?_) (fun g8=>?_)
 ·refine SQ ?_
  replace V:=V.pick (.c .u3 (.k3 .nil))
  apply RunD.start [(2,Res.row b4 44 _,Res.row b4 44 _)] V (bs:=[0,0,1,5,15]) (ds:=[some 25,some 26,none,some 5,none]) (htab:=⟨Kr,Kr,Kr⟩)
  intro tab9
  refine DO tab9 1 (fun _ _ _ hc=>zaf zbB ztj .nil hc.z) ?_
  refine DO tab9 2 (fun _ _ _ hc=>zaC (vs:=lII _ _) zbr Z (hc.old (v:=Pp _ _) Z Z Z) Z (zab (n:=2) (hc.st.objL (Ar Q1)) _ Z) hc.z)<|zck tab9 3 Q0 (fun f' L' L2 w' hc hsel=>zbI (v:=zbt _ _ _ _ _ _) hc.st zbB (hc.old (v:=Pp _ _) Z Z Z) (hc.d 0 Z Z Z Z) Z Z Z hsel (by repeat (first | exact Put.nil | apply Put.put | apply Put.skip)) fun w V=>⟨Z,V⟩) ?_
  refine DO tab9 4 (fun _ _ _ hc=>zao (v:=.bool _) Z hc.z)<|RunD.fin zaB tab9 V Z (fun f10 w R13 hs11 hd12 hr14 V=>?_)
  obtain ⟨h25_,r0⟩:=hd12 0 25 rfl rfl
  obtain ⟨h26_,r1⟩:=hd12 1 26 rfl rfl
  obtain ⟨_,_,r2⟩:=hr14 2 rfl
  obtain ⟨h5_,r3⟩:=hd12 3 5 rfl rfl
  simp only [rg4,Fc,Fn,Mc,Mn,r0,r1,r2,r3,Na,An,Ca] at V
  refine zaH (sl:=[(4,Pp _ _),(5,.bool _),(6,Pp _ _),(26,gII _ _)]) ⟨(hs11 4 Z).trans Z,h5_,(hs11 6 Z).trans Z,h26_,trivial⟩ ?_
  clear hs11 hd12 hr14 tab9
  refine Q (SO (v:=gII _ _) V zbr Z Z .u3 fun w V=>?_)
  refine G<|zbP func36 Z (zak (vs:=zbA _ _ _ _ _ _) Z zbB Z Z (zab (n:=4) (V.objL Q0) _ Z)) (TP (v:=.bool _) Z) (zak (vs:=lII _ _) Z zbr Z Z (zab (n:=2) (V.objL Q3) _ Z)) ?_
  replace V:=V.pick .nil
  have he:zaV s Y = (zeroIL,false,(zbf s).2):=znR g1 (by have:=g8; simp at this; omega)
  rw [he]
  exact ⟨none,0,zhf,Z,(V.pushNil 110 3).noD⟩
 have h0:0 < (zbf s).1.length:=by have:=g8; simp at this; omega
 refine zaj<|SR<|MP Z<|Q (zav (v1:=Pp _ _) ent74 Z Z ((zqE _ s _ _ (zbf s).1 Y _ _ _ O (V.hL _ Q0) (V.hD _ Q0) (V.sepD _ Q0 _ Q0) hl (zjL s) (zjK s) hl24 (V.hD _ Q1) (V.sepD _ Q0 _ Q1) hbd (zll s)).mono fun v w hp=>?_))
 rcases hp with ⟨q1,q2,o1,t1,r1,xo,xn,xc,a2,hq,rfl,hp⟩ | ⟨x,a2,hq,hsm,hla,hxo,rfl,hp⟩
 ·replace V := V.call1 hp
  refine Q<|zad (v:=.tuple #[zbt _ _ _ _ _ _,.bool _]) Z<|Q<|Ex (zbt _ _ _ _ _ _) Z Z<|Q<|Ex (.bool _) Z Z<|Q<|zaw V zbB fun w b9 V=>Q (SO (v:=zbt _ _ _ _ _ _) V zbB Z Z .u0 fun w V=>?_)
  refine AB Z<|G<|SQ<|SR<|MB Z<|Q<|zaT Z<|G<|zat (Vb (congrArg not (Z:false = _)))<|SQ ?_
  replace V:=V.pick (.c .u4 (.k4 .nil))
  apply RunD.start [(5,Res.row b4 44 _,Res.row b4 44 _)] V (bs:=[0,0,2,6,14,1,33,127]) (ds:=[some 34,some 35,some 36,some 37,some 38,none,some 5,none]) (htab:=⟨Kr,Kr,Kr⟩)
  intro tab15
  refine DO tab15 1 (fun _ _ _ hc=>zaf zbB ztj .nil hc.z) ?_
  refine DO tab15 2 (fun _ _ _ hc=>zad (v:=Pp _ _) (hc.old Z Z Z) hc.z)<|DO tab15 3 (fun _ _ _ hc=>zaF (hc.d 1 Z Z Z Z) hc.z)<|DO tab15 4 (fun _ _ _ hc=>zac zjl (hc.d 2 Z Z Z Z) hc.z)<|DO tab15 5 (fun _ _ _ hc=>zaC (vs:=lII _ _) zbr Z (hc.d 3 Z Z Z Z) Z (zab (n:=2) (hc.st.objL (Ar Q1)) _ Z) hc.z)<|zck tab15 6 Q0 (fun f' L' L2 w' hc hsel=>zbI (v:=zbt _ _ _ _ _ _) hc.st zbB (hc.old (v:=Pp _ _) Z Z Z) (hc.d 0 Z Z Z Z) Z Z Z hsel (by repeat (first | exact Put.nil | apply Put.put | apply Put.skip)) fun w V=>⟨Z,V⟩) ?_
  refine DO tab15 7 (fun _ _ _ hc=>zao (v:=.bool _) Z hc.z)<|RunD.fin zaB tab15 V Z (fun f16 w R19 hs17 hd18 hr20 V=>?_)
  obtain ⟨h34_,r0⟩:=hd18 0 34 rfl rfl
  obtain ⟨h35_,r1⟩:=hd18 1 35 rfl rfl
  obtain ⟨h36_,r2⟩:=hd18 2 36 rfl rfl
  obtain ⟨h37_,r3⟩:=hd18 3 37 rfl rfl
  obtain ⟨h38_,r4⟩:=hd18 4 38 rfl rfl
  obtain ⟨_,_,r5⟩:=hr20 5 rfl
  obtain ⟨h5_,r6⟩:=hd18 6 5 rfl rfl
  simp only [rg7,Fc,Fn,Mc,Mn,r0,r1,r2,r3,r4,r5,r6,Na,An,Ca] at V
  refine zaH (sl:=[(4,Pp _ _),(5,.bool _),(6,Pp _ _),(38,gII _ _)]) ⟨(hs17 4 Z).trans Z,h5_,(hs17 6 Z).trans Z,h38_,trivial⟩ ?_
  clear hs17 hd18 hr20 tab15
  refine Q (SO (v:=gII _ _) V zbr Z Z .u4 fun w V=>?_)
  refine G<|zbP func36 Z (zak (vs:=zbA _ _ _ _ _ _) Z zbB Z Z (zab (n:=4) (V.objL Q0) _ Z)) (TP (v:=.bool _) Z) (zak (vs:=lII _ _) Z zbr Z Z (zab (n:=2) (V.objL Q4) _ Z)) ?_
  replace V:=V.pick .nil
  have he:=(zjf (Y:=Y) g1).trans hq
  rw [he]
  exact ⟨none,0,zhf,Z,(V.pushNil 110 3).noD⟩
 ·replace V := V.call1 hp
  refine Q<|zad (v:=.tuple #[zbt _ _ _ _ _ _,.bool _]) Z<|Q<|Ex (zbt _ _ _ _ _ _) Z Z<|Q<|Ex (.bool _) Z Z<|Q<|zaw V zbB fun w b9 V=>Q (SO (v:=zbt _ _ _ _ _ _) V zbB Z Z .u0 fun w V=>?_)
  refine AB Z<|G<|SQ<|SR<|MB Z<|Q<|zaT Z<|G<|zas (Vb (congrArg not (Z:true = _)))<|zaj<|SR<|Q<|zaC (vs:=zbA _ _ _ _ _ _) zbB Z Z Z (zab (n:=4) (V.objL Q0) _ Z)<|Q (zaf zbr zc7 .nil ?_)
  refine Q (SO (v:=zbt _ _ _ _ _ _) V zbB Z Z .u5 fun w V=>?_)
  refine AB Z<|Q (SO (v:=gII _ _) V zbr Z Z .u4 fun w V=>?_)
  refine G<|zbP func36 Z (zak (vs:=zbA _ _ _ _ _ _) Z zbB Z Z (zab (n:=4) (V.objL Q5) _ Z)) (TP (v:=.bool _) Z) (zak (vs:=lII _ _) Z zbr Z Z (zab (n:=2) (V.objL Q4) _ Z)) ?_
  replace V:=V.pick (.c .u2 .nil)
  have he:=(zjf (Y:=Y) g1).trans hq
  rw [he]
  exact ⟨x.ao,x.cap,⟨hsm,hla,hxo⟩,Z,V.noD⟩
end Go.SK
