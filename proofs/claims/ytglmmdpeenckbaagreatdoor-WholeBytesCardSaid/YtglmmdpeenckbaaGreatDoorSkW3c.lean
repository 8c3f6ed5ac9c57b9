/-
  Steps of functions,plain law,and walks of functions: what the laws rest on.
-/
import Derived.Test.YtglmmdpeenckbaaGreatDoorSkW3b
set_option linter.unusedVariables false
set_option linter.unusedSimpArgs false
set_option linter.unusedSectionVars false
namespace Go.SK
open Go Go.Proofs Go.Proofs.Tryz
open Go.RowKit
theorem zpE {q:zdN} {fm:FormL} {ob:Bool} (h1:(refT.find? (nmF q)).getD zeroF = fm) (h2:(refT.find? (nmF q)).isSome = ob) (w:World):Ret prog 127 #[str q] w fun v w'=>v = .tuple #[.agg (zrW fm).toArray,.bool ob] ∧ St w NoM [] [] w':=by
 subst h1; subst h2; exact zsm q w
theorem zob {fm:FormL} (hop:zaW fm.op = fm) (h0:0 ≤ fm.op) (k j:Nat) (hk:k = j) (hb:j ≤ 9000000000000000000) (w:World):Ret prog 131 #[.int .u16 fm.op,.int .i64 (k:Int)] w fun v w'=>v = .int .u8 (zaJ fm (j:Int)) ∧ St w NoM [] [] w':=by
 subst hk
 have:=zg4 fm.op h0 (k:Int) O w
 rw [hop] at this; exact this
theorem zu2 (bq:Nat) (s:Tx) (ao:Option Addr) (cp:Nat) (l:List TokL) (Y e p:Int) (w:World) (h0:0 < l.length) (hB:(AR 130 bq s ao cp l ((0:Nat):Int) Y e p).holds w) (hT:(AT 72 ao cp l).holds w) (hTA:Apart (AR 130 bq s ao cp l ((0:Nat):Int) Y e p) (AT 72 ao cp l)) (hl:s.length ≤ 1099511627776) (hll:l.length ≤ s.length) (hts:wsz l ≤ 7 * s.length) (hl24:s.length ≤ 16777216) (hG:LxG.holds w) (hGA:Apart (AR 130 bq s ao cp l ((0:Nat):Int) Y e p) LxG) (hbd:0 ≤ Y ∧ Y < 4294967296) (hpl:∀ i,i < l.length → (l.getD i zaM).kind = 2 → ∃ m,zba (l.getD i zaM).text = some m):Ret prog 74 #[.pointer (some ⟨bq,0,none⟩)] w (fun v w'=>(∃ (q1 q2:Int) (o1 t1 r1:Int) (xo:Option Addr) (xn xc:Nat) (a':Int),zcJ s.length l Y = (zeroIL,false,(q1,q2)) ∧ v = .tuple #[.agg #[.int .u16 o1,.int .u32 t1,.int .u32 r1,.slice xo xn xc],.bool false] ∧ St w (AR 130 bq s ao cp l ((0:Nat):Int) Y e p).foot [AR 130 bq s ao cp l (a':Int) Y q1 q2] [] w') ∨ (∃ (x:InstP) (a':Int),zcJ s.length l Y = (x.L,true,(0,0)) ∧ (x.args.map zaT).sum ≤ 900000000 ∧ (∀ a ∈ x.args,a.s.length ≤ 100000000000) ∧ (0 ≤ x.op ∧ x.op < 65536) ∧ v = .tuple #[.agg #[.int .u16 x.op,.int .u32 x.ty,.int .u32 x.res,.slice x.ao x.args.length x.cap],.bool true] ∧ St w (AR 130 bq s ao cp l ((0:Nat):Int) Y e p).foot [AR 130 bq s ao cp l (a':Int) Y e p,Res.oargs 110 x] [] w')):=by
 refine zav (args:=[.pointer (some ⟨bq,0,none⟩)]) func74 Z Z Z ?_
 have V:St w (AR 130 bq s ao cp l ((0:Nat):Int) Y e p).foot [AR 130 bq s ao cp l ((0:Nat):Int) Y e p] [AT 72 ao cp l,LxG] w:=St.enter1 hB (by simp only [List.forall_mem_cons]; exact ⟨hT,hG,fun _ h=>absurd h List.not_mem_nil⟩) (by simp only [List.forall_mem_cons]; exact ⟨hTA,hGA,fun _ h=>absurd h List.not_mem_nil⟩)
 obtain ⟨bT,rfl⟩:=Res.sl_some (V.hD _ Q0) h0
 refine SR<|Q<|zar V zbo fun w b2 V=>AB Z<|G<|zhg<|SR<|Q<|zar V zbo fun w b4 V=>NSR<|Q<|zar V zb5 fun w b5 V=>G<|SQ ?_
 refine RG<|Q<|zar V zbw fun w b6 V=>NSR<|AL Z<|NSR<|AB Z<|AB Z<|NSR<|MP Z ?_
 refine Q<|zan Z<|Q<|zaa zex Z<|Q<|zae (v:=.slice _ _ _) zfI Z Z (V.cellL Q4 Z)<|Q<|zbd zfI zbw Z Z O O<|Q<|zay (vs:=ziS _ _ _) zbw Z Z Z (Res.sl_cells (k:=3) (V.hD _ Q0) _ (zbO (g:=zeJ) (d:=zaM) zcP _ _ O))<|Q<|zar V zbw fun w b10 V=>Q (SO (v:=zbZ _ _ _) V zbw Z Z .u0 fun w V=>?_)
 refine NSR<|Q<|zaa zpc Z<|Q<|zae (v:=.int .u8 _) ty5 Z Z (V.cellL Q0 Z)<|Q<|zam Z Z<|AB Z<|G<|zaj [(0,Pp _ _),(2,Pp _ _),(4,Pp _ _),(5,Pp _ _),(6,Pp _ _),(7,.slice _ _ _),(10,Pp _ _),(11,.bool _)] E8 fun f=>SQ ?_
 replace V:=V.pick (.c .u5 (.k5 .nil))
 refine zwZ (l:=0) (L1:=[_]) Z [(0,Pp _ _),(2,Pp _ _),(4,Pp _ _),(5,Pp _ _),(6,Pp _ _),(7,.slice _ _ _),(10,Pp _ _),(11,.bool _)] V E8 (fun (qq:Nat)=>[]) (fun (qq:Nat)=>[AR 130 bq s (some ⟨bT,0,none⟩) cp l (((qq:Nat):Int):Int) Y e p]) (fun (qq:Nat)=>LnA l qq) (fun m f w V hA=>?_) (fun cut1=>?_)
 replace V:St _ _ ([AR 130 bq s (some ⟨bT,0,none⟩) cp l (((m:Nat):Int):Int) Y e p] ++ [_,_,_,_,_]) _ _:=V
 replace hA:LnA l m:=hA
 ·refine SQ <| SR <| MP Z <| Q (zaE (v1 := Pp _ _) (v2 := .int .u8 _) zjS Z Z Z ((zeh _ _ _ _ l m _ _ _ 1 _ (V.hL _ Q0) (V.hD _ Q0) (V.sepD _ Q0 _ Q0) hl hll hts).mono fun v w hp => ?_))
  rcases hp with ⟨hk47,rfl,hp⟩ | ⟨hk47,hd47,rfl,hp⟩ | ⟨hk47,hd47,rfl,hp⟩
  ·replace V := V.call1 hp
   refine Q<|zad (v:=.tuple #[zbZ _ _ _,.bool _]) Z<|Q<|Ex (zbZ _ _ _) Z Z<|Q<|Ex (.bool _) Z Z<|Q (SO (v:=zbZ _ _ _) V zbw Z Z .u2 fun w V=>?_)
   refine AB Z<|NSR<|MB Z<|Q<|zaU Z<|G<|zas (Vb (congrArg not (Z:false = _)))<|SR<|Q<|zay (vs:=zbq _ _ _ _ _ _) zbo Z Z Z (zac (n:=4) (V.objL Q4) _ Z)<|Q (SO (v:=zbf _ _ _ _ _ _) V zbo Z Z .u5 fun w V=>?_)
   refine AB Z<|G<|zaq func74 Z (zat (vs:=zbq _ _ _ _ _ _) Z zbo Z Z (zac (n:=4) (V.objL Q5) _ Z)) (TP (v:=.bool _) Z) ?_
   replace V:=V.pick (.k1 .nil)
   exact .inl ⟨_,_,_,_,_,_,_,_,_,hA.early hk47,Z,V.noD⟩
  ·replace V := V.call1 hp
   refine Q<|zad (v:=.tuple #[zbZ _ _ _,.bool _]) Z<|Q<|Ex (zbZ _ _ _) Z Z<|Q<|Ex (.bool _) Z Z<|Q (SO (v:=zbZ _ _ _) V zbw Z Z .u2 fun w V=>?_)
   refine AB Z<|NSR<|MB Z<|Q<|zaU Z<|G<|zas (Vb (congrArg not (Z:false = _)))<|SR<|Q<|zay (vs:=zbq _ _ _ _ _ _) zbo Z Z Z (zac (n:=4) (V.objL Q4) _ Z)<|Q (SO (v:=zbf _ _ _ _ _ _) V zbo Z Z .u5 fun w V=>?_)
   refine AB Z<|G<|zaq func74 Z (zat (vs:=zbq _ _ _ _ _ _) Z zbo Z Z (zac (n:=4) (V.objL Q5) _ Z)) (TP (v:=.bool _) Z) ?_
   replace V:=V.pick (.k1 .nil)
   exact .inl ⟨_,_,_,_,_,_,_,_,_,hA.noword hk47 hd47,Z,V.noD⟩
  ·replace V := V.call1 hp
   refine Q<|zad (v:=.tuple #[zbZ _ _ _,.bool _]) Z<|Q<|Ex (zbZ _ _ _) Z Z<|Q<|Ex (.bool _) Z Z<|Q (SO (v:=zbZ _ _ _) V zbw Z Z .u2 fun w V=>?_)
   refine AB Z<|NSR<|MB Z<|Q<|zaU Z<|G<|zal (Vb (congrArg not (Z:true = _)))<|zag<|SQ<|SR<|Q<|zaa zbP Z<|Q (zae (v:=str _) ty9 Z Z (V.cellL Q2 Z) ?_)
   obtain ⟨fm,hfn⟩:∃ x,(refT.find? (nmF (l.getD m zaM).text)).getD zeroF = x:=⟨_,rfl⟩
   obtain ⟨ob,hob⟩:∃ x,(refT.find? (nmF (l.getD m zaM).text)).isSome = x:=⟨_,rfl⟩
   refine Q<|zao (v1:=str _) ent127 Z Z<|Ret.det (zpE hfn hob _) V fun w V=>Q<|zad (v:=.tuple #[zaO _ _ _ _ _ _ _ _,.bool _]) Z<|Q<|Ex (zaO _ _ _ _ _ _ _ _) Z Z<|Q<|Ex (.bool _) Z Z<|Q (SO (v:=zaO _ _ _ _ _ _ _ _) V zb5 Z Z .u3 fun w V=>?_)
   refine AB Z<|NSR<|MB Z<|Q<|zaU Z<|G<|zaQ Z (fun g2=>?_) (fun g2=>?_)
   ·refine SQ ?_
    apply zaC [(4,Res.row bq 130 _,Res.emp)] V (bs:=[0,0,0,4,14,31,63]) (ds:=[some 61,some 62,some 63,some 64,some 65,none,some 3]) (htab:=⟨Kr,Kr,Kr⟩)
    intro tab3
    refine DO tab3 1 (fun _ _ _ hc=>zay (vs:=zbq _ _ _ _ _ _) zbo Z (hc.old (v:=Pp _ _) Z Z Z) Z (zac (n:=4) (hc.st.objL (Ar Q3)) _ Z) hc.z)<|DO tab3 2 (fun _ _ _ hc=>zad (v:=Pp _ _) (hc.old Z Z Z) hc.z)<|DO tab3 3 (fun _ _ _ hc=>zaa zdv (hc.old (v:=Pp _ _) Z Z Z) hc.z)<|DO tab3 4 (fun _ _ _ hc=>zae (v:=.int .i64 _) ty3 Z (hc.d 2 Z Z Z Z) (hc.st.cellL (Ar Q1) Z) hc.z)<|zch (fun g v rs=>v = .bool false ∧ rs = [AR 130 bq s (some ⟨bT,0,none⟩) cp l (((m + 1:Nat):Int):Int) Y 71 ((l.getD m zaM).at_)]) tab3 5 Q0 (fun f' L' L'' w' hc ⟨X,hrem,hX⟩=>zbj (v1:=Pp _ _) (v2:=.int .i64 _) (v3:=.int .i64 _) zdR Z (hc.d 1 Z Z Z Z) Z (hc.d 3 Z Z Z Z) ((zbE bq s _ cp l (m + 1) Y e p 71 ((l.getD m zaM).at_) _ (hc.st.hL _ hrem.mem2)).mono fun v w hp=>⟨[_],fun g hg=>⟨hp.1,Z⟩,hX _ _ (St.callRem hc.st hrem hp.2)⟩))<|RunD.fin zaw tab3 V Z (fun f4 w R7 hs5 hd6 hr8 V=>?_)
    obtain ⟨h61_,r0⟩:=hd6 0 61 rfl rfl
    obtain ⟨h62_,r1⟩:=hd6 1 62 rfl rfl
    obtain ⟨h63_,r2⟩:=hd6 2 63 rfl rfl
    obtain ⟨h64_,r3⟩:=hd6 3 64 rfl rfl
    obtain ⟨h65_,r4⟩:=hd6 4 65 rfl rfl
    simp only [rg5,Fc,Fn,Mc,Mn,r0,r1,r2,r3,r4,Na,An,Ca] at V
    refine zaz (sl:=[(2,Pp _ _),(61,zbf _ _ _ _ _ _),(65,.bool _)]) ⟨(hs5 2 Z).trans Z,h61_,h65_,trivial⟩ ?_
    clear hs5 hd6 hr8 tab3
    refine Q (SO (v:=zbf _ _ _ _ _ _) V zbo Z Z .u6 fun w V=>?_)
    refine AB Z<|G<|zaq func74 Z (zat (vs:=zbq _ _ _ _ _ _) Z zbo Z Z (zac (n:=4) (V.objL Q6) _ Z)) (TP (v:=.bool _) Z) ?_
    replace V:=V.pick (.k1 .nil)
    exact .inl ⟨_,_,_,_,_,_,_,_,_,hA.noname hk47 hd47 (hob.trans (by simpa using g2)),rfl,V.noD⟩
   have hB:=LnB.mk2 hA hk47 hd47 (hob.trans (by simpa using g2)) hfn
   have hop:=hB.op
   have hop0:=hB.op0
   refine zag<|SQ<|SR<|Q<|zaa zdC Z<|Q<|zae (v:=.bool _) ty4 Z Z (V.cellL Q3 Z)<|MB Z<|Q<|zq1 ty4 Z Z<|G<|zaj [(0,Pp _ _),(2,Pp _ _),(4,Pp _ _),(5,Pp _ _),(7,.slice _ _ _),(10,Pp _ _),(11,.bool _),(69,.bool _)] E8 fun f=>zaQ Z (fun g9=>?_) (fun g9=>?_)
   ·refine SQ ?_
    apply zaC [(4,Res.row bq 130 _,Res.emp)] V (bs:=[0,0,0,4,14,31,63]) (ds:=[some 70,some 71,some 72,some 73,some 74,none,some 3]) (htab:=⟨Kr,Kr,Kr⟩)
    intro tab10
    refine DO tab10 1 (fun _ _ _ hc=>zay (vs:=zbq _ _ _ _ _ _) zbo Z (hc.old (v:=Pp _ _) Z Z Z) Z (zac (n:=4) (hc.st.objL (Ar Q3)) _ Z) hc.z)<|DO tab10 2 (fun _ _ _ hc=>zad (v:=Pp _ _) (hc.old Z Z Z) hc.z)<|DO tab10 3 (fun _ _ _ hc=>zaa zdv (hc.old (v:=Pp _ _) Z Z Z) hc.z)<|DO tab10 4 (fun _ _ _ hc=>zae (v:=.int .i64 _) ty3 Z (hc.d 2 Z Z Z Z) (hc.st.cellL (Ar Q0) Z) hc.z)<|zch (fun g v rs=>v = .bool false ∧ rs = [AR 130 bq s (some ⟨bT,0,none⟩) cp l (((m + 1:Nat):Int):Int) Y 41 ((l.getD 0 zaM).at_)]) tab10 5 Q0 (fun f' L' L'' w' hc ⟨X,hrem,hX⟩=>zbj (v1:=Pp _ _) (v2:=.int .i64 _) (v3:=.int .i64 _) zdR Z (hc.d 1 Z Z Z Z) Z (hc.d 3 Z Z Z Z) ((zbE bq s _ cp l (m + 1) Y e p 41 ((l.getD 0 zaM).at_) _ (hc.st.hL _ hrem.mem2)).mono fun v w hp=>⟨[_],fun g hg=>⟨hp.1,Z⟩,hX _ _ (St.callRem hc.st hrem hp.2)⟩))<|RunD.fin zaw tab10 V Z (fun f11 w R14 hs12 hd13 hr15 V=>?_)
    obtain ⟨h70_,r0⟩:=hd13 0 70 rfl rfl
    obtain ⟨h71_,r1⟩:=hd13 1 71 rfl rfl
    obtain ⟨h72_,r2⟩:=hd13 2 72 rfl rfl
    obtain ⟨h73_,r3⟩:=hd13 3 73 rfl rfl
    obtain ⟨h74_,r4⟩:=hd13 4 74 rfl rfl
    simp only [rg5,Fc,Fn,Mc,Mn,r0,r1,r2,r3,r4,Na,An,Ca] at V
    refine zaz (sl:=[(2,Pp _ _),(70,zbf _ _ _ _ _ _),(74,.bool _)]) ⟨(hs12 2 Z).trans Z,h70_,h74_,trivial⟩ ?_
    clear hs12 hd13 hr15 tab10
    refine Q (SO (v:=zbf _ _ _ _ _ _) V zbo Z Z .u6 fun w V=>?_)
    refine AB Z<|G<|zaq func74 Z (zat (vs:=zbq _ _ _ _ _ _) Z zbo Z Z (zac (n:=4) (V.objL Q6) _ Z)) (TP (v:=.bool _) Z) ?_
    replace V:=V.pick (.k1 .nil)
    exact .inl ⟨_,_,_,_,_,_,_,_,_,hB.nores (by simpa using g9),rfl,V.noD⟩
   have hrs:fm.res = decide ((l.getD 0 zaM).kind = 2):=by simpa using g9
   refine zag<|SR<|Q<|zaa zgo Z<|Q<|zae (v:=.int .u16 _) zlC Z Z (V.cellL Q3 Z)<|Q<|zaa zfW Z<|Q (SO (v:=.int .u16 _) V zlC Z Z .u4 fun w V=>?_)
   refine G<|SQ ?_
   replace V:=V.pick (.c .u4 (.k5 .nil))
   refine zfr (L1:=[_]) [(0,Pp _ _),(2,Pp _ _),(4,Pp _ _),(5,Pp _ _),(7,.slice _ _ _)] V E5 (fun (qq:Int)=>[]) (fun (qq:Int)=>[Res.row b4 44 [.int .u16 fm.op,.int .u32 0,.int .u32 qq,.slice none 0 0]]) (fun (qq:Int)=>((l.getD 0 zaM).kind = 2 → qq = idL (l.getD 0 zaM).text Y ∧ qq ≠ 0) ∧ (¬ (l.getD 0 zaM).kind = 2 → qq = 0)) (fun res f w V hR0=>?_) (fun cut16=>?_)
   replace V:St _ _ ([Res.row b4 44 [.int .u16 fm.op,.int .u32 0,.int .u32 res,.slice none 0 0]] ++ [_,_,_,_,_]) _ _:=V
   replace hR0:((l.getD 0 zaM).kind = 2 → res = idL (l.getD 0 zaM).text Y ∧ res ≠ 0) ∧ (¬ (l.getD 0 zaM).kind = 2 → res = 0):=hR0
   skip
   ·have hC : LnC Y l m fm res := ⟨hB, hrs, hR0.1, hR0.2⟩
    refine SQ<|zfr (L1:=[_,_]) [(0,Pp _ _),(2,Pp _ _),(4,Pp _ _),(5,Pp _ _),(7,.slice _ _ _)] V E5 (fun (qq:Int × Nat)=>[]) (fun (qq:Int × Nat)=>[Res.row b4 44 [.int .u16 fm.op,.int .u32 qq.1,.int .u32 res,.slice none 0 0],AR 130 bq s (some ⟨bT,0,none⟩) cp l (((qq.2:Nat):Int):Int) Y e p]) (fun (qq:Int × Nat)=>LnI Y l m fm res qq.1 qq.2) (fun ⟨ty,q⟩ f w V hI=>?_) (fun cut18=>?_)
    replace V:St _ _ ([Res.row b4 44 [.int .u16 fm.op,.int .u32 ty,.int .u32 res,.slice none 0 0],AR 130 bq s (some ⟨bT,0,none⟩) cp l (((q:Nat):Int):Int) Y e p] ++ [_,_,_,_]) _ _:=V
    replace hI:LnI Y l m fm res ty q:=hI
    skip
    ·refine SQ <| zfN ?_
     replace V:=V.pushNil 110 3
     replace V:=V.pushNil 5 1
     refine zaZ [(0,Pp _ _),(2,Pp _ _),(4,Pp _ _),(5,Pp _ _)] E4 (fun (qq:Nat × List ArgP × Option Addr × Nat × Option Addr × Nat)=>[(7,.slice qq.2.2.2.2.1 (qq.2.1.map ArgP.kind).length qq.2.2.2.2.2)]) (fun (qq:Nat × List ArgP × Option Addr × Nat × Option Addr × Nat)=>[Res.sl qq.2.2.2.2.1 (qq.2.1.map ArgP.kind).length qq.2.2.2.2.2 5 1 ((qq.2.1.map ArgP.kind).flatMap u8C),Res.sl qq.2.2.1 qq.2.1.length qq.2.2.2.1 110 3 (qq.2.1.flatMap zdX),Res.row b4 44 [.int .u16 fm.op,.int .u32 ty,.int .u32 res,.slice qq.2.2.1 qq.2.1.length qq.2.2.2.1],AR 130 bq s (some ⟨bT,0,none⟩) cp l (((q + qq.1:Nat):Int):Int) Y e p]) (fun (qq:Nat × List ArgP × Option Addr × Nat × Option Addr × Nat)=>ArI fm Y l q qq.1 qq.2.1) (fun (qq:Nat × List ArgP × Option Addr × Nat × Option Addr × Nat)=>l.length - qq.1) ((0,[],none,0,none,0)) V (ArI.start hI.le) ⟨Z,trivial⟩ ?_
     intro ⟨j,ags,xo,xc,ko,kc⟩ f w V hJ ih20
     replace V:St _ _ ([Res.sl ko (ags.map ArgP.kind).length kc 5 1 ((ags.map ArgP.kind).flatMap u8C),Res.sl xo ags.length xc 110 3 (ags.flatMap zdX),Res.row b4 44 [.int .u16 fm.op,.int .u32 ty,.int .u32 res,.slice xo ags.length xc],AR 130 bq s (some ⟨bT,0,none⟩) cp l (((q + j:Nat):Int):Int) Y e p] ++ [_,_,_,_]) _ _:=V
     replace hJ:ArI fm Y l q j ags:=hJ
     refine za6 (sl:=[(7,.slice ko (ags.map ArgP.kind).length kc)]) ⟨Z,trivial⟩ ?_
     have hjl:=hJ.len
     have hjle:=hJ.le
     have hkl:(ags.map ArgP.kind).length = ags.length:=List.length_map _
     refine SQ<|SR<|MP Z ?_
     replace V:=V.pick (.c .u3 (.k7 .nil))
     refine Q (zao (v1:=Pp _ _) zuc Z Z ((zf4 _ _ _ _ _ (q + j) _ _ _ _ (V.hL _ Q0)).mono fun v w hp=>?_))
     obtain ⟨rfl,hp⟩:=hp
     replace V:=V.call1 hp
     refine G<|zab Z (fun g21=>?_) (fun g21=>?_)
     ·refine SR <| Q <| zaa zgo Z <| Q <| zae (v := .int .u16 _) zlC Z Z (V.cellL Q6 Z) <| Q <| zaa zbA Z <| Q <| zae (v := .slice _ _ _) zc4 Z Z (V.cellL Q3 Z) <| Q <| zaH (rest := []) zc4 Z <| Q <| zaE (v1 := .int .u16 _) (v2 := .int .i64 _) zqE Z Z Z <| Ret.det (zob hop hop0.1 _ j hjl O _) V fun w V => AC Z <| G <| SQ <| SR <| MC Z <| Q (zam Z Z ?_)
      refine G<|zab Z (fun g22=>?_) (fun g22=>?_)
      ·refine SQ ?_
       apply zaC [(13,Res.row bq 130 _,Res.emp)] V (bs:=[0,0,0,4,12,28,0,64,192,448,1020,2044,4092,8190,16383,32767]) (ds:=[some 113,some 114,some 115,some 116,some 117,some 118,some 119,some 120,some 121,some 122,some 123,some 124,some 125,some 126,none,some 3]) (htab:=⟨Kr,Kr,Kr⟩)
       intro tab23
       refine DO tab23 1 (fun _ _ _ hc=>zay (vs:=zbq _ _ _ _ _ _) zbo Z (hc.old (v:=Pp _ _) Z Z Z) Z (zac (n:=4) (hc.st.objL (Ar Q2)) _ Z) hc.z)<|DO tab23 2 (fun _ _ _ hc=>zad (v:=Pp _ _) (hc.old Z Z Z) hc.z)<|DO tab23 3 (fun _ _ _ hc=>zad (v:=Pp _ _) (hc.old Z Z Z) hc.z)<|DO tab23 4 (fun _ _ _ hc=>zan (hc.d 2 Z Z Z Z) hc.z)<|DO tab23 5 (fun _ _ _ hc=>zaa zex (hc.d 3 Z Z Z Z) hc.z)<|zfq (det _) tab23 6 (fun f' L' w' hc hlate=>zae (v:=.slice _ _ _) zfI Z (hc.d 4 Z Z Z Z) (hc.st.cellL (Al (hlate _ _ _ Q0 Z)) Z) hc.z)<|DO tab23 7 (fun _ _ _ hc=>zad (v:=Pp _ _) (hc.old Z Z Z) hc.z)<|DO tab23 8 (fun _ _ _ hc=>zan (hc.d 6 Z Z Z Z) hc.z)<|DO tab23 9 (fun _ _ _ hc=>zaa zdh (hc.d 7 Z Z Z Z) hc.z)<|zfq (det _) tab23 10 (fun f' L' w' hc hlate=>zae (v:=.int .i64 _) ty3 Z (hc.d 8 Z Z Z Z) (hc.st.cellL (Al (hlate _ _ _ Q0 Z)) Z) hc.z)<|DO tab23 11 (fun _ _ _ hc=>zbd zfI zbw (hc.d 5 Z Z Z Z) (hc.d 9 Z Z Z Z) O O hc.z)<|DO tab23 12 (fun _ _ _ hc=>zaa zdv (hc.d 10 Z Z Z Z) hc.z)<|DO tab23 13 (fun _ _ _ hc=>zae (v:=.int .i64 _) ty3 Z (hc.d 11 Z Z Z Z) (Res.sl_cell (hc.st.hD _ Q0) (zcO (g:=zeJ) (d:=zaM) zcP Z O)) hc.z)<|zch (fun g v rs=>v = .bool false ∧ rs = [AR 130 bq s (some ⟨bT,0,none⟩) cp l (((q + j:Nat):Int):Int) Y 70 ((l.getD (q + j) zaM).at_)]) tab23 14 Q0 (fun f' L' L'' w' hc ⟨X,hrem,hX⟩=>zbj (v1:=Pp _ _) (v2:=.int .i64 _) (v3:=.int .i64 _) zdR Z (hc.d 1 Z Z Z Z) Z (hc.d 12 Z Z Z Z) ((zbE bq s _ cp l (q + j) Y e p 70 ((l.getD (q + j) zaM).at_) _ (hc.st.hL _ hrem.mem2)).mono fun v w hp=>⟨[_],fun g hg=>⟨hp.1,Z⟩,hX _ _ (St.callRem hc.st hrem hp.2)⟩))<|RunD.fin zaw tab23 V Z (fun f24 w R27 hs25 hd26 hr28 V=>?_)
       obtain ⟨h113_,r0⟩:=hd26 0 113 rfl rfl
       obtain ⟨h114_,r1⟩:=hd26 1 114 rfl rfl
       obtain ⟨h115_,r2⟩:=hd26 2 115 rfl rfl
       obtain ⟨h116_,r3⟩:=hd26 3 116 rfl rfl
       obtain ⟨h117_,r4⟩:=hd26 4 117 rfl rfl
       obtain ⟨h118_,r5⟩:=hd26 5 118 rfl rfl
       obtain ⟨h119_,r6⟩:=hd26 6 119 rfl rfl
       obtain ⟨h120_,r7⟩:=hd26 7 120 rfl rfl
       obtain ⟨h121_,r8⟩:=hd26 8 121 rfl rfl
       obtain ⟨h122_,r9⟩:=hd26 9 122 rfl rfl
       obtain ⟨h123_,r10⟩:=hd26 10 123 rfl rfl
       obtain ⟨h124_,r11⟩:=hd26 11 124 rfl rfl
       obtain ⟨h125_,r12⟩:=hd26 12 125 rfl rfl
       obtain ⟨h126_,r13⟩:=hd26 13 126 rfl rfl
       simp only [zyR,Fc,Fn,Mc,Mn,r0,r1,r2,r3,r4,r5,r6,r7,r8,r9,r10,r11,r12,r13,Na,An,Ca] at V
       refine zaz (sl:=[(2,Pp _ _),(113,zbf _ _ _ _ _ _),(126,.bool _)]) ⟨(hs25 2 Z).trans Z,h113_,h126_,trivial⟩ ?_
       clear hs25 hd26 hr28 tab23
       refine Q (SO (v:=zbf _ _ _ _ _ _) V zbo Z Z .u8 fun w V=>?_)
       refine AB Z<|G<|zaq func74 Z (zat (vs:=zbq _ _ _ _ _ _) Z zbo Z Z (zac (n:=4) (V.objL Q8) _ Z)) (TP (v:=.bool _) Z) ?_
       replace V:=V.pick (.k1 .nil)
       exact .inl ⟨_,_,_,_,_,_,_,_,_,hI.zero hJ O g22,Z,V.noD⟩
      refine zag<|SR<|MP Z<|MC Z ?_
      have hc0:zaJ fm (j:Int) ≠ 0:=g22
      refine Q (zaE (v1:=Pp _ _) (v2:=.int .u8 _) ent132 Z Z Z ((zsy bq s (some ⟨bT,0,none⟩) cp l (q + j) Y e p (zaJ fm (j:Int)) (zc1 fm _) hc0 _ O hl hll hts hbd hpl).mono fun v w hp=>?_))
      obtain ⟨fn,fi,ca,R,rfl,hp,hcl⟩:=hp
      replace V:St _ _ (_ :: _) _ _:=V.call0 hp
      replace V:=V.pick (.c .u1 (.k8 .nil))
      refine Q (zsE  Z  (((hcl _ (V.hL _ Q0) (V.hD _ Q0) (V.sepD _ Q0 _ Q0) (V.hD _ Q1) (V.sepD _ Q0 _ Q1) (V.hL _ Q1) ((List.pairwise_cons.1 V.sep).1 _ Q0))).mono fun v w hp=>?_))
      rcases hp with ⟨z1,z2,z3,a2,hne,rfl,hp⟩ | ⟨hz,rfl,hp⟩
      ·replace V := V.call1 hp
       refine Q<|zad (v:=.tuple #[zeK _ _ _,.bool _]) Z<|Q<|Ex (zeK _ _ _) Z Z<|Q<|Ex (.bool _) Z Z<|Q<|zar V za1 fun w b13 V=>Q (SO (v:=zeK _ _ _) V za1 Z Z .u0 fun w V=>?_)
       refine AB Z<|G<|zaj [(0,Pp _ _),(2,Pp _ _),(4,Pp _ _),(5,Pp _ _),(7,.slice _ _ _),(13,Pp _ _),(14,.bool _)] E7 fun f=>SQ<|SR<|MB Z<|Q<|zaU Z<|G<|zas (Vb (congrArg not (Z:false = _)))<|SR<|Q<|zay (vs:=zbq _ _ _ _ _ _) zbo Z Z Z (zac (n:=4) (V.objL Q5) _ Z)<|Q (SO (v:=zbf _ _ _ _ _ _) V zbo Z Z .u9 fun w V=>?_)
       refine AB Z<|G<|zaq func74 Z (zat (vs:=zbq _ _ _ _ _ _) Z zbo Z Z (zac (n:=4) (V.objL Q9) _ Z)) (TP (v:=.bool _) Z) ?_
       replace V:=V.pick (.c .u1 .nil)
       exact .inl ⟨_,_,_,_,_,_,_,_,_,hI.bad hJ O hne,Z,V.noD⟩
      ·replace V := V.call1 hp
       refine Q<|zad (v:=.tuple #[zeK _ _ _,.bool _]) Z<|Q<|Ex (zeK _ _ _) Z Z<|Q<|Ex (.bool _) Z Z<|Q<|zar V za1 fun w b13 V=>Q (SO (v:=zeK _ _ _) V za1 Z Z .u0 fun w V=>?_)
       refine AB Z<|G<|zaj [(0,Pp _ _),(2,Pp _ _),(4,Pp _ _),(5,Pp _ _),(7,.slice _ _ _),(13,Pp _ _),(14,.bool _)] E7 fun f=>SQ<|SR<|MB Z<|Q<|zaU Z<|G<|zal (Vb (congrArg not (Z:true = _)))<|zag<|SR<|Q<|zaa zbA Z<|Q (zae (v:=.slice _ _ _) zc4 Z Z (V.cellL Q5 Z) ?_)
       refine Q<|zay (vs:=zgJ _ _ _) za1 Z Z Z (zac (n:=3) (V.objL Q0) _ Z)<|Q (zaI (z0:=[.int .u8 0,.int .u32 0,str []]) V zc4 za1 Z Z Kr (.c (v:=zeK _ _ _) Z (h:=.nil)) fun w b140 V=>?_)
       refine Q (zaP (news:=(zgJ _ _ _)) V zc4 za1 Z Z .u5 Z Z Z (zac (n:=3) (V.objL Q0) _ Z) Z Z O fun w ao29 cp30 V=>?_)
       replace V:=V.drop .u1
       refine Q<|zaa zbA Z<|Q (SO (v:=.slice _ _ _) V zc4 Z Z .u5 fun w V=>?_)
       refine NSR<|ML Z<|Q<|zaa zdE Z<|Q<|zae (v:=.int .u8 _) ty5 Z Z (V.cellL Q1 Z)<|Q (zaI (z0:=[.int .u8 0]) V zb9 ty5 Z Z Kr (.c (v:=.int .u8 _) Z (h:=.nil)) fun w b146 V=>?_)
       refine Q (zaP (news:=[.int .u8 _]) V zb9 ty5 Z Z .u5 Z Z Z (zac (n:=1) (V.objL Q0) _ Z) Z Z O fun w ao31 cp32 V=>?_)
       replace V:=V.drop .u1
       refine AL Z<|G ?_
       have e1:(ags ++ [(zb4 (zaJ fm (j:Int)) (l.getD (q + j) zaM) Y).1]).length = ags.length + 1:=List.length_append
       have e2:(ags ++ [(zb4 (zaJ fm (j:Int)) (l.getD (q + j) zaM) Y).1]).flatMap zdX = ags.flatMap zdX ++ zdX (zb4 (zaJ fm (j:Int)) (l.getD (q + j) zaM) Y).1:=by rw [List.flatMap_append]; simp
       have e3:((ags ++ [(zb4 (zaJ fm (j:Int)) (l.getD (q + j) zaM) Y).1]).map ArgP.kind).flatMap u8C = (ags.map ArgP.kind).flatMap u8C ++ [.int .u8 (zb4 (zaJ fm (j:Int)) (l.getD (q + j) zaM) Y).1.kind]:=by rw [List.map_append,List.flatMap_append]; rfl
       have e4:((ags ++ [(zb4 (zaJ fm (j:Int)) (l.getD (q + j) zaM) Y).1]).map ArgP.kind).length = (ags.map ArgP.kind).length + 1:=by rw [List.length_map,List.length_map,e1]
       replace V:=V.pick (.k2 (.c .u3 (.c .u1 (.c .u2 (.c .u2 (.c .u2 (.c .u2 .nil)))))))
       refine ziJ ?_ (SQ (zag (ih20 ((j + 1,ags ++ [(zb4 (zaJ fm (j:Int)) (l.getD (q + j) zaM) Y).1],ao29,cp30,ao31,cp32)) _ w ((by (try dsimp only); omega)) (by (try dsimp only); rw [e1,e2,e3,e4]; exact V) (hJ.step (by omega) hz) E4 ⟨(by (try dsimp only); rw [e4]; rfl),trivial⟩)))
       rfl
     refine zag<|SQ<|SR<|Q<|zaa zgo rfl<|Q<|zae (v:=.int .u16 _) zlC rfl rfl (V.cellL Q6 rfl)<|ML rfl<|Q<|zaE (v1:=.int .u16 _) (v2:=.slice _ _ _) zxC rfl rfl rfl<|Ret.det (zod fm.op hop0.1 (ags.map ArgP.kind) _ _ _ (Res.rs_of_sl (V.hL _ Q1)) (by rw [List.length_map]; omega)) V fun w V=>Q<|zad (v:=.tuple #[.int .i64 _,.bool _]) rfl<|Q<|Ex (.int .i64 _) rfl rfl<|Q<|Ex (.bool _) rfl rfl<|AI rfl<|AB rfl<|G<|SQ ?_
     refine RG<|MB Z<|Q<|zaU Z<|G<|zaQ Z (fun g33=>?_) (fun g33=>?_)
     ·refine SQ ?_
      apply zaC [(7,Res.row bq 130 _,Res.emp)] V (bs:=[0,0,0,4,12,28,60,126,255,511]) (ds:=[some 157,some 158,some 159,some 160,some 161,some 162,some 163,some 164,none,some 3]) (htab:=⟨Kr,Kr,Kr⟩)
      intro tab34
      refine DO tab34 1 (fun _ _ _ hc=>zay (vs:=zbq _ _ _ _ _ _) zbo Z (hc.old (v:=Pp _ _) Z Z Z) Z (zac (n:=4) (hc.st.objL (Ar Q2)) _ Z) hc.z)<|DO tab34 2 (fun _ _ _ hc=>zad (v:=Pp _ _) (hc.old Z Z Z) hc.z)<|DO tab34 3 (fun _ _ _ hc=>zad (v:=Pp _ _) (hc.old Z Z Z) hc.z)<|DO tab34 4 (fun _ _ _ hc=>zan (hc.d 2 Z Z Z Z) hc.z)<|DO tab34 5 (fun _ _ _ hc=>zaa zl7 (hc.d 3 Z Z Z Z) hc.z)<|zfq (det _) tab34 6 (fun f' L' w' hc hlate=>zae (v:=str _) ty9 Z (hc.d 4 Z Z Z Z) (hc.st.cellL (Al (hlate _ _ _ Q0 Z)) Z) hc.z)<|DO tab34 7 (fun _ _ _ hc=>zbb (rest:=[]) ty9 (hc.d 5 Z Z Z Z) hc.z)<|zch (fun g v rs=>v = .bool false ∧ rs = [AR 130 bq s (some ⟨bT,0,none⟩) cp l (((q + j:Nat):Int):Int) Y 72 (s.length)]) tab34 8 Q0 (fun f' L' L'' w' hc ⟨X,hrem,hX⟩=>zbj (v1:=Pp _ _) (v2:=.int .i64 _) (v3:=.int .i64 _) zdR Z (hc.d 1 Z Z Z Z) Z (hc.d 6 Z Z Z Z) ((zbE bq s _ cp l (q + j) Y e p 72 (s.length) _ (hc.st.hL _ hrem.mem2)).mono fun v w hp=>⟨[_],fun g hg=>⟨hp.1,Z⟩,hX _ _ (St.callRem hc.st hrem hp.2)⟩))<|RunD.fin zaw tab34 V Z (fun f35 w R38 hs36 hd37 hr39 V=>?_)
      obtain ⟨h157_,r0⟩:=hd37 0 157 rfl rfl
      obtain ⟨h158_,r1⟩:=hd37 1 158 rfl rfl
      obtain ⟨h159_,r2⟩:=hd37 2 159 rfl rfl
      obtain ⟨h160_,r3⟩:=hd37 3 160 rfl rfl
      obtain ⟨h161_,r4⟩:=hd37 4 161 rfl rfl
      obtain ⟨h162_,r5⟩:=hd37 5 162 rfl rfl
      obtain ⟨h163_,r6⟩:=hd37 6 163 rfl rfl
      obtain ⟨h164_,r7⟩:=hd37 7 164 rfl rfl
      simp only [rg8,Fc,Fn,Mc,Mn,r0,r1,r2,r3,r4,r5,r6,r7,Na,An,Ca] at V
      refine zaz (sl:=[(2,Pp _ _),(157,zbf _ _ _ _ _ _),(164,.bool _)]) ⟨(hs36 2 Z).trans Z,h157_,h164_,trivial⟩ ?_
      clear hs36 hd37 hr39 tab34
      refine Q (SO (v:=zbf _ _ _ _ _ _) V zbo Z Z .u8 fun w V=>?_)
      refine AB Z<|G<|zaq func74 Z (zat (vs:=zbq _ _ _ _ _ _) Z zbo Z Z (zac (n:=4) (V.objL Q8) _ Z)) (TP (v:=.bool _) Z) ?_
      replace V:=V.pick (.k1 .nil)
      exact .inl ⟨_,_,_,_,_,_,_,_,_,hI.nofit hJ (by omega) (by simpa using g33),rfl,V.noD⟩
     have hfit:(ze0 fm.op (ags.map ArgP.kind)).2 = true:=by simpa using g33
     have hsm:=hJ.small hts hll hl24
     obtain ⟨rop,rws,re,hR⟩:∃ rop rws re,zkV Y (⟨fm.op,ty,res,ags⟩:InstL) = ((rop,rws),re):=⟨_,_,_,rfl⟩
     have hre:re = za7 Y ⟨fm.op,ty,res,ags⟩:=by rw [← zkU,hR]
     refine zag<|SQ<|SQ<|zpm [(9,10)] [] V (bs:=[0,0,2,6,14,31,63,127,127,0,767,2047]) (ds:=[some 166,some 167,some 168,some 169,some 170,some 171,some 165,some 172,some 173,some 17,none,some 18]) ⟨Kr,Kr,Kr⟩ (fun tab40=>?_)
     refine DO tab40 1 (fun _ _ _ hc=>zay (vs:=zbq _ _ _ _ _ _) zbo rfl (hc.old (v:=Pp _ _) rfl rfl rfl) rfl (zac (n:=4) (hc.st.objL (Ar Q3)) _ rfl) hc.z)<|DO tab40 2 (fun _ _ _ hc=>zad (v:=Pp _ _) (hc.old rfl rfl rfl) hc.z)<|DO tab40 3 (fun _ _ _ hc=>zan (hc.d 1 rfl rfl rfl rfl) hc.z)<|DO tab40 4 (fun _ _ _ hc=>zaa zqw (hc.d 2 rfl rfl rfl rfl) hc.z)<|DO tab40 5 (fun _ _ _ hc=>zae (v:=.int .u32 _) za9 rfl (hc.d 3 rfl rfl rfl rfl) (hc.st.cellL (Ar Q0) rfl) hc.z)<|RunD.op (fun v rs=>∃ ro rc,v = .tuple #[.agg #[.int .u16 rop,.slice ro rws.length rc],.int .i64 re] ∧ rs = [Res.sl ro rws.length rc 22 1 (rws.flatMap zci)]) tab40 6 (fun _ _ _ hc=>zaE (v1:=zbf _ _ _ _ _ _) (v2:=.int .u32 _) zww rfl (hc.d 0 rfl rfl rfl rfl) (hc.d 4 rfl rfl rfl rfl) ((zkf (p:=⟨fm.op,ty,res,xo,xc,ags⟩) hR hop0.1 _ (Res.rs_of_sl (hc.st.hL _ (Ar Q2))) hsm.1 hsm.2).mono fun v w hp=>(by obtain ⟨ro,rc,rfl,hp⟩:=hp; exact ⟨_,⟨ro,rc,rfl,rfl⟩,hc.st.call0 hp⟩)))<|zfp (fun g v rs=>v = g 171 ∧ rs = []) tab40 7 (fun _ _ _ hc=>zad (evs rfl rfl) ⟨[],fun g hg=>⟨(hg 5 171 rfl rfl).symm,rfl⟩,hc.st⟩)<|zfp (fun g v rs=>(∀ ro rc,g 171 = .tuple #[.agg #[.int .u16 rop,.slice ro rws.length rc],.int .i64 re] → v = .agg #[.int .u16 rop,.slice ro rws.length rc]) ∧ rs = []) tab40 8 (fun f' L' w' hc=> by obtain ⟨_,_,q1,_⟩:=hc.dep 5 171 rfl rfl; obtain ⟨ro,rc,htc,_⟩:=q1; obtain ⟨gm,_,q2,hgm,_⟩:=hc.dep 6 165 rfl rfl; have htm:f' 165 = .tuple #[.agg #[.int .u16 rop,.slice ro rws.length rc],.int .i64 re]:=(by rw [q2.1,hgm 5 171 rfl rfl,htc]); exact zbM (v:=.agg #[.int .u16 rop,.slice ro rws.length rc]) (evs htm rfl) rfl ⟨[],fun g hg=>⟨fun ro2 rc2 e=>(by rw [hg 5 171 rfl rfl,htc] at e; cases e; rfl),rfl⟩,hc.st⟩)<|RunD.op (det (.int .i64 re)) tab40 9 (fun f' L' w' hc=> by obtain ⟨_,_,q1,_⟩:=hc.dep 5 171 rfl rfl; obtain ⟨ro,rc,htc,_⟩:=q1; obtain ⟨gm,_,q2,hgm,_⟩:=hc.dep 6 165 rfl rfl; have htm:f' 165 = .tuple #[.agg #[.int .u16 rop,.slice ro rws.length rc],.int .i64 re]:=(by rw [q2.1,hgm 5 171 rfl rfl,htc]); exact zbM (v:=.int .i64 re) (evs htm rfl) rfl hc.z)<|RunD.op (fun v rs=>∃ b,v = .pointer (some ⟨b,0,none⟩) ∧ rs = [Res.row b 62 [.int .u16 0,.slice none 0 0]]) tab40 10 (fun _ _ _ hc=>zar hc.st zcK fun w b V=>⟨[_],⟨b,rfl,rfl⟩,V⟩)<|zuE (fun g v rs=>v = undef ∧ ∃ b,g 17 = .pointer (some ⟨b,0,none⟩) ∧ ∀ ro rc,g 171 = .tuple #[.agg #[.int .u16 rop,.slice ro rws.length rc],.int .i64 re] → rs = [Res.row b 62 [.int .u16 rop,.slice ro rws.length rc]]) tab40 11 9 17 Q0 rfl (fun f' L' L'' w' hc hq=>by obtain ⟨_,rs,hz,_,hp⟩:=hq; obtain ⟨b,hb,hrs⟩:=hz; subst hrs; obtain ⟨_,_,q1,_⟩:=hc.dep 5 171 rfl rfl; obtain ⟨ro,rc,htc,_⟩:=q1; obtain ⟨gx,_,q3,hgx,_⟩:=hc.dep 7 172 rfl rfl; have htx:=q3.1 ro rc ((hgx 5 171 rfl rfl).trans htc); have V:=hc.st.perm (hp.append_right _); exact zbC (v:=gHL _ _ _ _) V zcK (evs hb rfl) (evs htx rfl) rfl rfl rfl .here (by repeat (first | exact Put.nil | apply Put.put | apply Put.skip)) fun w V=>⟨[_],fun g hg=>⟨rfl,b,(hg 9 17 rfl rfl).trans hb,fun ro2 rc2 e=>(by rw [hg 5 171 rfl rfl,htc] at e; cases e; rfl)⟩,V⟩) ?_
     refine zn2 zaw tab40 V Z (fun f41 w R44 hs42 hd43 hr45 V=>?_)
     obtain ⟨h166_,r0⟩:=hd43 0 166 rfl rfl
     obtain ⟨h167_,r1⟩:=hd43 1 167 rfl rfl
     obtain ⟨h168_,r2⟩:=hd43 2 168 rfl rfl
     obtain ⟨h169_,r3⟩:=hd43 3 169 rfl rfl
     obtain ⟨h170_,r4⟩:=hd43 4 170 rfl rfl
     obtain ⟨ro,rc,h171_,r5⟩:=hd43 5 171 rfl rfl
     obtain ⟨h165_,r6⟩:=hd43 6 165 rfl rfl
     rw [DrawTab.mask tab40 _ (j:=6) (l:=5) (t:=171) rfl rfl,h171_] at h165_
     obtain ⟨h172_,r7⟩:=hd43 7 172 rfl rfl
     replace h172_:=h172_ ro rc ((DrawTab.mask tab40 _ (j:=7) (l:=5) (t:=171) rfl rfl).trans h171_)
     obtain ⟨h173_,r8⟩:=hd43 8 173 rfl rfl
     obtain ⟨_,_,b17,h17_,r10⟩:=hr45 10 rfl
     rw [DrawTab.mask tab40 _ (j:=10) (l:=9) (t:=17) rfl rfl] at h17_
     replace r10:=r10 ro rc ((DrawTab.mask tab40 _ (j:=10) (l:=5) (t:=171) rfl rfl).trans h171_)
     simp only [rg11,Fc,Fn,Mc,Mn,show zow [(9,10)] R44 0 = R44 0 from rfl,show zow [(9,10)] R44 1 = R44 1 from rfl,show zow [(9,10)] R44 2 = R44 2 from rfl,show zow [(9,10)] R44 3 = R44 3 from rfl,show zow [(9,10)] R44 4 = R44 4 from rfl,show zow [(9,10)] R44 5 = R44 5 from rfl,show zow [(9,10)] R44 6 = R44 6 from rfl,show zow [(9,10)] R44 7 = R44 7 from rfl,show zow [(9,10)] R44 8 = R44 8 from rfl,show zow [(9,10)] R44 9 = [] from rfl,show zow [(9,10)] R44 10 = R44 10 from rfl,r0,r1,r2,r3,r4,r5,r6,r7,r8,r10,Na,An,Ca] at V
     refine zaz (sl:=[(0,Pp _ _),(2,Pp _ _),(4,Pp _ _),(173,.int .i64 _)]) ⟨(hs42 0 Z).trans Z,(hs42 2 Z).trans Z,(hs42 4 Z).trans Z,h173_,trivial⟩ ?_
     clear hs42 hd43 hr45 tab40
     refine AI Z<|G<|zaj [(0,Pp _ _),(2,Pp _ _),(4,Pp _ _),(18,.int .i64 _)] E4 fun f=>SR<|MI Z<|Q<|zaF Z Z<|G<|zab Z (fun g46=>?_) (fun g46=>?_)
     ·refine SQ ?_
      replace V:=V.pick (.c .u2 (.k9 .nil))
      apply zaC [(3,Res.row bq 130 _,Res.emp)] V (bs:=[0,0,0,6,15,31]) (ds:=[some 176,some 177,some 178,some 179,none,some 3]) (htab:=⟨Kr,Kr,Kr⟩)
      intro tab47
      refine DO tab47 1 (fun _ _ _ hc=>zay (vs:=zbq _ _ _ _ _ _) zbo Z (hc.old (v:=Pp _ _) Z Z Z) Z (zac (n:=4) (hc.st.objL (Ar Q4)) _ Z) hc.z)<|DO tab47 2 (fun _ _ _ hc=>zad (v:=Pp _ _) (hc.old Z Z Z) hc.z)<|DO tab47 3 (fun _ _ _ hc=>zad (v:=.int .i64 _) (hc.old Z Z Z) hc.z)<|zch (fun g v rs=>v = .bool false ∧ rs = [AR 130 bq s (some ⟨bT,0,none⟩) cp l (((q + j:Nat):Int):Int) Y re 0]) tab47 4 Q0 (fun f' L' L'' w' hc ⟨X,hrem,hX⟩=>zbj (v1:=Pp _ _) (v2:=.int .i64 _) (v3:=.int .i64 _) zdR Z (hc.d 1 Z Z Z Z) (hc.d 2 Z Z Z Z) Z ((zbE bq s _ cp l (q + j) Y e p re 0 _ (hc.st.hL _ hrem.mem2)).mono fun v w hp=>⟨[_],fun g hg=>⟨hp.1,Z⟩,hX _ _ (St.callRem hc.st hrem hp.2)⟩))<|RunD.fin zaw tab47 V Z (fun f48 w R51 hs49 hd50 hr52 V=>?_)
      obtain ⟨h176_,r0⟩:=hd50 0 176 rfl rfl
      obtain ⟨h177_,r1⟩:=hd50 1 177 rfl rfl
      obtain ⟨h178_,r2⟩:=hd50 2 178 rfl rfl
      obtain ⟨h179_,r3⟩:=hd50 3 179 rfl rfl
      simp only [rg4,Fc,Fn,Mc,Mn,r0,r1,r2,r3,Na,An,Ca] at V
      refine zaz (sl:=[(2,Pp _ _),(176,zbf _ _ _ _ _ _),(179,.bool _)]) ⟨(hs49 2 Z).trans Z,h176_,h179_,trivial⟩ ?_
      clear hs49 hd50 hr52 tab47
      refine Q (SO (v:=zbf _ _ _ _ _ _) V zbo Z Z .u10 fun w V=>?_)
      refine AB Z<|G<|zaq func74 Z (zat (vs:=zbq _ _ _ _ _ _) Z zbo Z Z (zac (n:=4) (V.objL Q10) _ Z)) (TP (v:=.bool _) Z) ?_
      replace V:=V.pick (.k1 .nil)
      exact .inl ⟨_,_,_,_,_,_,_,_,_,hI.wrong hJ O hfit hre g46,Z,V.noD⟩
     refine zag<|SR<|Q<|zay (vs:=zbq _ _ _ _ _ _) zbo Z Z Z (zac (n:=4) (V.objL Q5) _ Z)<|Q (SO (v:=zbf _ _ _ _ _ _) V zbo Z Z .u9 fun w V=>?_)
     refine AB Z<|G<|zaq func74 Z (zat (vs:=zbq _ _ _ _ _ _) Z zbo Z Z (zac (n:=4) (V.objL Q9) _ Z)) (TP (v:=.bool _) Z) ?_
     replace V:=V.pick (.c .u2 (.c .u3 .nil))
     exact .inr ⟨⟨fm.op,ty,res,xo,xc,ags⟩,_,hI.good hJ O hfit hre O,hsm.1,hsm.2,hop0,Z,V.noD⟩
    ·refine SR <| Q <| zaa zfi Z <| Q <| zae (v := .bool _) ty4 Z Z (V.cellL Q4 Z) <| G <| zaQ Z (fun g53 => ?_) (fun g53 => ?_)
     ·refine SR <| MP Z ?_
      replace V:=V.pick (.c .u1 (.k5 .nil))
      refine Q (zao (v1:=Pp _ _) zxD Z Z ((zu3 _ _ _ _ l (m + 1) _ _ _ _ (V.hL _ Q0) (V.hD _ Q0) (V.sepD _ Q0 _ Q0) hl hll hts hbd hpl).mono fun v w hp=>?_))
      rcases hp with ⟨hk96,rfl,hp⟩ | ⟨hk96,hd96,rfl,hp⟩ | ⟨hk96,hd96,he96,rfl,hp⟩ | ⟨hk96,hd96,he96,rfl,hp⟩
      ·replace V := V.call1 hp
       refine Q<|zad (v:=.tuple #[.int .u32 _,.bool _]) Z<|Q<|Ex (.int .u32 _) Z Z<|Q<|Ex (.bool _) Z Z<|Q<|zaa zeH Z<|Q (SO (v:=.int .u32 _) V za9 Z Z .u1 fun w V=>?_)
       refine AB Z<|NSR<|MB Z<|Q<|zaU Z<|G<|zas (Vb (congrArg not (Z:false = _)))<|SR<|Q<|zay (vs:=zbq _ _ _ _ _ _) zbo Z Z Z (zac (n:=4) (V.objL Q1) _ Z)<|Q (SO (v:=zbf _ _ _ _ _ _) V zbo Z Z .u5 fun w V=>?_)
       refine AB Z<|G<|zaq func74 Z (zat (vs:=zbq _ _ _ _ _ _) Z zbo Z Z (zac (n:=4) (V.objL Q5) _ Z)) (TP (v:=.bool _) Z) ?_
       replace V:=V.pick (.k1 .nil)
       exact .inl ⟨_,_,_,_,_,_,_,_,_,hC.early g53 hk96,Z,V.noD⟩
      ·replace V := V.call1 hp
       refine Q<|zad (v:=.tuple #[.int .u32 _,.bool _]) Z<|Q<|Ex (.int .u32 _) Z Z<|Q<|Ex (.bool _) Z Z<|Q<|zaa zeH Z<|Q (SO (v:=.int .u32 _) V za9 Z Z .u1 fun w V=>?_)
       refine AB Z<|NSR<|MB Z<|Q<|zaU Z<|G<|zas (Vb (congrArg not (Z:false = _)))<|SR<|Q<|zay (vs:=zbq _ _ _ _ _ _) zbo Z Z Z (zac (n:=4) (V.objL Q1) _ Z)<|Q (SO (v:=zbf _ _ _ _ _ _) V zbo Z Z .u5 fun w V=>?_)
       refine AB Z<|G<|zaq func74 Z (zat (vs:=zbq _ _ _ _ _ _) Z zbo Z Z (zac (n:=4) (V.objL Q5) _ Z)) (TP (v:=.bool _) Z) ?_
       replace V:=V.pick (.k1 .nil)
       exact .inl ⟨_,_,_,_,_,_,_,_,_,hC.notid g53 hk96 hd96,Z,V.noD⟩
      ·replace V := V.call1 hp
       refine Q<|zad (v:=.tuple #[.int .u32 _,.bool _]) Z<|Q<|Ex (.int .u32 _) Z Z<|Q<|Ex (.bool _) Z Z<|Q<|zaa zeH Z<|Q (SO (v:=.int .u32 _) V za9 Z Z .u1 fun w V=>?_)
       refine AB Z<|NSR<|MB Z<|Q<|zaU Z<|G<|zas (Vb (congrArg not (Z:false = _)))<|SR<|Q<|zay (vs:=zbq _ _ _ _ _ _) zbo Z Z Z (zac (n:=4) (V.objL Q1) _ Z)<|Q (SO (v:=zbf _ _ _ _ _ _) V zbo Z Z .u5 fun w V=>?_)
       refine AB Z<|G<|zaq func74 Z (zat (vs:=zbq _ _ _ _ _ _) Z zbo Z Z (zac (n:=4) (V.objL Q5) _ Z)) (TP (v:=.bool _) Z) ?_
       replace V:=V.pick (.k1 .nil)
       exact .inl ⟨_,_,_,_,_,_,_,_,_,hC.noid g53 hk96 hd96 he96,Z,V.noD⟩
      ·replace V := V.call1 hp
       refine Q<|zad (v:=.tuple #[.int .u32 _,.bool _]) Z<|Q<|Ex (.int .u32 _) Z Z<|Q<|Ex (.bool _) Z Z<|Q<|zaa zeH Z<|Q (SO (v:=.int .u32 _) V za9 Z Z .u1 fun w V=>?_)
       refine AB Z<|NSR<|MB Z<|Q<|zaU Z<|G<|zal (Vb (congrArg not (Z:true = _)))<|zag ?_
       replace V:=V.pick (.c .u1 (.k5 .nil))
       exact cut18 ((idL (l.getD (m + 1) zaM).text Y,m + 2)) _ w (V) (LnI.yes hC g53 Z he96 hk96 hd96) E5 trivial
     refine zag ?_
     exact cut18 ((0,m + 1)) _ w (V) (LnI.no hC (by simpa using g53)) E5 trivial
   ·refine SR <| MB Z <| G <| zab Z (fun g54 => ?_) (fun g54 => ?_)
    ·refine SR <| MP Z <| Q <| zaa zbP Z <| Q (zae (v := str _) ty9 Z Z (V.cellL Q2 Z) ?_)
     obtain ⟨m0,hm0⟩:=hpl 0 h0 g54
     replace V:=V.pick (.c .u1 (.k5 .nil))
     refine Q (zaE (v1:=Pp _ _) (v2:=str _) zxE Z Z Z ((zlx _ _ _ _ _ _ _ _ _ _ m0 hm0 _ (V.hL _ Q0) hbd).mono fun v w hp=>?_))
     obtain ⟨rfl,hp⟩:=hp
     replace V:=V.call1 hp
     refine Q<|zaa zfV Z<|Q (SO (v:=.int .u32 _) V za9 Z Z .u1 fun w V=>?_)
     refine NSR<|Q<|zaa zfV Z<|Q<|zae (v:=.int .u32 _) za9 Z Z (V.cellL Q1 Z)<|Q<|zam Z Z<|G<|zab Z (fun g55=>?_) (fun g55=>?_)
     ·refine SQ ?_
      apply zaC [(4,Res.row bq 130 _,Res.emp)] V (bs:=[0,0,0,4,14,31,63]) (ds:=[some 87,some 88,some 89,some 90,some 91,none,some 3]) (htab:=⟨Kr,Kr,Kr⟩)
      intro tab56
      refine DO tab56 1 (fun _ _ _ hc=>zay (vs:=zbq _ _ _ _ _ _) zbo Z (hc.old (v:=Pp _ _) Z Z Z) Z (zac (n:=4) (hc.st.objL (Ar Q0)) _ Z) hc.z)<|DO tab56 2 (fun _ _ _ hc=>zad (v:=Pp _ _) (hc.old Z Z Z) hc.z)<|DO tab56 3 (fun _ _ _ hc=>zaa zdv (hc.old (v:=Pp _ _) Z Z Z) hc.z)<|DO tab56 4 (fun _ _ _ hc=>zae (v:=.int .i64 _) ty3 Z (hc.d 2 Z Z Z Z) (hc.st.cellL (Ar Q1) Z) hc.z)<|zch (fun g v rs=>v = .bool false ∧ rs = [AR 130 bq s (some ⟨bT,0,none⟩) cp l (((m + 1:Nat):Int):Int) Y 43 ((l.getD 0 zaM).at_)]) tab56 5 Q0 (fun f' L' L'' w' hc ⟨X,hrem,hX⟩=>zbj (v1:=Pp _ _) (v2:=.int .i64 _) (v3:=.int .i64 _) zdR Z (hc.d 1 Z Z Z Z) Z (hc.d 3 Z Z Z Z) ((zbE bq s _ cp l (m + 1) Y e p 43 ((l.getD 0 zaM).at_) _ (hc.st.hL _ hrem.mem2)).mono fun v w hp=>⟨[_],fun g hg=>⟨hp.1,Z⟩,hX _ _ (St.callRem hc.st hrem hp.2)⟩))<|RunD.fin zaw tab56 V Z (fun f57 w R60 hs58 hd59 hr61 V=>?_)
      obtain ⟨h87_,r0⟩:=hd59 0 87 rfl rfl
      obtain ⟨h88_,r1⟩:=hd59 1 88 rfl rfl
      obtain ⟨h89_,r2⟩:=hd59 2 89 rfl rfl
      obtain ⟨h90_,r3⟩:=hd59 3 90 rfl rfl
      obtain ⟨h91_,r4⟩:=hd59 4 91 rfl rfl
      simp only [rg5,Fc,Fn,Mc,Mn,r0,r1,r2,r3,r4,Na,An,Ca] at V
      refine zaz (sl:=[(2,Pp _ _),(87,zbf _ _ _ _ _ _),(91,.bool _)]) ⟨(hs58 2 Z).trans Z,h87_,h91_,trivial⟩ ?_
      clear hs58 hd59 hr61 tab56
      refine Q (SO (v:=zbf _ _ _ _ _ _) V zbo Z Z .u6 fun w V=>?_)
      refine AB Z<|G<|zaq func74 Z (zat (vs:=zbq _ _ _ _ _ _) Z zbo Z Z (zac (n:=4) (V.objL Q6) _ Z)) (TP (v:=.bool _) Z) ?_
      replace V:=V.pick (.k1 .nil)
      exact .inl ⟨_,_,_,_,_,_,_,_,_,hB.noid hrs g54 g55,Z,V.noD⟩
     refine zag ?_
     replace V:=V.pick (.c .u1 (.k5 .nil))
     exact cut16 ((idL (l.getD 0 zaM).text Y)) _ w (V) (⟨fun _=>⟨Z,g55⟩,fun q=>absurd g54 q⟩) E5 trivial
    refine zag ?_
    exact cut16 (0) _ w (V) (⟨fun q=>absurd q g54,fun _=>rfl⟩) E5 trivial
 ·refine SR <| MB Z <| Q <| zhP Z <| G <| zab Z (fun g62 => ?_) (fun g62 => ?_)
  ·refine ziJ Z (SQ (zag ?_))
   exact cut1 (0) _ w (V) (LnA.start h0 g62) E8 trivial
  refine zag<|SR<|MP Z<|Q<|zan Z<|Q<|zaa zdh Z<|Q<|zae (v:=.int .i64 _) ty3 Z Z (V.cellL Q0 Z)<|Q<|zaA Z Z Z zbt<|Q<|zan Z<|Q<|zaa zdh Z<|Q (SO (v:=.int .i64 _) V ty3 Z Z .u0 fun w V=>?_)
  refine G<|SQ<|SR<|MP Z<|Q (zaE (v1:=Pp _ _) (v2:=.int .u8 _) zjS Z Z Z ((zeh _ _ _ _ l 1 _ _ _ 5 _ (V.hL _ Q0) (V.hD _ Q0) (V.sepD _ Q0 _ Q0) hl hll hts).mono fun v w hp=>?_))
  rcases hp with ⟨hk39,rfl,hp⟩ | ⟨hk39,hd39,rfl,hp⟩ | ⟨hk39,hd39,rfl,hp⟩
  ·replace V := V.call1 hp
   refine Q<|zad (v:=.tuple #[zbZ _ _ _,.bool _]) Z<|Q<|Ex (zbZ _ _ _) Z Z<|Q<|Ex (.bool _) Z Z<|AB Z<|NSR<|MB Z<|Q<|zaU Z<|G<|zas (Vb (congrArg not (Z:false = _)))<|SR<|Q<|zay (vs:=zbq _ _ _ _ _ _) zbo Z Z Z (zac (n:=4) (V.objL Q4) _ Z)<|Q (SO (v:=zbf _ _ _ _ _ _) V zbo Z Z .u5 fun w V=>?_)
   refine AB Z<|G<|zaq func74 Z (zat (vs:=zbq _ _ _ _ _ _) Z zbo Z Z (zac (n:=4) (V.objL Q5) _ Z)) (TP (v:=.bool _) Z) ?_
   replace V:=V.pick (.k1 .nil)
   exact .inl ⟨_,_,_,_,_,_,_,_,_,zv5 (Nn g62) h0 hk39,Z,V.noD⟩
  ·replace V := V.call1 hp
   refine Q<|zad (v:=.tuple #[zbZ _ _ _,.bool _]) Z<|Q<|Ex (zbZ _ _ _) Z Z<|Q<|Ex (.bool _) Z Z<|AB Z<|NSR<|MB Z<|Q<|zaU Z<|G<|zas (Vb (congrArg not (Z:false = _)))<|SR<|Q<|zay (vs:=zbq _ _ _ _ _ _) zbo Z Z Z (zac (n:=4) (V.objL Q4) _ Z)<|Q (SO (v:=zbf _ _ _ _ _ _) V zbo Z Z .u5 fun w V=>?_)
   refine AB Z<|G<|zaq func74 Z (zat (vs:=zbq _ _ _ _ _ _) Z zbo Z Z (zac (n:=4) (V.objL Q5) _ Z)) (TP (v:=.bool _) Z) ?_
   replace V:=V.pick (.k1 .nil)
   exact .inl ⟨_,_,_,_,_,_,_,_,_,ztM (Nn g62) hk39 hd39,Z,V.noD⟩
  ·replace V := V.call1 hp
   refine Q<|zad (v:=.tuple #[zbZ _ _ _,.bool _]) Z<|Q<|Ex (zbZ _ _ _) Z Z<|Q<|Ex (.bool _) Z Z<|AB Z<|NSR<|MB Z<|Q<|zaU Z<|G<|zal (Vb (congrArg not (Z:true = _)))<|zag<|SQ<|zfN ?_
   exact cut1 (2) _ w (V) (LnA.said (Nn g62) hk39 hd39) E8 trivial
theorem zu6 (s:Tx) (Y:Int) (w:World) (hG:LxG.holds w) (hl:s.length ≤ 1099511627776) (hl24:s.length ≤ 16777216) (hbd:0 ≤ Y ∧ Y < 4294967296):Ret prog 36 #[str s,.int .u32 Y] w (fun v w'=>∃ xo xc,(za4 s Y).1.Sm ∧ v = .tuple #[.agg #[.int .u16 (za4 s Y).1.op,.int .u32 (za4 s Y).1.ty,.int .u32 (za4 s Y).1.res,.slice xo (za4 s Y).1.args.length xc],.bool (za4 s Y).2.1,.agg #[.int .i64 (za4 s Y).2.2.1,.int .i64 (za4 s Y).2.2.2]] ∧ St w NoM [Res.sl xo (za4 s Y).1.args.length xc 110 3 ((za4 s Y).1.args.flatMap zdX)] [] w'):=by
 refine zav (args:=[str s,.int .u32 Y]) func36 Z Z Z ?_
 have V:St w NoM [] [LxG] w:=St.init_Ds (by simp only [List.forall_mem_cons]; exact ⟨hG,fun _ h=>absurd h List.not_mem_nil⟩)
 refine SR<|Q<|zar V zbo fun w b4 V=>AB Z<|Q<|zar V zaV fun w b6 V=>NSR<|MS Z<|MU Z<|Q (zaE (v1:=str _) (v2:=.int .u32 _) ent72 Z Z Z ((zog s Y _ (V.hD _ Q0) hl).mono fun v w hp=>?_))
 obtain ⟨bq,ao,cp,rfl,hp⟩:=hp
 replace V:=V.call0 hp
 refine Q<|zad (v:=.tuple #[Pp _ _,gII _ _]) Z<|Q<|Ex (Pp _ _) Z Z<|Q<|Ex (gII _ _) Z Z<|Q<|zar V zaV fun w b8 V=>AP Z<|Q (SO (v:=gII _ _) V zaV Z Z .u0 fun w V=>?_)
 refine G<|SQ<|SQ ?_
 replace V:=V.pick (.k2 (.c .u1 (.c .u1 (.k1 .nil))))
 replace V:=V.toD (L1:=[_,_,_,_]) (L2:=[_])
 refine RG<|Q<|zaa zbB Z<|Q<|zae (v:=.int .i64 _) zdQ Z Z (V.cellL Q0 Z)<|Q<|zaF Z Z<|MB Z<|zau (d:=20) Z (fun g1=>?_) (fun g1=>?_)
 ·refine OM (t := 20) Z (Vb (Dt g1)) Z <| OM (t := 20) Z (Vb (Dt g1)) Z <| OM (t := 20) Z (Vb (Dt g1)) Z <| Q <| zaB (u := .bool _) (Vb (Dt g1)) Z <| G <| zas (Vb (Z : true = _)) <| SQ ?_
  replace V:=V.pick (.c .u3 (.k3 .nil))
  apply zaC [(2,Res.row b4 44 _,Res.row b4 44 _)] V (bs:=[0,0,1,5,15]) (ds:=[some 25,some 26,none,some 5,none]) (htab:=⟨Kr,Kr,Kr⟩)
  intro tab2
  refine DO tab2 1 (fun _ _ _ hc=>zaf zbo zjj .nil hc.z) ?_
  refine DO tab2 2 (fun _ _ _ hc=>zay (vs:=lII _ _) zaV Z (hc.old (v:=Pp _ _) Z Z Z) Z (zac (n:=2) (hc.st.objL (Ar Q0)) _ Z) hc.z)<|zcb tab2 3 Q0 (fun f' L' L2 w' hc hsel=>zbC (v:=zbf _ _ _ _ _ _) hc.st zbo (hc.old (v:=Pp _ _) Z Z Z) (hc.d 0 Z Z Z Z) Z Z Z hsel (by repeat (first | exact Put.nil | apply Put.put | apply Put.skip)) fun w V=>⟨Z,V⟩) ?_
  refine DO tab2 4 (fun _ _ _ hc=>zap (v:=.bool _) Z hc.z)<|RunD.fin zaw tab2 V Z (fun f3 w R6 hs4 hd5 hr7 V=>?_)
  obtain ⟨h25_,r0⟩:=hd5 0 25 rfl rfl
  obtain ⟨h26_,r1⟩:=hd5 1 26 rfl rfl
  obtain ⟨_,_,r2⟩:=hr7 2 rfl
  obtain ⟨h5_,r3⟩:=hd5 3 5 rfl rfl
  simp only [rg4,Fc,Fn,Mc,Mn,r0,r1,r2,r3,Na,An,Ca] at V
  refine zaz (sl:=[(4,Pp _ _),(5,.bool _),(6,Pp _ _),(26,gII _ _)]) ⟨(hs4 4 Z).trans Z,h5_,(hs4 6 Z).trans Z,h26_,trivial⟩ ?_
  clear hs4 hd5 hr7 tab2
  refine Q (SO (v:=gII _ _) V zaV Z Z .u3 fun w V=>?_)
  refine G<|zbe func36 Z (zat (vs:=zbq _ _ _ _ _ _) Z zbo Z Z (zac (n:=4) (V.objL Q0) _ Z)) (TP (v:=.bool _) Z) (zat (vs:=lII _ _) Z zaV Z Z (zac (n:=2) (V.objL Q3) _ Z)) ?_
  replace V:=V.pick .nil
  have he:za4 s Y = (zeroIL,false,(zbn s).2):=ztO g1
  rw [he]
  exact ⟨none,0,zi8,Z,(V.pushNil 110 3).noD⟩
 refine TK (t:=20) Z (Vb (Df g1)) (zad (v:=Pp _ _) Z ?_)
 replace V:=V.pick (.c .u1 (.k3 .nil))
 refine TK (t:=20) Z (Vb (Df g1)) (zao (v1:=Pp _ _) zuc Z Z ((zf4 _ _ _ _ _ 0 _ _ _ _ (V.hL _ Q0)).mono fun v w hp=>?_))
 obtain ⟨rfl,hp⟩:=hp
 replace V:=V.call1 hp
 refine TK (t:=20) Z (Vb (Df g1))<|zhP Z<|Q<|zax (u:=.bool _) (Vb (Df g1)) Z<|G<|zaj [(4,Pp _ _),(6,Pp _ _),(7,Pp _ _),(8,Pp _ _),(24,.bool _)] E5 fun f=>zab Z (fun g8=>?_) (fun g8=>?_)
 ·refine SQ ?_
  replace V:=V.pick (.c .u3 (.k3 .nil))
  apply zaC [(2,Res.row b4 44 _,Res.row b4 44 _)] V (bs:=[0,0,1,5,15]) (ds:=[some 25,some 26,none,some 5,none]) (htab:=⟨Kr,Kr,Kr⟩)
  intro tab9
  refine DO tab9 1 (fun _ _ _ hc=>zaf zbo zjj .nil hc.z) ?_
  refine DO tab9 2 (fun _ _ _ hc=>zay (vs:=lII _ _) zaV Z (hc.old (v:=Pp _ _) Z Z Z) Z (zac (n:=2) (hc.st.objL (Ar Q1)) _ Z) hc.z)<|zcb tab9 3 Q0 (fun f' L' L2 w' hc hsel=>zbC (v:=zbf _ _ _ _ _ _) hc.st zbo (hc.old (v:=Pp _ _) Z Z Z) (hc.d 0 Z Z Z Z) Z Z Z hsel (by repeat (first | exact Put.nil | apply Put.put | apply Put.skip)) fun w V=>⟨Z,V⟩) ?_
  refine DO tab9 4 (fun _ _ _ hc=>zap (v:=.bool _) Z hc.z)<|RunD.fin zaw tab9 V Z (fun f10 w R13 hs11 hd12 hr14 V=>?_)
  obtain ⟨h25_,r0⟩:=hd12 0 25 rfl rfl
  obtain ⟨h26_,r1⟩:=hd12 1 26 rfl rfl
  obtain ⟨_,_,r2⟩:=hr14 2 rfl
  obtain ⟨h5_,r3⟩:=hd12 3 5 rfl rfl
  simp only [rg4,Fc,Fn,Mc,Mn,r0,r1,r2,r3,Na,An,Ca] at V
  refine zaz (sl:=[(4,Pp _ _),(5,.bool _),(6,Pp _ _),(26,gII _ _)]) ⟨(hs11 4 Z).trans Z,h5_,(hs11 6 Z).trans Z,h26_,trivial⟩ ?_
  clear hs11 hd12 hr14 tab9
  refine Q (SO (v:=gII _ _) V zaV Z Z .u3 fun w V=>?_)
  refine G<|zbe func36 Z (zat (vs:=zbq _ _ _ _ _ _) Z zbo Z Z (zac (n:=4) (V.objL Q0) _ Z)) (TP (v:=.bool _) Z) (zat (vs:=lII _ _) Z zaV Z Z (zac (n:=2) (V.objL Q3) _ Z)) ?_
  replace V:=V.pick .nil
  have he:za4 s Y = (zeroIL,false,(zbn s).2):=zrP g1 (by have:=g8; simp at this; omega)
  rw [he]
  exact ⟨none,0,zi8,Z,(V.pushNil 110 3).noD⟩
 have h0:0 < (zbn s).1.length:=by have:=g8; simp at this; omega
 refine zag<|SR<|MP Z<|Q (zao (v1:=Pp _ _) ent74 Z Z ((zu2 _ s _ _ (zbn s).1 Y _ _ _ O (V.hL _ Q0) (V.hD _ Q0) (V.sepD _ Q0 _ Q0) hl (zmG s) (zje s) hl24 (V.hD _ Q1) (V.sepD _ Q0 _ Q1) hbd (zoF s)).mono fun v w hp=>?_))
 rcases hp with ⟨q1,q2,o1,t1,r1,xo,xn,xc,a2,hq,rfl,hp⟩ | ⟨x,a2,hq,hsm,hla,hxo,rfl,hp⟩
 ·replace V := V.call1 hp
  refine Q<|zad (v:=.tuple #[zbf _ _ _ _ _ _,.bool _]) Z<|Q<|Ex (zbf _ _ _ _ _ _) Z Z<|Q<|Ex (.bool _) Z Z<|Q<|zar V zbo fun w b9 V=>Q (SO (v:=zbf _ _ _ _ _ _) V zbo Z Z .u0 fun w V=>?_)
  refine AB Z<|G<|SQ<|SR<|MB Z<|Q<|zaU Z<|G<|zas (Vb (congrArg not (Z:false = _)))<|SQ ?_
  replace V:=V.pick (.c .u4 (.k4 .nil))
  apply zaC [(5,Res.row b4 44 _,Res.row b4 44 _)] V (bs:=[0,0,2,6,14,1,33,127]) (ds:=[some 34,some 35,some 36,some 37,some 38,none,some 5,none]) (htab:=⟨Kr,Kr,Kr⟩)
  intro tab15
  refine DO tab15 1 (fun _ _ _ hc=>zaf zbo zjj .nil hc.z) ?_
  refine DO tab15 2 (fun _ _ _ hc=>zad (v:=Pp _ _) (hc.old Z Z Z) hc.z)<|DO tab15 3 (fun _ _ _ hc=>zan (hc.d 1 Z Z Z Z) hc.z)<|DO tab15 4 (fun _ _ _ hc=>zaa zl6 (hc.d 2 Z Z Z Z) hc.z)<|DO tab15 5 (fun _ _ _ hc=>zay (vs:=lII _ _) zaV Z (hc.d 3 Z Z Z Z) Z (zac (n:=2) (hc.st.objL (Ar Q1)) _ Z) hc.z)<|zcb tab15 6 Q0 (fun f' L' L2 w' hc hsel=>zbC (v:=zbf _ _ _ _ _ _) hc.st zbo (hc.old (v:=Pp _ _) Z Z Z) (hc.d 0 Z Z Z Z) Z Z Z hsel (by repeat (first | exact Put.nil | apply Put.put | apply Put.skip)) fun w V=>⟨Z,V⟩) ?_
  refine DO tab15 7 (fun _ _ _ hc=>zap (v:=.bool _) Z hc.z)<|RunD.fin zaw tab15 V Z (fun f16 w R19 hs17 hd18 hr20 V=>?_)
  obtain ⟨h34_,r0⟩:=hd18 0 34 rfl rfl
  obtain ⟨h35_,r1⟩:=hd18 1 35 rfl rfl
  obtain ⟨h36_,r2⟩:=hd18 2 36 rfl rfl
  obtain ⟨h37_,r3⟩:=hd18 3 37 rfl rfl
  obtain ⟨h38_,r4⟩:=hd18 4 38 rfl rfl
  obtain ⟨_,_,r5⟩:=hr20 5 rfl
  obtain ⟨h5_,r6⟩:=hd18 6 5 rfl rfl
  simp only [rg7,Fc,Fn,Mc,Mn,r0,r1,r2,r3,r4,r5,r6,Na,An,Ca] at V
  refine zaz (sl:=[(4,Pp _ _),(5,.bool _),(6,Pp _ _),(38,gII _ _)]) ⟨(hs17 4 Z).trans Z,h5_,(hs17 6 Z).trans Z,h38_,trivial⟩ ?_
  clear hs17 hd18 hr20 tab15
  refine Q (SO (v:=gII _ _) V zaV Z Z .u4 fun w V=>?_)
  refine G<|zbe func36 Z (zat (vs:=zbq _ _ _ _ _ _) Z zbo Z Z (zac (n:=4) (V.objL Q0) _ Z)) (TP (v:=.bool _) Z) (zat (vs:=lII _ _) Z zaV Z Z (zac (n:=2) (V.objL Q4) _ Z)) ?_
  replace V:=V.pick .nil
  have he:=(zlV (Y:=Y) g1).trans hq
  rw [he]
  exact ⟨none,0,zi8,Z,(V.pushNil 110 3).noD⟩
 ·replace V := V.call1 hp
  refine Q<|zad (v:=.tuple #[zbf _ _ _ _ _ _,.bool _]) Z<|Q<|Ex (zbf _ _ _ _ _ _) Z Z<|Q<|Ex (.bool _) Z Z<|Q<|zar V zbo fun w b9 V=>Q (SO (v:=zbf _ _ _ _ _ _) V zbo Z Z .u0 fun w V=>?_)
  refine AB Z<|G<|SQ<|SR<|MB Z<|Q<|zaU Z<|G<|zal (Vb (congrArg not (Z:true = _)))<|zag<|SR<|Q<|zay (vs:=zbq _ _ _ _ _ _) zbo Z Z Z (zac (n:=4) (V.objL Q0) _ Z)<|Q (zaf zaV zbW .nil ?_)
  refine Q (SO (v:=zbf _ _ _ _ _ _) V zbo Z Z .u5 fun w V=>?_)
  refine AB Z<|Q (SO (v:=gII _ _) V zaV Z Z .u4 fun w V=>?_)
  refine G<|zbe func36 Z (zat (vs:=zbq _ _ _ _ _ _) Z zbo Z Z (zac (n:=4) (V.objL Q5) _ Z)) (TP (v:=.bool _) Z) (zat (vs:=lII _ _) Z zaV Z Z (zac (n:=2) (V.objL Q4) _ Z)) ?_
  replace V:=V.pick (.c .u2 .nil)
  have he:=(zlV (Y:=Y) g1).trans hq
  rw [he]
  exact ⟨x.ao,x.cap,⟨hsm,hla,hxo⟩,Z,V.noD⟩
theorem ziE (t:Tx) (hl:t.length ≤ 140737488355328) (bc:Nat) (w:World) (hb:(Res.row bc 9 [str t]).holds w):zpP prog 81 [.pointer (some ⟨bc,0,none⟩)] (lnF t).length (itemV (fun j=>[.int .i64 ((j:Int) + 1),str ((lnF t).getD j [])])) (· = bc) w:=by
 intro σ I JJ yv R S s0 hI0 hR hFD hy
 have hlnl:=zjB t
 have hyx:∀ (i:Nat) (r:Tx) (q:σ),lnR t i r → r ≠ [] → I i q → ∀ w1,St w (R 0 s0).foot [R i q] [] w1 → CallV prog yv [.int .i64 ((i:Int) + 1),str (zlf r)] w1 fun v w2=>(v = .bool true ∧ ∃ q',I (i + 1) q' ∧ St w1 (R i q).foot [R (i + 1) q'] [] w2) ∨ (v = .bool false ∧ ∃ q',JJ i q' ∧ St w1 (R i q).foot [S i q'] [] w2):=fun i r q hI hr hs w1 hw1=>by
  obtain ⟨h1,h2,_⟩:=zgH hI hr
  have t:=hy i q _ _ h1 hs ⟨rfl,rfl⟩ w1 hw1.starNil
  rw [zrl] at t
  dsimp only at t
  rwa [h2] at t
 refine zav (args:=[yv,.pointer (some ⟨bc,0,none⟩)]) func81 Z Z Z ?_
 have V:St w (R 0 s0).foot [R 0 s0] [Res.row bc 9 [str t]] w:=St.enter1 hR (fun d hd=>by cases hd with | head=>exact hb | tail _ h=>cases h) (fun d hd=>by cases hd with | head=>exact fun b hb hb2=>hFD b hb hb2 | tail _ h=>cases h)
 refine SQ<|zaC [] V (bs:=[0,0,3]) (ds:=[some 8,some 3,some 4]) ⟨Kr,Kr,Kr⟩ (fun tab1=>?_)
 refine DO tab1 1 (fun _ _ _ hc=>zae (v:=str _) ty9 Z (hc.old (v:=Pp _ _) Z Z Z) (hc.st.cellD Q0 Z) hc.z)<|DO tab1 2 (fun _ _ _ hc=>zap (v:=.int .i64 _) Z hc.z)<|RunD.fin zaw tab1 V Z (fun f2 w R5 hs3 hd4 hr6 V=>?_)
 obtain ⟨h8_,r0⟩:=hd4 0 8 rfl rfl
 obtain ⟨h3_,r1⟩:=hd4 1 3 rfl rfl
 simp only [rg2,Fc,Fn,Mc,Mn,r0,r1,Na,An,Ca] at V
 refine zaz (sl:=[(0,_),(3,.int .i64 _),(8,str _)]) ⟨(hs3 0 Z).trans Z,h3_,h8_,trivial⟩ ?_
 clear hs3 hd4 hr6 tab1
 refine AS Z<|G<|zak<|zaY<|zaZ [(0,_)] ⟨Z,trivial⟩ (fun (qq:Nat × Tx × σ)=>[(3,.int .i64 ((qq.1:Int) + 1)),(4,str qq.2.1)]) (fun (qq:Nat × Tx × σ)=>[R qq.1 qq.2.2]) (fun (qq:Nat × Tx × σ)=>lnR t qq.1 qq.2.1 ∧ I qq.1 qq.2.2) (fun (qq:Nat × Tx × σ)=>qq.2.1.length) ((0,t,s0)) V ⟨zni t,hI0⟩ E2 ?_
 intro ⟨i,r,q⟩ f w V hJ ih7
 replace V:St _ _ ([R i q] ++ []) _ _:=V
 replace hJ:lnR t i r ∧ I i q:=hJ
 refine za6 (sl:=[(3,.int .i64 ((i:Int) + 1)),(4,str r)]) E2 ?_
 have hj1:=hJ.1.1
 have hj3:=hJ.1.2.2
 refine SQ<|SR<|MS Z<|Q<|zdo Z Z<|G<|zab Z (fun g8=>?_) (fun g8=>?_)
 ·have hri := (zgH hJ.1 g8).1
  refine zag<|SQ<|zak<|SR<|MS Z<|Q<|zaE (v1:=str _) (v2:=str _) ent82 Z Z Z<|Ret.det (zqV r _ O) V fun w V=>Q<|zad (v:=.tuple #[str _,str _,.bool _]) Z<|Q<|Ex (str _) Z Z<|Q<|Ex (str _) Z Z<|Q<|Ex (.bool _) Z Z<|AS Z<|AS Z<|AB Z<|G ?_
  refine SQ<|SR<|Q<|zad (v:=_) Z<|MI Z<|MS Z<|Q (ze6 (v1:=.int .i64 _) (v2:=str _) Z Z Z ((hyx i r q hJ.1 g8 hJ.2 _ V.one).mono fun v w hp=>?_))
  rcases hp with ⟨rfl,q2,hI2,hp⟩ | ⟨rfl,q2,hI2,hp⟩
  ·replace V := V.call1 hp
   refine Q<|zaU Z<|G<|zal (Vb (congrArg not (Z:true = _)))<|zag<|RG<|MS Z<|AS Z<|G<|zah<|RG<|MI Z<|Q<|zaA Z Z Z zbt<|AI Z<|G<|zaD ?_
   exact ih7 ((i + 1,zjY r,q2)) _ w ((by (try dsimp only); have h:=(zgH hJ.1 g8).2.2.2; omega)) V (⟨(zgH hJ.1 g8).2.2.1,hI2⟩) ⟨rfl,trivial⟩ ⟨(Vi Od),rfl,trivial⟩
  ·replace V := V.call1 hp
   refine Q<|zaU Z<|G<|zas (Vb (congrArg not (Z:false = _)))<|zgd func81 Z  ?_
   replace V:=V.pick (.k1 .nil)
   exact .inr ⟨i,q2,(zgH hJ.1 g8).1,hI2,V.one⟩
 refine zaK (id:=0) Z<|zdA func81 Z  ?_
 replace V:=V.pick (.k1 .nil)
 obtain rfl:r = []:=Nn g8
 obtain rfl:=ztJ hJ.1
 exact .inl ⟨q,hJ.2,V.one⟩
theorem zu1 (p:InstP) (Y:Int) (hop:0 ≤ p.op) (hf:za7 Y p.L = 0) (w:World) (hA:(Res.rargs p).holds w) (hsm:(p.args.map zaT).sum ≤ 900000000) (hla:∀ a ∈ p.args,a.s.length ≤ 100000000000):Ret prog 45 #[.agg #[.int .u16 p.op,.int .u32 p.ty,.int .u32 p.res,.slice p.ao p.args.length p.cap],.int .u32 Y] w (fun v w'=>v = .int .i64 ((zbY (zaW p.op) p.args:Nat):Int) ∧ St w NoM [] [] w'):=by
 refine zav (args:=[.agg #[.int .u16 p.op,.int .u32 p.ty,.int .u32 p.res,.slice p.ao p.args.length p.cap],.int .u32 Y]) func45 Z Z Z ?_
 have V:St w NoM [] [Res.rargs p] w:=St.init_D hA
 have hsz:=zp6 hf
 refine SR<|Q<|zbi (v:=zbf _ _ _ _ _ _) V Z Z fun w b2 V=>AI Z<|NSR<|Q<|zay (vs:=zbq _ _ _ _ _ _) zbo Z Z Z (zac (n:=4) (V.objL Q0) _ Z)<|MU Z<|Q (zaE (v1:=zbf _ _ _ _ _ _) (v2:=.int .u32 _) zww Z Z Z ((zqZ p Y hop _ (V.hD _ Q0) hsm hla).mono fun v w hp=>?_))
 obtain ⟨ro,rc,rfl,hp⟩:=hp
 replace V:St _ _ (_ :: _) _ _:=V.call0 hp
 refine Q<|zad (v:=.tuple #[gHL _ _ _ _,.int .i64 _]) Z<|Q<|Ex (gHL _ _ _ _) Z Z<|Q<|Ex (.int .i64 _) Z Z<|Q<|zar V zcK fun w b5 V=>Q (SO (v:=gHL _ _ _ _) V zcK Z Z .u0 fun w V=>?_)
 refine AI Z<|NSR<|Q<|zaa zeb Z<|Q<|zae (v:=.slice _ _ _) zcn Z Z (V.cellL Q0 Z)<|Q<|zaH (rest:=[]) zcn Z<|Q<|zaA Z Z Z zbt<|AI Z<|G<|zai func45 Z (TP (v:=.int .i64 _) Z) ?_
 exact ⟨Vi (by have h1:=hsz.1; have h2:zbY (zaW p.L.op) p.L.args = zbY (zaW p.op) p.args:=Z; omega),V.pure⟩
theorem zsA (s:Tx) (w:World) (hG:LxG.holds w) (hl:s.length ≤ 140737488355328):Ret prog 17 #[str s] w (fun v w'=>∃ ao cp dm,dm.map InstP.L = (zet s).1.2.2 ∧ v = .tuple #[.agg #[.int .u32 (zet s).1.1,.int .u32 (zet s).1.2.1,.slice ao dm.length cp],.agg #[.int .i64 (zet s).2.1,.int .i64 (zet s).2.2]] ∧ (dm.length ≤ 1048576 ∧ ∀ x ∈ dm,x.L.Sm) ∧ St w NoM [Res.omod 44 110 ao cp dm] [] w'):=by
 refine zav (args:=[str s]) func17 Z Z Z ?_
 have V:St w NoM [] [LxG] w:=St.init_Ds (by simp only [List.forall_mem_cons]; exact ⟨hG,fun _ h=>absurd h List.not_mem_nil⟩)
 refine SR<|Q<|zar V zcx fun w b2 V=>Q<|zar V zaV fun w b3 V=>G<|SQ<|SR<|MS Z<|Q<|zbb (rest:=[]) ty9 Z<|Q<|zbI Z Z<|G<|zab Z (fun g1=>?_) (fun g1=>?_)
 ·refine SR <| Q (zaf zcx zjk .nil ?_)
  refine Q (zaf zaV zbW (.c (v:=.int .i64 _) Z (h:=.nil)) ?_)
  refine Q (SO (v:=zc7 _ _ _ _ _) V zcx Z Z .u1 fun w V=>?_)
  refine Q (SO (v:=gII _ _) V zaV Z Z .u0 fun w V=>?_)
  refine G<|zaq func17 Z (zat (vs:=zh8 _ _ _ _ _) Z zcx Z Z (zac (n:=3) (V.objL Q1) _ Z)) (zat (vs:=lII _ _) Z zaV Z Z (zac (n:=2) (V.objL Q0) _ Z)) ?_
  replace V:=V.pick .nil
  replace V:=St.starCons ((V.starNil).pushNil 44 4)
  rw [zm8 (by omega)]
  exact ⟨none,0,[],rfl,rfl,⟨Nat.zero_le _,fun x h=>by cases h⟩,V.noD⟩
 refine zag<|SR<|Q<|zar V zcx fun w b4 V=>NSR<|Q<|zar V ty3 fun w b5 V=>Q<|zar V ty3 fun w b6 V=>Q (SO (v:=.int .i64 _) V ty3 Z Z .u1 fun w V=>?_)
 refine Q (SO (v:=.int .i64 _) V ty3 Z Z .u0 fun w V=>?_)
 refine G<|SQ<|SR<|MS Z<|Q (zao (v1:=str _) ent39 Z Z ((zkd s _).mono fun v w hp=>?_))
 obtain ⟨bc,rfl,hp⟩:=hp
 replace V:=V.call0 hp
 refine G<|zak ?_
 replace V:=V.pushNil 44 4
 replace V:=V.starNil
 replace V:=V.pick (.c .u7 (.c .u6 (.c .u5 (.c .u4 (.c .u3 (.c .u1 (.k2 .nil)))))))
 refine zgE (L1:=[_,_,_,_,_,_,_]) (L2:=[_]) (item:=(itemV (fun j=>[.int .i64 ((j:Int) + 1),str ((lnF s).getD j [])]))) (FD:=(· = bc)) (fun i (q:Int × Int × Nat × Option Addr × Nat × List InstP)=>PaM s i q.1 q.2.1 q.2.2.1 q.2.2.2.2.2) (fun i (q:Int × Int × Nat × Option Addr × Nat × List InstP)=>zkY 0 (lnF s) ⟨0,0,0,[]⟩ = zi9 q.1 ((i:Int) + 1)) (fun i (q:Int × Int × Nat × Option Addr × Nat × List InstP)=>[Res.row b2 25 [.int .u32 0,.int .u32 0,.slice none 0 0],Res.row b3 28 [.int .i64 0,.int .i64 0],Res.row b4 25 [.int .u32 q.1,.int .u32 q.2.1,.slice q.2.2.2.1 q.2.2.2.2.2.length q.2.2.2.2.1],Res.row b5 3 [.int .i64 (i:Int)],Res.row b6 3 [.int .i64 (q.2.2.1:Int)],Res.sl q.2.2.2.1 q.2.2.2.2.2.length q.2.2.2.2.1 44 4 (q.2.2.2.2.2.flatMap zdK),Res.star (q.2.2.2.2.2.map (Res.oargs 110))]) (fun i (q:Int × Int × Nat × Option Addr × Nat × List InstP)=>[Res.row b2 25 [.int .u32 0,.int .u32 0,.slice none 0 0],Res.row b3 28 [.int .i64 q.1,.int .i64 ((i:Int) + 1)]]) (fun _=>.ret) ((0,0,0,none,0,[])) (PaM.start) V rfl rfl ent81 (fun b hb=>.inl (by subst hb; exact ⟨_,Q0,rfl⟩)) (fun w1 hw1=>ziE s O bc w1 (hw1.hL _ Q7)) (fun _ _ _ h=>by obtain ⟨rfl,_⟩:=h; rfl) ?_ ?_ ?_
 ·intro i ⟨gn, bd, words, aq, cq, dm⟩ vs x hi hI hitem w bl br lp hlp V hk
  obtain ⟨rfl,rfl⟩:=hitem
  dsimp only at V hI
  have hxl:=zyi s i
  have hmle:=hI.le
  have hmln:=hI.len
  have hlnl:=zjB s
  refine SR<|AI Z<|NR<|AS Z<|G<|zdZ hlp V .u0 fun w V=>zak<|SR<|MI Z<|Q (SO (v:=.int .i64 _) V ty3 Z Z .u6 fun w V=>?_)
  refine G<|SQ<|SR<|Q<|zae (v:=.int .i64 _) ty3 Z Z (V.cellL Q7 Z)<|Q<|zam Z Z<|G<|zab Z (fun g2=>?_) (fun g2=>?_)
  ·refine SR <| MS Z <| Q (zao (v1 := str _) zyx Z Z ((zf3 ((lnF s).getD i []) _ (V.hD _ Q1) O).mono fun v w hp => ?_))
   obtain ⟨aT,cT,rfl,hp⟩:=hp
   replace V:St _ _ (_ :: _) _ _:=V.call0 hp
   refine Q<|zad (v:=.tuple #[.slice _ _ _,gII _ _]) Z<|Q<|Ex (.slice _ _ _) Z Z<|Q<|Ex (gII _ _) Z Z<|Q<|zar V zaV fun w b10 V=>AL Z<|Q (SO (v:=gII _ _) V zaV Z Z .u0 fun w V=>?_)
   refine G<|zaj [(2,Pp _ _),(3,Pp _ _),(4,Pp _ _),(6,Pp _ _),(7,.int .i64 _),(8,str _),(9,.slice _ _ _),(10,Pp _ _)] E8 fun f=>SQ<|SR<|Q<|zaa zbB Z<|Q<|zae (v:=.int .i64 _) zdQ Z Z (V.cellL Q0 Z)<|Q<|zam Z Z<|MB Z<|zau (d:=35) Z (fun g3=>?_) (fun g3=>?_)
   ·refine TK (t := 35) Z (Vb (Dt g3)) <| zad (v := .slice _ _ _) Z <| TK (t := 35) Z (Vb (Dt g3)) <| zaH (rest := []) zfI Z <| TK (t := 35) Z (Vb (Dt g3)) <| zam Z Z <| Q <| zaB (u := .bool _) (Vb (Dt g3)) Z <| G <| zab Z (fun g4 => ?_) (fun g4 => ?_)
    ·refine zaK (id := 1) Z <| zdc hlp V .u2 fun w V => ?_
     replace V:=V.pick (.c .u2 (.c .u2 (.c .u3 (.c .u3 (.c .u3 (.c .u3 (.c .u3 (.c .u3 (.c .u3 .nil)))))))))
     exact .inl ⟨rfl,(gn,bd,words,aq,cq,dm),_,hI.idle hi (by omega) g3 (by have:=g4; simp at this; omega),V⟩
    refine zag<|SR<|MS Z<|Q<|zao (v1:=str _) ent44 Z Z<|Ret.det (zoi ((lnF s).getD i []) _ (V.hD _ Q1) O) V fun w V=>Q<|zad (v:=.tuple #[gUU _ _,gII _ _]) Z<|Q<|Ex (gUU _ _) Z Z<|Q<|Ex (gII _ _) Z Z<|Q<|zar V zbF fun w b11 V=>Q (SO (v:=gUU _ _) V zbF Z Z .u0 fun w V=>?_)
    refine Q (SO (v:=gII _ _) V zaV Z Z .u1 fun w V=>?_)
    refine G<|SQ<|SR<|Q<|zaa zbB Z<|Q<|zae (v:=.int .i64 _) zdQ Z Z (V.cellL Q1 Z)<|Q<|zaF Z Z<|G<|zab Z (fun g5=>?_) (fun g5=>?_)
    ·refine SQ ?_
     replace V:=V.pick (.c .u6 (.k12 .nil))
     apply zaC [(5,Res.row b2 25 _,Res.row b2 25 _)] V (bs:=[0,0,2,0,14,1,63]) (ds:=[some 48,some 49,some 50,some 51,some 52,none,none]) (htab:=⟨Kr,Kr,Kr⟩)
     intro tab6
     refine DO tab6 1 (fun _ _ _ hc=>zaf zcx zjk .nil hc.z) ?_
     refine DO tab6 2 (fun _ _ _ hc=>zaa zbB (hc.old (v:=Pp _ _) Z Z Z) hc.z)<|DO tab6 3 (fun _ _ _ hc=>zae (v:=.int .i64 _) zdQ Z (hc.d 1 Z Z Z Z) (hc.st.cellL (Ar Q1) Z) hc.z)<|DO tab6 4 (fun _ _ _ hc=>zad (v:=.int .i64 _) (hc.old Z Z Z) hc.z)<|DO tab6 5 (fun _ _ _ hc=>zaf zaV zbW (.c (v:=.int .i64 _) (hc.d 2 Z Z Z Z) (h:=(.c (v:=.int .i64 _) (hc.d 3 Z Z Z Z) (h:=.nil)))) hc.z) ?_
     refine zcb tab6 6 Q0 (fun f' L' L2 w' hc hsel=>zbC (v:=zc7 _ _ _ _ _) hc.st zcx (hc.old (v:=Pp _ _) Z Z Z) (hc.d 0 Z Z Z Z) Z Z Z hsel (by repeat (first | exact Put.nil | apply Put.put | apply Put.skip)) fun w V=>⟨Z,V⟩) ?_
     refine RunD.fin zaw tab6 V Z (fun f7 w R10 hs8 hd9 hr11 V=>?_)
     obtain ⟨h48_,r0⟩:=hd9 0 48 rfl rfl
     obtain ⟨h49_,r1⟩:=hd9 1 49 rfl rfl
     obtain ⟨h50_,r2⟩:=hd9 2 50 rfl rfl
     obtain ⟨h51_,r3⟩:=hd9 3 51 rfl rfl
     obtain ⟨h52_,r4⟩:=hd9 4 52 rfl rfl
     obtain ⟨_,_,r5⟩:=hr11 5 rfl
     simp only [rg6,Fc,Fn,Mc,Mn,r0,r1,r2,r3,r4,r5,Na,An,Ca] at V
     refine zaz (sl:=[(2,Pp _ _),(3,Pp _ _),(52,gII _ _)]) ⟨(hs8 2 Z).trans Z,(hs8 3 Z).trans Z,h52_,trivial⟩ ?_
     clear hs8 hd9 hr11 tab6
     refine Q (SO (v:=gII _ _) V zaV Z Z .u7 fun w V=>?_)
     refine G<|zfc V .u4 fun w V=>?_
     replace V:=V.pick (.c .u4 (.c .u4 (.k1 (.c .u4 .nil))))
     exact .inr ⟨rfl,((zcY ((lnF s).getD i [])).2.1,0,0,none,0,[]),_,hI.nohead hi (by omega) (fun h=>(show ¬ (zbn ((lnF s).getD i [])).1.length = 0 by have:=g4; simp at this; omega) h.2) g5,V⟩
    refine zag<|SQ ?_
    replace V:=V.pick (.c .u8 (.k12 .nil))
    apply zaC [(5,Res.row b4 25 _,Res.row b4 25 _)] V (bs:=[0,1,0,4,3,19,63,127]) (ds:=[some 53,some 54,some 55,some 56,some 57,none,some 58,none]) (htab:=⟨Kr,Kr,Kr⟩)
    intro tab12
    refine DO tab12 1 (fun _ _ _ hc=>zaa zjI (hc.old (v:=Pp _ _) Z Z Z) hc.z)<|DO tab12 2 (fun _ _ _ hc=>zae (v:=.int .u32 _) za9 Z (hc.d 0 Z Z Z Z) (hc.st.cellL (Ar Q0) Z) hc.z)<|DO tab12 3 (fun _ _ _ hc=>zaa zfU (hc.old (v:=Pp _ _) Z Z Z) hc.z)<|DO tab12 4 (fun _ _ _ hc=>zae (v:=.int .u32 _) za9 Z (hc.d 2 Z Z Z Z) (hc.st.cellL (Ar Q0) Z) hc.z)<|DO tab12 5 (fun _ _ _ hc=>zaa zfg (hc.old (v:=Pp _ _) Z Z Z) hc.z)<|zcb tab12 6 Q0 (fun f' L' L2 w' hc hsel=>zbC (v:=.int .u32 _) hc.st za9 (hc.d 4 Z Z Z Z) (hc.d 1 Z Z Z Z) Z Z Z hsel (by repeat (first | exact Put.nil | apply Put.put | apply Put.skip)) fun w V=>⟨Z,V⟩) ?_
    refine RunD.fin zaw tab12 V Z (fun f13 w R16 hs14 hd15 hr17 V=>?_)
    obtain ⟨h53_,r0⟩:=hd15 0 53 rfl rfl
    obtain ⟨h54_,r1⟩:=hd15 1 54 rfl rfl
    obtain ⟨h55_,r2⟩:=hd15 2 55 rfl rfl
    obtain ⟨h56_,r3⟩:=hd15 3 56 rfl rfl
    obtain ⟨h57_,r4⟩:=hd15 4 57 rfl rfl
    obtain ⟨_,_,r5⟩:=hr17 5 rfl
    simp only [rg6,Fc,Fn,Mc,Mn,r0,r1,r2,r3,r4,r5,Na,An,Ca] at V
    refine zaz (sl:=[(2,Pp _ _),(3,Pp _ _),(4,Pp _ _),(6,Pp _ _),(56,.int .u32 _)]) ⟨(hs14 2 Z).trans Z,(hs14 3 Z).trans Z,(hs14 4 Z).trans Z,(hs14 6 Z).trans Z,h56_,trivial⟩ ?_
    clear hs14 hd15 hr17 tab12
    refine Q<|zaa zcZ Z<|Q (SO (v:=.int .u32 _) V za9 Z Z .u0 fun w V=>?_)
    refine G<|zaj [(2,Pp _ _),(3,Pp _ _),(6,Pp _ _)] E3 fun f=>SR<|Q (SO (v:=.int .i64 _) V ty3 Z Z .u10 fun w V=>?_)
    refine G<|zaK (id:=1) Z<|zdc hlp V .u4 fun w V=>?_
    replace V:=V.pick (.c .u4 (.c .u4 (.c .u5 (.c .u5 (.k1 (.c .u4 (.c .u4 (.c .u4 (.c .u4 .nil)))))))))
    exact .inl ⟨rfl,((zcY ((lnF s).getD i [])).1.1,(zcY ((lnF s).getD i [])).1.2,5,aq,cq,dm),_,hI.head hi (by omega) (fun h=>(show ¬ (zbn ((lnF s).getD i [])).1.length = 0 by have:=g4; simp at this; omega) h.2) g5,V⟩
   refine OM (t:=35) Z (Vb (Df g3)) Z<|OM (t:=35) Z (Vb (Df g3)) Z<|OM (t:=35) Z (Vb (Df g3)) Z<|Q<|zax (u:=.bool _) (Vb (Df g3)) Z<|G<|zal (Vb (Z:false = _))<|zag<|SR<|MS Z<|Q<|zao (v1:=str _) ent44 Z Z<|Ret.det (zoi ((lnF s).getD i []) _ (V.hD _ Q1) O) V fun w V=>Q<|zad (v:=.tuple #[gUU _ _,gII _ _]) Z<|Q<|Ex (gUU _ _) Z Z<|Q<|Ex (gII _ _) Z Z<|Q (zar V zbF fun w b11 V=>?_)
   refine Q (SO (v:=gUU _ _) V zbF Z Z .u0 fun w V=>?_)
   refine Q (SO (v:=gII _ _) V zaV Z Z .u1 fun w V=>?_)
   refine G<|SQ<|SR<|Q<|zaa zbB Z<|Q<|zae (v:=.int .i64 _) zdQ Z Z (V.cellL Q1 Z)<|Q<|zaF Z Z<|G<|zab Z (fun g18=>?_) (fun g18=>?_)
   ·refine SQ ?_
    replace V:=V.pick (.c .u6 (.k12 .nil))
    apply zaC [(5,Res.row b2 25 _,Res.row b2 25 _)] V (bs:=[0,0,2,0,14,1,63]) (ds:=[some 48,some 49,some 50,some 51,some 52,none,none]) (htab:=⟨Kr,Kr,Kr⟩)
    intro tab19
    refine DO tab19 1 (fun _ _ _ hc=>zaf zcx zjk .nil hc.z) ?_
    refine DO tab19 2 (fun _ _ _ hc=>zaa zbB (hc.old (v:=Pp _ _) Z Z Z) hc.z)<|DO tab19 3 (fun _ _ _ hc=>zae (v:=.int .i64 _) zdQ Z (hc.d 1 Z Z Z Z) (hc.st.cellL (Ar Q1) Z) hc.z)<|DO tab19 4 (fun _ _ _ hc=>zad (v:=.int .i64 _) (hc.old Z Z Z) hc.z)<|DO tab19 5 (fun _ _ _ hc=>zaf zaV zbW (.c (v:=.int .i64 _) (hc.d 2 Z Z Z Z) (h:=(.c (v:=.int .i64 _) (hc.d 3 Z Z Z Z) (h:=.nil)))) hc.z) ?_
    refine zcb tab19 6 Q0 (fun f' L' L2 w' hc hsel=>zbC (v:=zc7 _ _ _ _ _) hc.st zcx (hc.old (v:=Pp _ _) Z Z Z) (hc.d 0 Z Z Z Z) Z Z Z hsel (by repeat (first | exact Put.nil | apply Put.put | apply Put.skip)) fun w V=>⟨Z,V⟩) ?_
    refine RunD.fin zaw tab19 V Z (fun f20 w R23 hs21 hd22 hr24 V=>?_)
    obtain ⟨h48_,r0⟩:=hd22 0 48 rfl rfl
    obtain ⟨h49_,r1⟩:=hd22 1 49 rfl rfl
    obtain ⟨h50_,r2⟩:=hd22 2 50 rfl rfl
    obtain ⟨h51_,r3⟩:=hd22 3 51 rfl rfl
    obtain ⟨h52_,r4⟩:=hd22 4 52 rfl rfl
    obtain ⟨_,_,r5⟩:=hr24 5 rfl
    simp only [rg6,Fc,Fn,Mc,Mn,r0,r1,r2,r3,r4,r5,Na,An,Ca] at V
    refine zaz (sl:=[(2,Pp _ _),(3,Pp _ _),(52,gII _ _)]) ⟨(hs21 2 Z).trans Z,(hs21 3 Z).trans Z,h52_,trivial⟩ ?_
    clear hs21 hd22 hr24 tab19
    refine Q (SO (v:=gII _ _) V zaV Z Z .u7 fun w V=>?_)
    refine G<|zfc V .u4 fun w V=>?_
    replace V:=V.pick (.c .u4 (.c .u4 (.k1 (.c .u4 .nil))))
    exact .inr ⟨Z,((zcY ((lnF s).getD i [])).2.1,0,0,none,0,[]),_,hI.nohead hi O (fun h=>g3 h.1) g18,V⟩
   refine zag<|SQ ?_
   replace V:=V.pick (.c .u8 (.k12 .nil))
   apply zaC [(5,Res.row b4 25 _,Res.row b4 25 _)] V (bs:=[0,1,0,4,3,19,63,127]) (ds:=[some 53,some 54,some 55,some 56,some 57,none,some 58,none]) (htab:=⟨Kr,Kr,Kr⟩)
   intro tab25
   refine DO tab25 1 (fun _ _ _ hc=>zaa zjI (hc.old (v:=Pp _ _) Z Z Z) hc.z)<|DO tab25 2 (fun _ _ _ hc=>zae (v:=.int .u32 _) za9 Z (hc.d 0 Z Z Z Z) (hc.st.cellL (Ar Q0) Z) hc.z)<|DO tab25 3 (fun _ _ _ hc=>zaa zfU (hc.old (v:=Pp _ _) Z Z Z) hc.z)<|DO tab25 4 (fun _ _ _ hc=>zae (v:=.int .u32 _) za9 Z (hc.d 2 Z Z Z Z) (hc.st.cellL (Ar Q0) Z) hc.z)<|DO tab25 5 (fun _ _ _ hc=>zaa zfg (hc.old (v:=Pp _ _) Z Z Z) hc.z)<|zcb tab25 6 Q0 (fun f' L' L2 w' hc hsel=>zbC (v:=.int .u32 _) hc.st za9 (hc.d 4 Z Z Z Z) (hc.d 1 Z Z Z Z) Z Z Z hsel (by repeat (first | exact Put.nil | apply Put.put | apply Put.skip)) fun w V=>⟨Z,V⟩) ?_
   refine RunD.fin zaw tab25 V Z (fun f26 w R29 hs27 hd28 hr30 V=>?_)
   obtain ⟨h53_,r0⟩:=hd28 0 53 rfl rfl
   obtain ⟨h54_,r1⟩:=hd28 1 54 rfl rfl
   obtain ⟨h55_,r2⟩:=hd28 2 55 rfl rfl
   obtain ⟨h56_,r3⟩:=hd28 3 56 rfl rfl
   obtain ⟨h57_,r4⟩:=hd28 4 57 rfl rfl
   obtain ⟨_,_,r5⟩:=hr30 5 rfl
   simp only [rg6,Fc,Fn,Mc,Mn,r0,r1,r2,r3,r4,r5,Na,An,Ca] at V
   refine zaz (sl:=[(2,Pp _ _),(3,Pp _ _),(4,Pp _ _),(6,Pp _ _),(56,.int .u32 _)]) ⟨(hs27 2 Z).trans Z,(hs27 3 Z).trans Z,(hs27 4 Z).trans Z,(hs27 6 Z).trans Z,h56_,trivial⟩ ?_
   clear hs27 hd28 hr30 tab25
   refine Q<|zaa zcZ Z<|Q (SO (v:=.int .u32 _) V za9 Z Z .u0 fun w V=>?_)
   refine G<|zaj [(2,Pp _ _),(3,Pp _ _),(6,Pp _ _)] E3 fun f=>SR<|Q (SO (v:=.int .i64 _) V ty3 Z Z .u10 fun w V=>?_)
   refine G<|zaK (id:=1) Z<|zdc hlp V .u4 fun w V=>?_
   replace V:=V.pick (.c .u4 (.c .u4 (.c .u5 (.c .u5 (.k1 (.c .u4 (.c .u4 (.c .u4 (.c .u4 .nil)))))))))
   exact .inl ⟨Z,((zcY ((lnF s).getD i [])).1.1,(zcY ((lnF s).getD i [])).1.2,5,aq,cq,dm),_,hI.head hi O (fun h=>g3 h.1) g18,V⟩
  refine zag<|SR<|MS Z<|Q<|zaa zcZ Z<|Q (zae (v:=.int .u32 _) za9 Z Z (V.cellL Q5 Z) ?_)
  have hbdr:=hI.bdr O
  refine Q (zaE (v1:=str _) (v2:=.int .u32 _) ent36 Z Z Z ((zu6 ((lnF s).getD i []) bd _ (V.hD _ Q1) O O ⟨by omega,by omega⟩).mono fun v w hp=>?_))
  obtain ⟨xo,xc,hsm,rfl,hp⟩:=hp
  replace V:St _ _ (_ :: _) _ _:=V.call0 hp
  refine Q<|zad (v:=.tuple #[zbf _ _ _ _ _ _,.bool _,gII _ _]) Z<|Q<|Ex (zbf _ _ _ _ _ _) Z Z<|Q<|Ex (.bool _) Z Z<|Q<|Ex (gII _ _) Z Z<|Q<|zar V zbo fun w b12 V=>Q<|zar V zaV fun w b14 V=>Q (SO (v:=zbf _ _ _ _ _ _) V zbo Z Z .u1 fun w V=>?_)
  refine AB Z<|Q (SO (v:=gII _ _) V zaV Z Z .u0 fun w V=>?_)
  refine G<|zaj [(2,Pp _ _),(3,Pp _ _),(4,Pp _ _),(6,Pp _ _),(7,.int .i64 _),(12,Pp _ _),(13,.bool _),(14,Pp _ _)] E8 fun f=>SQ<|SR<|MB Z<|G<|zaQ Z (fun g31=>?_) (fun g31=>?_)
  ·have hfl := hI.fault O g31
   have hsz:=zp6 hfl.2
   have he0:(za4 ((lnF s).getD i []) bd).2.2.1 = 0:=by rw [hfl.1]
   have hrmY:zbY (zaW (InstP.op (⟨(za4 ((lnF s).getD i []) bd).1.op,(za4 ((lnF s).getD i []) bd).1.ty,(za4 ((lnF s).getD i []) bd).1.res,xo,xc,(za4 ((lnF s).getD i []) bd).1.args⟩:InstP))) (InstP.args (⟨(za4 ((lnF s).getD i []) bd).1.op,(za4 ((lnF s).getD i []) bd).1.ty,(za4 ((lnF s).getD i []) bd).1.res,xo,xc,(za4 ((lnF s).getD i []) bd).1.args⟩:InstP)) = zbY (zaW (za4 ((lnF s).getD i []) bd).1.op) (za4 ((lnF s).getD i []) bd).1.args:=rfl
   refine SQ<|zaC [] V (bs:=[0,0,0,4,14,31,63]) (ds:=[some 68,some 69,some 70,some 71,some 72,some 73,none]) ⟨Kr,Kr,Kr⟩ (fun tab32=>?_)
   refine DO tab32 1 (fun _ _ _ hc=>zae (v:=.int .i64 _) ty3 Z (hc.old (v:=Pp _ _) Z Z Z) (hc.st.cellL (Ar Q10) Z) hc.z)<|DO tab32 2 (fun _ _ _ hc=>zay (vs:=zbq _ _ _ _ _ _) zbo Z (hc.old (v:=Pp _ _) Z Z Z) Z (zac (n:=4) (hc.st.objL (Ar Q1)) _ Z) hc.z)<|DO tab32 3 (fun _ _ _ hc=>zaa zcZ (hc.old (v:=Pp _ _) Z Z Z) hc.z)<|DO tab32 4 (fun _ _ _ hc=>zae (v:=.int .u32 _) za9 Z (hc.d 2 Z Z Z Z) (hc.st.cellL (Ar Q8) Z) hc.z)<|DO tab32 5 (fun _ _ _ hc=>zaE (v1:=zbf _ _ _ _ _ _) (v2:=.int .u32 _) ent45 Z (hc.d 1 Z Z Z Z) (hc.d 3 Z Z Z Z) ((zu1 (⟨(za4 ((lnF s).getD i []) bd).1.op,(za4 ((lnF s).getD i []) bd).1.ty,(za4 ((lnF s).getD i []) bd).1.res,xo,xc,(za4 ((lnF s).getD i []) bd).1.args⟩:InstP) bd hsm.2.2.1 hfl.2 _ (Res.rs_of_sl (hc.st.hL _ (Ar Q2))) hsm.1 hsm.2.1).mono fun v w hp=>⟨[],⟨hp.1,Z⟩,hc.st.keepc hp.2⟩))<|RunD.fin zaw tab32 V Z (fun f33 w R36 hs34 hd35 hr37 V=>?_)
   obtain ⟨h68_,r0⟩:=hd35 0 68 rfl rfl
   obtain ⟨h69_,r1⟩:=hd35 1 69 rfl rfl
   obtain ⟨h70_,r2⟩:=hd35 2 70 rfl rfl
   obtain ⟨h71_,r3⟩:=hd35 3 71 rfl rfl
   obtain ⟨h72_,r4⟩:=hd35 4 72 rfl rfl
   simp only [rg5,Fc,Fn,Mc,Mn,r0,r1,r2,r3,r4,Na,An,Ca] at V
   refine zaz (sl:=[(2,Pp _ _),(3,Pp _ _),(4,Pp _ _),(6,Pp _ _),(7,.int .i64 _),(12,Pp _ _),(14,Pp _ _),(68,.int .i64 _),(72,.int .i64 _)]) ⟨(hs34 2 Z).trans Z,(hs34 3 Z).trans Z,(hs34 4 Z).trans Z,(hs34 6 Z).trans Z,(hs34 7 Z).trans Z,(hs34 12 Z).trans Z,(hs34 14 Z).trans Z,h68_,h72_,trivial⟩ ?_
   clear hs34 hd35 hr37 tab32
   refine Q<|zaA Z Z Z zbt<|Q (SO (v:=.int .i64 _) V ty3 Z Z .u10 fun w V=>?_)
   refine NSR<|Q<|zaa zbX Z<|Q<|zae (v:=.slice _ _ _) zdO Z Z (V.cellL Q8 Z)<|Q<|zay (vs:=zbq _ _ _ _ _ _) zbo Z Z Z (zac (n:=4) (V.objL Q1) _ Z)<|Q (zaI (z0:=[.int .u16 0,.int .u32 0,.int .u32 0,.slice none 0 0]) V zdO zbo Z Z Kr (.c (v:=zbf _ _ _ _ _ _) Z (h:=.nil)) fun w b77 V=>?_)
   refine Q (zaP (news:=(zbq _ _ _ _ _ _)) V zdO zbo Z Z .u12 Z Z Z (zac (n:=4) (V.objL Q0) _ Z) Z Z O fun w ao38 cp39 V=>?_)
   replace V:=V.drop .u1
   refine Q<|zaa zbX Z<|Q (SO (v:=.slice _ _ _) V zdO Z Z .u9 fun w V=>?_)
   refine NSR<|Q<|zae (v:=.int .i64 _) ty3 Z Z (V.cellL Q11 Z)<|Q<|zbI Z Z<|G<|zab Z (fun g40=>?_) (fun g40=>?_)
   ·refine RG <| Q <| zaa zbB Z <| Q (SO (v := .int .i64 _) V zdQ Z Z .u1 fun w V => ?_)
    refine NSR<|Q<|zaa zbB Z<|Q<|zae (v:=.int .i64 _) zdQ Z Z (V.cellL Q1 Z)<|Q<|zaF Z Z<|G<|zaj [(2,Pp _ _),(3,Pp _ _),(7,.int .i64 _),(14,Pp _ _),(85,.bool _)] E5 fun f=>zab Z (fun g41=>?_) (fun g41=>?_)
    ·refine SQ ?_
     replace V:=V.pick (.c .u7 (.k12 .nil))
     apply zaC [(5,Res.row b2 25 _,Res.row b2 25 _)] V (bs:=[0,0,2,0,14,1,63]) (ds:=[some 86,some 87,some 88,some 89,some 90,none,none]) (htab:=⟨Kr,Kr,Kr⟩)
     intro tab42
     refine DO tab42 1 (fun _ _ _ hc=>zaf zcx zjk .nil hc.z) ?_
     refine DO tab42 2 (fun _ _ _ hc=>zaa zbB (hc.old (v:=Pp _ _) Z Z Z) hc.z)<|DO tab42 3 (fun _ _ _ hc=>zae (v:=.int .i64 _) zdQ Z (hc.d 1 Z Z Z Z) (hc.st.cellL (Ar Q1) Z) hc.z)<|DO tab42 4 (fun _ _ _ hc=>zad (v:=.int .i64 _) (hc.old Z Z Z) hc.z)<|DO tab42 5 (fun _ _ _ hc=>zaf zaV zbW (.c (v:=.int .i64 _) (hc.d 2 Z Z Z Z) (h:=(.c (v:=.int .i64 _) (hc.d 3 Z Z Z Z) (h:=.nil)))) hc.z) ?_
     refine zcb tab42 6 Q0 (fun f' L' L2 w' hc hsel=>zbC (v:=zc7 _ _ _ _ _) hc.st zcx (hc.old (v:=Pp _ _) Z Z Z) (hc.d 0 Z Z Z Z) Z Z Z hsel (by repeat (first | exact Put.nil | apply Put.put | apply Put.skip)) fun w V=>⟨Z,V⟩) ?_
     refine RunD.fin zaw tab42 V Z (fun f43 w R46 hs44 hd45 hr47 V=>?_)
     obtain ⟨h86_,r0⟩:=hd45 0 86 rfl rfl
     obtain ⟨h87_,r1⟩:=hd45 1 87 rfl rfl
     obtain ⟨h88_,r2⟩:=hd45 2 88 rfl rfl
     obtain ⟨h89_,r3⟩:=hd45 3 89 rfl rfl
     obtain ⟨h90_,r4⟩:=hd45 4 90 rfl rfl
     obtain ⟨_,_,r5⟩:=hr47 5 rfl
     simp only [rg6,Fc,Fn,Mc,Mn,r0,r1,r2,r3,r4,r5,Na,An,Ca] at V
     refine zaz (sl:=[(2,Pp _ _),(3,Pp _ _),(90,gII _ _)]) ⟨(hs44 2 Z).trans Z,(hs44 3 Z).trans Z,h90_,trivial⟩ ?_
     clear hs44 hd45 hr47 tab42
     refine Q (SO (v:=gII _ _) V zaV Z Z .u8 fun w V=>?_)
     refine G<|zfc V .u5 fun w V=>?_
     replace V:=V.pick (.c .u5 (.c .u5 (.k1 (.c .u5 .nil))))
     exact .inr ⟨rfl,(4,0,0,none,0,[]),_,hI.big hi (by omega) g31 (by rw [hrmY] at *; omega),V⟩
    exfalso
    omega
   refine zag<|SR<|Q<|zaa zbB Z<|Q<|zae (v:=.int .i64 _) zdQ Z Z (V.cellL Q1 Z)<|Q<|zaF Z Z<|G<|zab Z (fun g48=>?_) (fun g48=>?_)
   ·exfalso
    exact g48 he0
   refine zag<|zah<|zdc hlp V .u4 fun w V=>?_
   replace V:=V.pick (.c .u3 (.c .u11 (.c .u3 (.c .u3 (.c .u4 (.c .u4 (.c .u4 (.c .u4 (.c .u4 (.k1 .nil))))))))))
   replace V:=V.starSnoc
   replace V:=V.pick (.c .u1 (.c .u1 (.c .u1 (.c .u1 (.c .u1 (.c .u1 (.c .u1 (.c .u1 (.k1 .nil)))))))))
   have e1:dm.length + 1 = (dm ++ [(⟨(za4 ((lnF s).getD i []) bd).1.op,(za4 ((lnF s).getD i []) bd).1.ty,(za4 ((lnF s).getD i []) bd).1.res,xo,xc,(za4 ((lnF s).getD i []) bd).1.args⟩:InstP)]).length:=by simp
   have e2:dm.flatMap zdK ++ [.int .u16 (za4 ((lnF s).getD i []) bd).1.op,.int .u32 (za4 ((lnF s).getD i []) bd).1.ty,.int .u32 (za4 ((lnF s).getD i []) bd).1.res,.slice xo (za4 ((lnF s).getD i []) bd).1.args.length xc] = (dm ++ [(⟨(za4 ((lnF s).getD i []) bd).1.op,(za4 ((lnF s).getD i []) bd).1.ty,(za4 ((lnF s).getD i []) bd).1.res,xo,xc,(za4 ((lnF s).getD i []) bd).1.args⟩:InstP)]).flatMap zdK:=by simp
   have e3:dm.map (Res.oargs 110) ++ [Res.sl xo (za4 ((lnF s).getD i []) bd).1.args.length xc 110 3 ((za4 ((lnF s).getD i []) bd).1.args.flatMap zdX)] = (dm ++ [(⟨(za4 ((lnF s).getD i []) bd).1.op,(za4 ((lnF s).getD i []) bd).1.ty,(za4 ((lnF s).getD i []) bd).1.res,xo,xc,(za4 ((lnF s).getD i []) bd).1.args⟩:InstP)]).map (Res.oargs 110):=by simp
   rw [e1,e2,e3] at V
   exact .inl ⟨rfl,(gn,bd,words + zbY (zaW (za4 ((lnF s).getD i []) bd).1.op) (za4 ((lnF s).getD i []) bd).1.args,ao38,cp39,dm ++ [(⟨(za4 ((lnF s).getD i []) bd).1.op,(za4 ((lnF s).getD i []) bd).1.ty,(za4 ((lnF s).getD i []) bd).1.res,xo,xc,(za4 ((lnF s).getD i []) bd).1.args⟩:InstP)]),_,hI.more hi (by omega) g31 (by rw [hrmY] at *; omega) rfl hsm,V⟩
  refine zag<|SR<|Q<|zaa zbB Z<|Q<|zae (v:=.int .i64 _) zdQ Z Z (V.cellL Q0 Z)<|Q<|zaF Z Z<|G<|zab Z (fun g49=>?_) (fun g49=>?_)
  ·refine SQ ?_
   replace V:=V.pick (.c .u6 (.k12 .nil))
   apply zaC [(5,Res.row b2 25 _,Res.row b2 25 _)] V (bs:=[0,0,2,0,14,1,63]) (ds:=[some 86,some 87,some 88,some 89,some 90,none,none]) (htab:=⟨Kr,Kr,Kr⟩)
   intro tab50
   refine DO tab50 1 (fun _ _ _ hc=>zaf zcx zjk .nil hc.z) ?_
   refine DO tab50 2 (fun _ _ _ hc=>zaa zbB (hc.old (v:=Pp _ _) Z Z Z) hc.z)<|DO tab50 3 (fun _ _ _ hc=>zae (v:=.int .i64 _) zdQ Z (hc.d 1 Z Z Z Z) (hc.st.cellL (Ar Q0) Z) hc.z)<|DO tab50 4 (fun _ _ _ hc=>zad (v:=.int .i64 _) (hc.old Z Z Z) hc.z)<|DO tab50 5 (fun _ _ _ hc=>zaf zaV zbW (.c (v:=.int .i64 _) (hc.d 2 Z Z Z Z) (h:=(.c (v:=.int .i64 _) (hc.d 3 Z Z Z Z) (h:=.nil)))) hc.z) ?_
   refine zcb tab50 6 Q0 (fun f' L' L2 w' hc hsel=>zbC (v:=zc7 _ _ _ _ _) hc.st zcx (hc.old (v:=Pp _ _) Z Z Z) (hc.d 0 Z Z Z Z) Z Z Z hsel (by repeat (first | exact Put.nil | apply Put.put | apply Put.skip)) fun w V=>⟨Z,V⟩) ?_
   refine RunD.fin zaw tab50 V Z (fun f51 w R54 hs52 hd53 hr55 V=>?_)
   obtain ⟨h86_,r0⟩:=hd53 0 86 rfl rfl
   obtain ⟨h87_,r1⟩:=hd53 1 87 rfl rfl
   obtain ⟨h88_,r2⟩:=hd53 2 88 rfl rfl
   obtain ⟨h89_,r3⟩:=hd53 3 89 rfl rfl
   obtain ⟨h90_,r4⟩:=hd53 4 90 rfl rfl
   obtain ⟨_,_,r5⟩:=hr55 5 rfl
   simp only [rg6,Fc,Fn,Mc,Mn,r0,r1,r2,r3,r4,r5,Na,An,Ca] at V
   refine zaz (sl:=[(2,Pp _ _),(3,Pp _ _),(90,gII _ _)]) ⟨(hs52 2 Z).trans Z,(hs52 3 Z).trans Z,h90_,trivial⟩ ?_
   clear hs52 hd53 hr55 tab50
   refine Q (SO (v:=gII _ _) V zaV Z Z .u7 fun w V=>?_)
   refine G<|zfc V .u4 fun w V=>?_
   replace V:=V.pick (.c .u4 (.c .u4 (.k1 (.c .u4 .nil))))
   exact .inr ⟨Z,((za4 ((lnF s).getD i []) bd).2.2.1,0,0,none,0,[]),_,hI.noline hi O g49,V⟩
  refine zag<|zah<|zdc hlp V .u3 fun w V=>?_
  replace V:=V.pick (.c .u3 (.c .u3 (.c .u4 (.c .u4 (.c .u4 (.c .u4 (.c .u4 (.c .u4 (.c .u4 .nil)))))))))
  exact .inl ⟨Z,(gn,bd,words,aq,cq,dm),_,hI.skip hi O g49 g31,V⟩
 ·intro ⟨gn, bd, words, aq, cq, dm⟩ w bl br lp hI V
  dsimp only at V hI
  refine zah<|SQ<|SR<|Q<|zae (v:=.int .i64 _) ty3 Z Z (V.cellL Q6 Z)<|Q<|zam Z Z<|G<|zab Z (fun g56=>?_) (fun g56=>?_)
  ·refine SQ ?_
   replace V:=V.pick (.c .u2 (.k9 .nil))
   apply zaC [(3,Res.row b2 25 _,Res.row b2 25 _)] V (bs:=[0,0,2,1,15]) (ds:=[some 93,some 94,some 95,none,none]) (htab:=⟨Kr,Kr,Kr⟩)
   intro tab57
   refine DO tab57 1 (fun _ _ _ hc=>zaf zcx zjk .nil hc.z) ?_
   refine DO tab57 2 (fun _ _ _ hc=>zae (v:=.int .i64 _) ty3 Z (hc.old (v:=Pp _ _) Z Z Z) (hc.st.cellL (Ar Q4) Z) hc.z)<|DO tab57 3 (fun _ _ _ hc=>zaf zaV zbW (.c (v:=.int .i64 _) Z (h:=(.c (v:=.int .i64 _) (hc.d 1 Z Z Z Z) (h:=.nil)))) hc.z) ?_
   refine zcb tab57 4 Q0 (fun f' L' L2 w' hc hsel=>zbC (v:=zc7 _ _ _ _ _) hc.st zcx (hc.old (v:=Pp _ _) Z Z Z) (hc.d 0 Z Z Z Z) Z Z Z hsel (by repeat (first | exact Put.nil | apply Put.put | apply Put.skip)) fun w V=>⟨Z,V⟩) ?_
   refine RunD.fin zaw tab57 V Z (fun f58 w R61 hs59 hd60 hr62 V=>?_)
   obtain ⟨h93_,r0⟩:=hd60 0 93 rfl rfl
   obtain ⟨h94_,r1⟩:=hd60 1 94 rfl rfl
   obtain ⟨h95_,r2⟩:=hd60 2 95 rfl rfl
   obtain ⟨_,_,r3⟩:=hr62 3 rfl
   simp only [rg4,Fc,Fn,Mc,Mn,r0,r1,r2,r3,Na,An,Ca] at V
   refine zaz (sl:=[(2,Pp _ _),(3,Pp _ _),(95,gII _ _)]) ⟨(hs59 2 Z).trans Z,(hs59 3 Z).trans Z,h95_,trivial⟩ ?_
   clear hs59 hd60 hr62 tab57
   refine Q (SO (v:=gII _ _) V zaV Z Z .u3 fun w V=>?_)
   refine G ?_
   replace V:=V.pick (.c .u2 (.k9 .nil))
   refine zbs [br] func17 V fun w V=>⟨_,zvg Z (zat (vs:=zh8 _ _ _ _ _) Z zcx Z Z (zac (n:=3) (V.objL Q0) _ Z)) (zat (vs:=lII _ _) Z zaV Z Z (zac (n:=2) (V.objL Q2) _ Z)),?_⟩
   replace V:=V.pick .nil
   replace V:=St.starCons ((V.starNil).pushNil 44 4)
   rw [zju (by omega),hI.fin0 (by omega)]
   exact ⟨none,0,[],rfl,rfl,⟨Nat.zero_le _,fun x h=>by cases h⟩,V.noD⟩
  refine zag<|SR<|Q<|zay (vs:=zh8 _ _ _ _ _) zcx Z Z Z (zac (n:=3) (V.objL Q4) _ Z)<|Q (zaf zaV zbW .nil ?_)
  refine Q (SO (v:=zc7 _ _ _ _ _) V zcx Z Z .u2 fun w V=>?_)
  refine Q (SO (v:=gII _ _) V zaV Z Z .u3 fun w V=>?_)
  refine G ?_
  replace V:=V.pick (.c .u1 (.k9 .nil))
  refine zbs [br] func17 V fun w V=>⟨_,zvg Z (zat (vs:=zh8 _ _ _ _ _) Z zcx Z Z (zac (n:=3) (V.objL Q1) _ Z)) (zat (vs:=lII _ _) Z zaV Z Z (zac (n:=2) (V.objL Q2) _ Z)),?_⟩
  replace V:=V.pick (.c .u6 (.c .u6 .nil))
  rw [zju (by omega),hI.fin1 (by omega)]
  exact ⟨aq,cq,dm,Z,Z,⟨by have h1:=hI.len; have h2:=hI.le; omega,hI.sm⟩,(St.starCons V).noD⟩
 ·intro i ⟨gn, bd, words, aq, cq, dm⟩ hi hJ w bl br lp V
  replace V:=V.pick (.c .u1 (.k4 .nil))
  refine zbs [br] func17 V fun w V=>⟨_,zvg Z (zat (vs:=zh8 _ _ _ _ _) Z zcx Z Z (zac (n:=3) (V.objL Q1) _ Z)) (zat (vs:=lII _ _) Z zaV Z Z (zac (n:=2) (V.objL Q2) _ Z)),?_⟩
  replace V:=V.pick .nil
  replace V:=St.starCons ((V.starNil).pushNil 44 4)
  rw [zju (by omega),hJ]
  exact ⟨none,0,[],rfl,rfl,⟨Nat.zero_le _,fun x h=>by cases h⟩,V.noD⟩
theorem zkg {t:Tx} {r:zyU} (hr:zet t = r) (w:World) (hG:LxG.holds w) (hl:t.length ≤ 140737488355328):Ret prog 17 #[str t] w (fun v w'=>∃ ao cp dm,dm.map InstP.L = r.1.2.2 ∧ v = .tuple #[.agg #[.int .u32 r.1.1,.int .u32 r.1.2.1,.slice ao dm.length cp],.agg #[.int .i64 r.2.1,.int .i64 r.2.2]] ∧ (dm.length ≤ 1048576 ∧ ∀ x ∈ dm,x.L.Sm) ∧ St w NoM [Res.omod 44 110 ao cp dm] [] w'):=by
 subst hr; exact zsA t w hG hl
end Go.SK
namespace Go.SK
open Go Go.Proofs Go.Proofs.Tryz
theorem zwy:zaG prog 25:=⟨f25,_,func25,Kr,rfl⟩
theorem ent28:zaG prog 28:=⟨f28,_,func28,Kr,rfl⟩
theorem zyA:zaG prog 26:=⟨f26,_,func26,Kr,rfl⟩
theorem zyz:zaG prog 27:=⟨f27,_,func27,Kr,rfl⟩
open Go.RowKit
theorem zka {b:List UInt8} {se sa:Int} {x:Tx} (hB:zfB b = (x,(se,sa))) (ao:Option Addr) (cp:Nat) (w:World) (hG:LxG.holds w) (hA0:(Res.rs ao b.length 1 (b.flatMap byC)).holds w) (hb:b.length ≤ 140737488355328):Ret prog 28 #[.slice ao b.length cp] w (fun v w'=>v = .tuple #[str x,.agg #[.int .i64 se,.int .i64 sa]] ∧ St w NoM [] [] w'):=by
 have h:=zse b ao cp w hG hA0 hb
 rw [hB] at h; exact h
end Go.SK
