/-
  Steps of functions,plain law,and walks of functions: what the laws rest on.
-/
import Derived.Test.YtglmmdpeenckbaaGreatDoorSkV0d
set_option linter.unusedVariables false
set_option linter.unusedSimpArgs false
set_option linter.unusedSectionVars false
namespace Go.SK
open Go Go.Proofs Go.Proofs.Tryz
open Go.RowKit
theorem zqu (s:Tx) (w:World) (hl:s.length ≤ 140737488355328):Ret prog 142 #[str s,str [10]] w (fun v w'=>v = .tuple #[str (zjt s),str (zh6 s),.bool (decide (0 ≤ Lib.indexByte s 10))] ∧ St w NoM [] [] w'):=by
 refine zax (args:=[str s,str [10]]) func142 Z Z Z ?_
 have V:=St.init w
 have hix:=zfV s
 have hige:=idx_ge s
 have h10:([10]:Tx).length = 1:=rfl
 refine SR<|AS Z<|AS Z<|AB Z<|G<|SQ<|SR<|MS Z<|MS Z<|Q<|zaK (v1:=str _) (v2:=str _) ent185 Z Z Z<|Ret.det (lx_IX s 10 _) V fun w V=>AI Z<|G<|SQ ?_
 refine RG<|MI Z<|Q<|zbh Z Z<|G<|zaa Z (fun g1=>?_) (fun g1=>?_)
 ·refine SQ <| RunD.start [] V (bs := [0, 0, 3, 0, 0, 0, 32, 112, 248, 7, 1023, 2047]) (ds := [some 13, some 14, some 15, some 16, some 17, some 18, some 19, some 20, some 21, some 4, some 5, some 6]) ⟨Kr, Kr, Kr⟩ (fun tab2 => ?_)
  refine DO tab2 1 (fun _ _ _ hc=>zad (v:=str _) (hc.old Z Z Z) hc.z)<|DO tab2 2 (fun _ _ _ hc=>zad (v:=.int .i64 _) (hc.old Z Z Z) hc.z)<|DO tab2 3 (fun _ _ _ hc=>zcG ty9 (hc.d 0 Z Z Z Z) (hc.d 1 Z Z Z Z) O O hc.z)<|DO tab2 4 (fun _ _ _ hc=>zad (v:=str _) (hc.old Z Z Z) hc.z)<|DO tab2 5 (fun _ _ _ hc=>zad (v:=.int .i64 _) (hc.old Z Z Z) hc.z)<|DO tab2 6 (fun _ _ _ hc=>zad (v:=str _) (hc.old Z Z Z) hc.z)<|DO tab2 7 (fun _ _ _ hc=>zaX (rest:=[]) ty9 (hc.d 5 Z Z Z Z) hc.z)<|DO tab2 8 (fun _ _ _ hc=>zaD (hc.d 4 Z Z Z Z) (hc.d 6 Z Z Z Z) Z zbS hc.z)<|DO tab2 9 (fun _ _ _ hc=>zcd ty9 (hc.d 3 Z Z Z Z) (hc.d 7 Z Z Z Z) O O hc.z)<|DO tab2 10 (fun _ _ _ hc=>zao (v:=str _) (hc.d 2 Z Z Z Z) hc.z)<|RunD.fin zaB tab2 V Z (fun f3 w R6 hs4 hd5 hr7 V=>?_)
  obtain ⟨h13_,r0⟩:=hd5 0 13 rfl rfl
  obtain ⟨h14_,r1⟩:=hd5 1 14 rfl rfl
  obtain ⟨h15_,r2⟩:=hd5 2 15 rfl rfl
  obtain ⟨h16_,r3⟩:=hd5 3 16 rfl rfl
  obtain ⟨h17_,r4⟩:=hd5 4 17 rfl rfl
  obtain ⟨h18_,r5⟩:=hd5 5 18 rfl rfl
  obtain ⟨h19_,r6⟩:=hd5 6 19 rfl rfl
  obtain ⟨h20_,r7⟩:=hd5 7 20 rfl rfl
  obtain ⟨h21_,r8⟩:=hd5 8 21 rfl rfl
  obtain ⟨h4_,r9⟩:=hd5 9 4 rfl rfl
  simp only [rg10,Fc,Fn,Mc,Mn,r0,r1,r2,r3,r4,r5,r6,r7,r8,r9,Na,An,Ca] at V
  refine zaH (sl:=[(4,str _),(21,str _)]) ⟨h4_,h21_,trivial⟩ ?_
  clear hs4 hd5 hr7 tab2
  refine AS Z<|AB Z<|G<|zbP func142 Z (TP (v:=str _) Z) (TP (v:=str _) Z) (TP (v:=.bool _) Z) ?_
  obtain ⟨h1,h2,h3⟩:=ztE (r:=s) O
  rw [h2,h3,Dt g1]
  exact ⟨Z,V.pure⟩
 refine zaj<|SR<|MS Z<|AS Z<|AS Z<|AB Z<|G<|zbP func142 Z (TP (v:=str _) Z) (TP (v:=str _) Z) (TP (v:=.bool _) Z) ?_
 obtain ⟨h2,h3⟩:=ztF (r:=s) O
 rw [h2,h3,Df g1]
 exact ⟨Z,V.pure⟩
theorem zso (s:Tx) (w:World) (hl:s.length ≤ 140737488355328):Ret prog 82 #[str s,str [10]] w (fun v w'=>v = .tuple #[str (zjt s),str (zh6 s),.bool (decide (0 ≤ Lib.indexByte s 10))] ∧ St w NoM [] [] w'):=by
 refine zax (args:=[str s,str [10]]) func82 Z Z Z ?_
 have V:=St.init w
 refine SR<|AS Z<|AS Z<|AB Z<|NSR<|MS Z<|MS Z<|Q<|zaK (v1:=str _) (v2:=str _) ent142 Z Z Z<|Ret.det (zqu s _ hl) V fun w V=>Q<|Ex (str _) Z Z<|Q<|Ex (str _) Z Z<|Q<|Ex (.bool _) Z Z<|AS Z ?_
 refine AS Z<|AB Z<|G<|zbP func82 Z (TP (v:=str _) Z) (TP (v:=str _) Z) (TP (v:=.bool _) Z) ?_
 exact ⟨Z,V.pure⟩
theorem zlY (t:Tx) (w:World):Ret prog 39 #[str t] w (fun v w'=>∃ b,v = .func (.func 81) #[] #[.pointer (some ⟨b,0,none⟩)] ∧ St w NoM [Res.row b 9 [str t]] [] w'):=by
 refine zax (args:=[str t]) func39 Z Z Z ?_
 have V:=St.init w
 refine SR<|Q<|zbn (v:=str _) V Z Z fun w b1 V=>Q<|zao (v:=_) Z<|NSR<|Q<|zbJ<|Q<|zao (v:=.func _ _ _) Z<|G<|zag func39 Z (TP (v:=.func _ _ _) Z) ?_
 exact ⟨_,Z,V⟩
theorem zgW (t:Tx) (hl:t.length ≤ 140737488355328) (bc:Nat) (w:World) (hb:(Res.row bc 9 [str t]).holds w):zqP prog 81 [.pointer (some ⟨bc,0,none⟩)] (lnF t).length (itemV (fun j=>[.int .i64 ((j:Int) + 1),str ((lnF t).getD j [])])) (· = bc) w:=by
 intro σ I JJ yv R S s0 hI0 hR hFD hy
 have hlnl:=zkc t
 have hyx:∀ (i:Nat) (r:Tx) (q:σ),lnR t i r → r ≠ [] → I i q → ∀ w1,St w (R 0 s0).foot [R i q] [] w1 → CallV prog yv [.int .i64 ((i:Int) + 1),str (zjt r)] w1 fun v w2=>(v = .bool true ∧ ∃ q',I (i + 1) q' ∧ St w1 (R i q).foot [R (i + 1) q'] [] w2) ∨ (v = .bool false ∧ ∃ q',JJ i q' ∧ St w1 (R i q).foot [S i q'] [] w2):=fun i r q hI hr hs w1 hw1=>by
  obtain ⟨h1,h2,_⟩:=zkb hI hr
  have t:=hy i q _ _ h1 hs ⟨rfl,rfl⟩ w1 hw1.starNil
  rw [znp] at t
  dsimp only at t
  rwa [h2] at t
 refine zax (args:=[yv,.pointer (some ⟨bc,0,none⟩)]) func81 Z Z Z ?_
 have V:St w (R 0 s0).foot [R 0 s0] [Res.row bc 9 [str t]] w:=St.enter1 hR (fun d hd=>by cases hd with | head=>exact hb | tail _ h=>cases h) (fun d hd=>by cases hd with | head=>exact fun b hb hb2=>hFD b hb hb2 | tail _ h=>cases h)
 refine SQ<|RunD.start [] V (bs:=[0,0,3]) (ds:=[some 8,some 3,some 4]) ⟨Kr,Kr,Kr⟩ (fun tab1=>?_)
 refine DO tab1 1 (fun _ _ _ hc=>zae (v:=str _) ty9 Z (hc.old (v:=Pp _ _) Z Z Z) (hc.st.cellD Q0 Z) hc.z)<|DO tab1 2 (fun _ _ _ hc=>zao (v:=.int .i64 _) Z hc.z)<|RunD.fin zaB tab1 V Z (fun f2 w R5 hs3 hd4 hr6 V=>?_)
 obtain ⟨h8_,r0⟩:=hd4 0 8 rfl rfl
 obtain ⟨h3_,r1⟩:=hd4 1 3 rfl rfl
 simp only [rg2,Fc,Fn,Mc,Mn,r0,r1,Na,An,Ca] at V
 refine zaH (sl:=[(0,_),(3,.int .i64 _),(8,str _)]) ⟨(hs3 0 Z).trans Z,h3_,h8_,trivial⟩ ?_
 clear hs3 hd4 hr6 tab1
 refine AS Z<|G<|zau<|zba<|za7 [(0,_)] ⟨Z,trivial⟩ (fun (qq:Nat × Tx × σ)=>[(3,.int .i64 ((qq.1:Int) + 1)),(4,str qq.2.1)]) (fun (qq:Nat × Tx × σ)=>[R qq.1 qq.2.2]) (fun (qq:Nat × Tx × σ)=>lnR t qq.1 qq.2.1 ∧ I qq.1 qq.2.2) (fun (qq:Nat × Tx × σ)=>qq.2.1.length) ((0,t,s0)) V ⟨zpB t,hI0⟩ E2 ?_
 intro ⟨i,r,q⟩ f w V hJ ih7
 replace V:St _ _ ([R i q] ++ []) _ _:=V
 replace hJ:lnR t i r ∧ I i q:=hJ
 refine zbj (sl:=[(3,.int .i64 ((i:Int) + 1)),(4,str r)]) E2 ?_
 have hj1:=hJ.1.1
 have hj3:=hJ.1.2.2
 refine SQ<|SR<|MS Z<|Q<|ze4 Z Z<|G<|zaa Z (fun g8=>?_) (fun g8=>?_)
 ·have hri := (zkb hJ.1 g8).1
  refine zaj<|SQ<|zau<|SR<|MS Z<|Q<|zaK (v1:=str _) (v2:=str _) ent82 Z Z Z<|Ret.det (zso r _ O) V fun w V=>Q<|zad (v:=.tuple #[str _,str _,.bool _]) Z<|Q<|Ex (str _) Z Z<|Q<|Ex (str _) Z Z<|Q<|Ex (.bool _) Z Z<|AS Z<|AS Z<|AB Z<|G ?_
  refine SQ<|SR<|Q<|zad (v:=_) Z<|MI Z<|MS Z<|Q (zgA (v1:=.int .i64 _) (v2:=str _) Z Z Z ((hyx i r q hJ.1 g8 hJ.2 _ V.one).mono fun v w hp=>?_))
  rcases hp with ⟨rfl,q2,hI2,hp⟩ | ⟨rfl,q2,hI2,hp⟩
  ·replace V := V.call1 hp
   refine Q<|zaT Z<|G<|zas (Vb (congrArg not (Z:true = _)))<|zaj<|RG<|MS Z<|AS Z<|G<|zan<|RG<|MI Z<|Q<|zaD Z Z Z zbS<|AI Z<|G<|zaG ?_
   exact ih7 ((i + 1,zh6 r,q2)) _ w ((by (try dsimp only); have h:=(zkb hJ.1 g8).2.2.2; omega)) V (⟨(zkb hJ.1 g8).2.2.1,hI2⟩) ⟨rfl,trivial⟩ ⟨(Vi Od),rfl,trivial⟩
  ·replace V := V.call1 hp
   refine Q<|zaT Z<|G<|zat (Vb (congrArg not (Z:false = _)))<|zi4 func81 Z  ?_
   replace V:=V.pick (.k1 .nil)
   exact .inr ⟨i,q2,(zkb hJ.1 g8).1,hI2,V.one⟩
 refine zaU (id:=0) Z<|zg2 func81 Z  ?_
 replace V:=V.pick (.k1 .nil)
 obtain rfl:r = []:=Nn g8
 obtain rfl:=ztC hJ.1
 exact .inl ⟨q,hJ.2,V.one⟩
theorem zqD (p:InstP) (Y:Int) (hop:0 ≤ p.op) (hf:zbg Y p.L = 0) (w:World) (hA:(Res.rargs p).holds w) (hsm:(p.args.map zaS).sum ≤ 900000000) (hla:∀ a ∈ p.args,a.s.length ≤ 100000000000):Ret prog 45 #[.agg #[.int .u16 p.op,.int .u32 p.ty,.int .u32 p.res,.slice p.ao p.args.length p.cap],.int .u32 Y] w (fun v w'=>v = .int .i64 ((zbD (za5 p.op) p.args:Nat):Int) ∧ St w NoM [] [] w'):=by
 refine zax (args:=[.agg #[.int .u16 p.op,.int .u32 p.ty,.int .u32 p.res,.slice p.ao p.args.length p.cap],.int .u32 Y]) func45 Z Z Z ?_
 have V:St w NoM [] [Res.rargs p] w:=St.init_D hA
 have hsz:=zmn hf
 refine SR<|Q<|zbn (v:=zbt _ _ _ _ _ _) V Z Z fun w b2 V=>AI Z<|NSR<|Q<|zaC (vs:=zbA _ _ _ _ _ _) zbB Z Z Z (zab (n:=4) (V.objL Q0) _ Z)<|MU Z<|Q (zaK (v1:=zbt _ _ _ _ _ _) (v2:=.int .u32 _) ztN Z Z Z ((zm9 p Y hop _ (V.hD _ Q0) hsm hla).mono fun v w hp=>?_))
 obtain ⟨ro,rc,rfl,hp⟩:=hp
 replace V:St _ _ (_ :: _) _ _:=V.call0 hp
 refine Q<|zad (v:=.tuple #[gHL _ _ _ _,.int .i64 _]) Z<|Q<|Ex (gHL _ _ _ _) Z Z<|Q<|Ex (.int .i64 _) Z Z<|Q<|zaw V zfA fun w b5 V=>Q (SO (v:=gHL _ _ _ _) V zfA Z Z .u0 fun w V=>?_)
 refine AI Z<|NSR<|Q<|zac zjk Z<|Q<|zae (v:=.slice _ _ _) zis Z Z (V.cellL Q0 Z)<|Q<|zaQ (rest:=[]) zis Z<|Q<|zaD Z Z Z zbS<|AI Z<|G<|zag func45 Z (TP (v:=.int .i64 _) Z) ?_
 exact ⟨Vi (by have h1:=hsz.1; have h2:zbD (za5 p.L.op) p.L.args = zbD (za5 p.op) p.args:=Z; omega),V.pure⟩
theorem zor (s:Tx) (w:World) (hG:LxG.holds w) (hl:s.length ≤ 140737488355328):Ret prog 17 #[str s] w (fun v w'=>∃ ao cp dm,dm.map InstP.L = (zda s).1.2.2 ∧ v = .tuple #[.agg #[.int .u32 (zda s).1.1,.int .u32 (zda s).1.2.1,.slice ao dm.length cp],.agg #[.int .i64 (zda s).2.1,.int .i64 (zda s).2.2]] ∧ (dm.length ≤ 1048576 ∧ ∀ x ∈ dm,x.L.Sm) ∧ St w NoM [Res.omod 44 110 ao cp dm] [] w'):=by
 refine zax (args:=[str s]) func17 Z Z Z ?_
 have V:St w NoM [] [LxG] w:=St.init_Ds (by simp only [List.forall_mem_cons]; exact ⟨hG,fun _ h=>absurd h List.not_mem_nil⟩)
 refine SR<|Q<|zaw V zem fun w b2 V=>Q<|zaw V zbr fun w b3 V=>G<|SQ<|SR<|MS Z<|Q<|zaX (rest:=[]) ty9 Z<|Q<|zbW Z Z<|G<|zaa Z (fun g1=>?_) (fun g1=>?_)
 ·refine SR <| Q (zaf zem zno .nil ?_)
  refine Q (zaf zbr zc7 (.c (v:=.int .i64 _) Z (h:=.nil)) ?_)
  refine Q (SO (v:=zex _ _ _ _ _) V zem Z Z .u1 fun w V=>?_)
  refine Q (SO (v:=gII _ _) V zbr Z Z .u0 fun w V=>?_)
  refine G<|zah func17 Z (zak (vs:=zmF _ _ _ _ _) Z zem Z Z (zab (n:=3) (V.objL Q1) _ Z)) (zak (vs:=lII _ _) Z zbr Z Z (zab (n:=2) (V.objL Q0) _ Z)) ?_
  replace V:=V.pick .nil
  replace V:=St.starCons ((V.starNil).pushNil 44 4)
  rw [zj2 (by omega)]
  exact ⟨none,0,[],rfl,rfl,⟨Nat.zero_le _,fun x h=>by cases h⟩,V.noD⟩
 refine zaj<|SR<|Q<|zaw V zem fun w b4 V=>NSR<|Q<|zaw V ty3 fun w b5 V=>Q<|zaw V ty3 fun w b6 V=>Q (SO (v:=.int .i64 _) V ty3 Z Z .u1 fun w V=>?_)
 refine Q (SO (v:=.int .i64 _) V ty3 Z Z .u0 fun w V=>?_)
 refine G<|SQ<|SR<|MS Z<|Q (zav (v1:=str _) ent39 Z Z ((zlY s _).mono fun v w hp=>?_))
 obtain ⟨bc,rfl,hp⟩:=hp
 replace V:=V.call0 hp
 refine G<|zau ?_
 replace V:=V.pushNil 44 4
 replace V:=V.starNil
 replace V:=V.pick (.c .u7 (.c .u6 (.c .u5 (.c .u4 (.c .u3 (.c .u1 (.k2 .nil)))))))
 refine zh8 (L1:=[_,_,_,_,_,_,_]) (L2:=[_]) (item:=(itemV (fun j=>[.int .i64 ((j:Int) + 1),str ((lnF s).getD j [])]))) (FD:=(· = bc)) (fun i (q:Int × Int × Nat × Option Addr × Nat × List InstP)=>PaM s i q.1 q.2.1 q.2.2.1 q.2.2.2.2.2) (fun i (q:Int × Int × Nat × Option Addr × Nat × List InstP)=>zd1 0 (lnF s) ⟨0,0,0,[]⟩ = zgR q.1 ((i:Int) + 1)) (fun i (q:Int × Int × Nat × Option Addr × Nat × List InstP)=>[Res.row b2 25 [.int .u32 0,.int .u32 0,.slice none 0 0],Res.row b3 28 [.int .i64 0,.int .i64 0],Res.row b4 25 [.int .u32 q.1,.int .u32 q.2.1,.slice q.2.2.2.1 q.2.2.2.2.2.length q.2.2.2.2.1],Res.row b5 3 [.int .i64 (i:Int)],Res.row b6 3 [.int .i64 (q.2.2.1:Int)],Res.sl q.2.2.2.1 q.2.2.2.2.2.length q.2.2.2.2.1 44 4 (q.2.2.2.2.2.flatMap zdP),Res.star (q.2.2.2.2.2.map (Res.oargs 110))]) (fun i (q:Int × Int × Nat × Option Addr × Nat × List InstP)=>[Res.row b2 25 [.int .u32 0,.int .u32 0,.slice none 0 0],Res.row b3 28 [.int .i64 q.1,.int .i64 ((i:Int) + 1)]]) (fun _=>.ret) ((0,0,0,none,0,[])) (PaM.start) V rfl rfl ent81 (fun b hb=>.inl (by subst hb; exact ⟨_,Q0,rfl⟩)) (fun w1 hw1=>zgW s O bc w1 (hw1.hL _ Q7)) (fun _ _ _ h=>by obtain ⟨rfl,_⟩:=h; rfl) ?_ ?_ ?_
 ·intro i ⟨gn, bd, words, aq, cq, dm⟩ vs x hi hI hitem w bl br lp hlp V hk
  obtain ⟨rfl,rfl⟩:=hitem
  dsimp only at V hI
  have hxl:=ztD s i
  have hmle:=hI.le
  have hmln:=hI.len
  have hlnl:=zkc s
  refine SR<|AI Z<|NR<|AS Z<|G<|zeO hlp V .u0 fun w V=>zau<|SR<|MI Z<|Q (SO (v:=.int .i64 _) V ty3 Z Z .u6 fun w V=>?_)
  refine G<|SQ<|SR<|Q<|zae (v:=.int .i64 _) ty3 Z Z (V.cellL Q7 Z)<|Q<|zai Z Z<|G<|zaa Z (fun g2=>?_) (fun g2=>?_)
  ·refine SR <| MS Z <| Q (zav (v1 := str _) ent38 Z Z ((zgP ((lnF s).getD i []) _ (V.hD _ Q1) O).mono fun v w hp => ?_))
   obtain ⟨aT,cT,rfl,hp⟩:=hp
   replace V:St _ _ (_ :: _) _ _:=V.call0 hp
   refine Q<|zad (v:=.tuple #[.slice _ _ _,gII _ _]) Z<|Q<|Ex (.slice _ _ _) Z Z<|Q<|Ex (gII _ _) Z Z<|Q<|zaw V zbr fun w b10 V=>AL Z<|Q (SO (v:=gII _ _) V zbr Z Z .u0 fun w V=>?_)
   refine G<|zal [(2,Pp _ _),(3,Pp _ _),(4,Pp _ _),(6,Pp _ _),(7,.int .i64 _),(8,str _),(9,.slice _ _ _),(10,Pp _ _)] E8 fun f=>SQ<|SR<|Q<|zac zco Z<|Q<|zae (v:=.int .i64 _) zhj Z Z (V.cellL Q0 Z)<|Q<|zai Z Z<|MB Z<|zaz (d:=35) Z (fun g3=>?_) (fun g3=>?_)
   ·refine TK (t := 35) Z (Vb (Dt g3)) <| zad (v := .slice _ _ _) Z <| TK (t := 35) Z (Vb (Dt g3)) <| zaQ (rest := []) ziU Z <| TK (t := 35) Z (Vb (Dt g3)) <| zai Z Z <| Q <| zaE (u := .bool _) (Vb (Dt g3)) Z <| G <| zaa Z (fun g4 => ?_) (fun g4 => ?_)
    ·refine zaU (id := 1) Z <| zdn hlp V .u2 fun w V => ?_
     replace V:=V.pick (.c .u2 (.c .u2 (.c .u3 (.c .u3 (.c .u3 (.c .u3 (.c .u3 (.c .u3 (.c .u3 .nil)))))))))
     exact .inl ⟨rfl,(gn,bd,words,aq,cq,dm),_,hI.idle hi (by omega) g3 (by have:=g4; simp at this; omega),V⟩
    refine zaj<|SR<|MS Z<|Q<|zav (v1:=str _) ent44 Z Z<|Ret.det (zkY ((lnF s).getD i []) _ (V.hD _ Q1) O) V fun w V=>Q<|zad (v:=.tuple #[gUU _ _,gII _ _]) Z<|Q<|Ex (gUU _ _) Z Z<|Q<|Ex (gII _ _) Z Z<|Q<|zaw V zcx fun w b11 V=>Q (SO (v:=gUU _ _) V zcx Z Z .u0 fun w V=>?_)
    refine Q (SO (v:=gII _ _) V zbr Z Z .u1 fun w V=>?_)
    refine G<|SQ<|SR<|Q<|zac zco Z<|Q<|zae (v:=.int .i64 _) zhj Z Z (V.cellL Q1 Z)<|Q<|za8 Z Z<|G<|zaa Z (fun g5=>?_) (fun g5=>?_)
    ·refine SQ ?_
     replace V:=V.pick (.c .u6 (.k12 .nil))
     apply RunD.start [(5,Res.row b2 25 _,Res.row b2 25 _)] V (bs:=[0,0,2,0,14,1,63]) (ds:=[some 48,some 49,some 50,some 51,some 52,none,none]) (htab:=⟨Kr,Kr,Kr⟩)
     intro tab6
     refine DO tab6 1 (fun _ _ _ hc=>zaf zem zno .nil hc.z) ?_
     refine DO tab6 2 (fun _ _ _ hc=>zac zco (hc.old (v:=Pp _ _) Z Z Z) hc.z)<|DO tab6 3 (fun _ _ _ hc=>zae (v:=.int .i64 _) zhj Z (hc.d 1 Z Z Z Z) (hc.st.cellL (Ar Q1) Z) hc.z)<|DO tab6 4 (fun _ _ _ hc=>zad (v:=.int .i64 _) (hc.old Z Z Z) hc.z)<|DO tab6 5 (fun _ _ _ hc=>zaf zbr zc7 (.c (v:=.int .i64 _) (hc.d 2 Z Z Z Z) (h:=(.c (v:=.int .i64 _) (hc.d 3 Z Z Z Z) (h:=.nil)))) hc.z) ?_
     refine zck tab6 6 Q0 (fun f' L' L2 w' hc hsel=>zbI (v:=zex _ _ _ _ _) hc.st zem (hc.old (v:=Pp _ _) Z Z Z) (hc.d 0 Z Z Z Z) Z Z Z hsel (by repeat (first | exact Put.nil | apply Put.put | apply Put.skip)) fun w V=>⟨Z,V⟩) ?_
     refine RunD.fin zaB tab6 V Z (fun f7 w R10 hs8 hd9 hr11 V=>?_)
     obtain ⟨h48_,r0⟩:=hd9 0 48 rfl rfl
     obtain ⟨h49_,r1⟩:=hd9 1 49 rfl rfl
     obtain ⟨h50_,r2⟩:=hd9 2 50 rfl rfl
     obtain ⟨h51_,r3⟩:=hd9 3 51 rfl rfl
     obtain ⟨h52_,r4⟩:=hd9 4 52 rfl rfl
     obtain ⟨_,_,r5⟩:=hr11 5 rfl
     simp only [rg6,Fc,Fn,Mc,Mn,r0,r1,r2,r3,r4,r5,Na,An,Ca] at V
     refine zaH (sl:=[(2,Pp _ _),(3,Pp _ _),(52,gII _ _)]) ⟨(hs8 2 Z).trans Z,(hs8 3 Z).trans Z,h52_,trivial⟩ ?_
     clear hs8 hd9 hr11 tab6
     refine Q (SO (v:=gII _ _) V zbr Z Z .u7 fun w V=>?_)
     refine G<|zdZ V .u4 fun w V=>?_
     replace V:=V.pick (.c .u4 (.c .u4 (.k1 (.c .u4 .nil))))
     exact .inr ⟨rfl,((zch ((lnF s).getD i [])).2.1,0,0,none,0,[]),_,hI.nohead hi (by omega) (fun h=>(show ¬ (zbf ((lnF s).getD i [])).1.length = 0 by have:=g4; simp at this; omega) h.2) g5,V⟩
    refine zaj<|SQ ?_
    replace V:=V.pick (.c .u8 (.k12 .nil))
    apply RunD.start [(5,Res.row b4 25 _,Res.row b4 25 _)] V (bs:=[0,1,0,4,3,19,63,127]) (ds:=[some 53,some 54,some 55,some 56,some 57,none,some 58,none]) (htab:=⟨Kr,Kr,Kr⟩)
    intro tab12
    refine DO tab12 1 (fun _ _ _ hc=>zac zpQ (hc.old (v:=Pp _ _) Z Z Z) hc.z)<|DO tab12 2 (fun _ _ _ hc=>zae (v:=.int .u32 _) zbM Z (hc.d 0 Z Z Z Z) (hc.st.cellL (Ar Q0) Z) hc.z)<|DO tab12 3 (fun _ _ _ hc=>zac zpP (hc.old (v:=Pp _ _) Z Z Z) hc.z)<|DO tab12 4 (fun _ _ _ hc=>zae (v:=.int .u32 _) zbM Z (hc.d 2 Z Z Z Z) (hc.st.cellL (Ar Q0) Z) hc.z)<|DO tab12 5 (fun _ _ _ hc=>zac zfq (hc.old (v:=Pp _ _) Z Z Z) hc.z)<|zck tab12 6 Q0 (fun f' L' L2 w' hc hsel=>zbI (v:=.int .u32 _) hc.st zbM (hc.d 4 Z Z Z Z) (hc.d 1 Z Z Z Z) Z Z Z hsel (by repeat (first | exact Put.nil | apply Put.put | apply Put.skip)) fun w V=>⟨Z,V⟩) ?_
    refine RunD.fin zaB tab12 V Z (fun f13 w R16 hs14 hd15 hr17 V=>?_)
    obtain ⟨h53_,r0⟩:=hd15 0 53 rfl rfl
    obtain ⟨h54_,r1⟩:=hd15 1 54 rfl rfl
    obtain ⟨h55_,r2⟩:=hd15 2 55 rfl rfl
    obtain ⟨h56_,r3⟩:=hd15 3 56 rfl rfl
    obtain ⟨h57_,r4⟩:=hd15 4 57 rfl rfl
    obtain ⟨_,_,r5⟩:=hr17 5 rfl
    simp only [rg6,Fc,Fn,Mc,Mn,r0,r1,r2,r3,r4,r5,Na,An,Ca] at V
    refine zaH (sl:=[(2,Pp _ _),(3,Pp _ _),(4,Pp _ _),(6,Pp _ _),(56,.int .u32 _)]) ⟨(hs14 2 Z).trans Z,(hs14 3 Z).trans Z,(hs14 4 Z).trans Z,(hs14 6 Z).trans Z,h56_,trivial⟩ ?_
    clear hs14 hd15 hr17 tab12
    refine Q<|zac zcU Z<|Q (SO (v:=.int .u32 _) V zbM Z Z .u0 fun w V=>?_)
    refine G<|zal [(2,Pp _ _),(3,Pp _ _),(6,Pp _ _)] E3 fun f=>SR<|Q (SO (v:=.int .i64 _) V ty3 Z Z .u10 fun w V=>?_)
    refine G<|zaU (id:=1) Z<|zdn hlp V .u4 fun w V=>?_
    replace V:=V.pick (.c .u4 (.c .u4 (.c .u5 (.c .u5 (.k1 (.c .u4 (.c .u4 (.c .u4 (.c .u4 .nil)))))))))
    exact .inl ⟨rfl,((zch ((lnF s).getD i [])).1.1,(zch ((lnF s).getD i [])).1.2,5,aq,cq,dm),_,hI.head hi (by omega) (fun h=>(show ¬ (zbf ((lnF s).getD i [])).1.length = 0 by have:=g4; simp at this; omega) h.2) g5,V⟩
   refine OM (t:=35) Z (Vb (Df g3)) Z<|OM (t:=35) Z (Vb (Df g3)) Z<|OM (t:=35) Z (Vb (Df g3)) Z<|Q<|zay (u:=.bool _) (Vb (Df g3)) Z<|G<|zas (Vb (Z:false = _))<|zaj<|SR<|MS Z<|Q<|zav (v1:=str _) ent44 Z Z<|Ret.det (zkY ((lnF s).getD i []) _ (V.hD _ Q1) O) V fun w V=>Q<|zad (v:=.tuple #[gUU _ _,gII _ _]) Z<|Q<|Ex (gUU _ _) Z Z<|Q<|Ex (gII _ _) Z Z<|Q (zaw V zcx fun w b11 V=>?_)
   refine Q (SO (v:=gUU _ _) V zcx Z Z .u0 fun w V=>?_)
   refine Q (SO (v:=gII _ _) V zbr Z Z .u1 fun w V=>?_)
   refine G<|SQ<|SR<|Q<|zac zco Z<|Q<|zae (v:=.int .i64 _) zhj Z Z (V.cellL Q1 Z)<|Q<|za8 Z Z<|G<|zaa Z (fun g18=>?_) (fun g18=>?_)
   ·refine SQ ?_
    replace V:=V.pick (.c .u6 (.k12 .nil))
    apply RunD.start [(5,Res.row b2 25 _,Res.row b2 25 _)] V (bs:=[0,0,2,0,14,1,63]) (ds:=[some 48,some 49,some 50,some 51,some 52,none,none]) (htab:=⟨Kr,Kr,Kr⟩)
    intro tab19
    refine DO tab19 1 (fun _ _ _ hc=>zaf zem zno .nil hc.z) ?_
    refine DO tab19 2 (fun _ _ _ hc=>zac zco (hc.old (v:=Pp _ _) Z Z Z) hc.z)<|DO tab19 3 (fun _ _ _ hc=>zae (v:=.int .i64 _) zhj Z (hc.d 1 Z Z Z Z) (hc.st.cellL (Ar Q1) Z) hc.z)<|DO tab19 4 (fun _ _ _ hc=>zad (v:=.int .i64 _) (hc.old Z Z Z) hc.z)<|DO tab19 5 (fun _ _ _ hc=>zaf zbr zc7 (.c (v:=.int .i64 _) (hc.d 2 Z Z Z Z) (h:=(.c (v:=.int .i64 _) (hc.d 3 Z Z Z Z) (h:=.nil)))) hc.z) ?_
    refine zck tab19 6 Q0 (fun f' L' L2 w' hc hsel=>zbI (v:=zex _ _ _ _ _) hc.st zem (hc.old (v:=Pp _ _) Z Z Z) (hc.d 0 Z Z Z Z) Z Z Z hsel (by repeat (first | exact Put.nil | apply Put.put | apply Put.skip)) fun w V=>⟨Z,V⟩) ?_
    refine RunD.fin zaB tab19 V Z (fun f20 w R23 hs21 hd22 hr24 V=>?_)
    obtain ⟨h48_,r0⟩:=hd22 0 48 rfl rfl
    obtain ⟨h49_,r1⟩:=hd22 1 49 rfl rfl
    obtain ⟨h50_,r2⟩:=hd22 2 50 rfl rfl
    obtain ⟨h51_,r3⟩:=hd22 3 51 rfl rfl
    obtain ⟨h52_,r4⟩:=hd22 4 52 rfl rfl
    obtain ⟨_,_,r5⟩:=hr24 5 rfl
    simp only [rg6,Fc,Fn,Mc,Mn,r0,r1,r2,r3,r4,r5,Na,An,Ca] at V
    refine zaH (sl:=[(2,Pp _ _),(3,Pp _ _),(52,gII _ _)]) ⟨(hs21 2 Z).trans Z,(hs21 3 Z).trans Z,h52_,trivial⟩ ?_
    clear hs21 hd22 hr24 tab19
    refine Q (SO (v:=gII _ _) V zbr Z Z .u7 fun w V=>?_)
    refine G<|zdZ V .u4 fun w V=>?_
    replace V:=V.pick (.c .u4 (.c .u4 (.k1 (.c .u4 .nil))))
    exact .inr ⟨Z,((zch ((lnF s).getD i [])).2.1,0,0,none,0,[]),_,hI.nohead hi O (fun h=>g3 h.1) g18,V⟩
   refine zaj<|SQ ?_
   replace V:=V.pick (.c .u8 (.k12 .nil))
   apply RunD.start [(5,Res.row b4 25 _,Res.row b4 25 _)] V (bs:=[0,1,0,4,3,19,63,127]) (ds:=[some 53,some 54,some 55,some 56,some 57,none,some 58,none]) (htab:=⟨Kr,Kr,Kr⟩)
   intro tab25
   refine DO tab25 1 (fun _ _ _ hc=>zac zpQ (hc.old (v:=Pp _ _) Z Z Z) hc.z)<|DO tab25 2 (fun _ _ _ hc=>zae (v:=.int .u32 _) zbM Z (hc.d 0 Z Z Z Z) (hc.st.cellL (Ar Q0) Z) hc.z)<|DO tab25 3 (fun _ _ _ hc=>zac zpP (hc.old (v:=Pp _ _) Z Z Z) hc.z)<|DO tab25 4 (fun _ _ _ hc=>zae (v:=.int .u32 _) zbM Z (hc.d 2 Z Z Z Z) (hc.st.cellL (Ar Q0) Z) hc.z)<|DO tab25 5 (fun _ _ _ hc=>zac zfq (hc.old (v:=Pp _ _) Z Z Z) hc.z)<|zck tab25 6 Q0 (fun f' L' L2 w' hc hsel=>zbI (v:=.int .u32 _) hc.st zbM (hc.d 4 Z Z Z Z) (hc.d 1 Z Z Z Z) Z Z Z hsel (by repeat (first | exact Put.nil | apply Put.put | apply Put.skip)) fun w V=>⟨Z,V⟩) ?_
   refine RunD.fin zaB tab25 V Z (fun f26 w R29 hs27 hd28 hr30 V=>?_)
   obtain ⟨h53_,r0⟩:=hd28 0 53 rfl rfl
   obtain ⟨h54_,r1⟩:=hd28 1 54 rfl rfl
   obtain ⟨h55_,r2⟩:=hd28 2 55 rfl rfl
   obtain ⟨h56_,r3⟩:=hd28 3 56 rfl rfl
   obtain ⟨h57_,r4⟩:=hd28 4 57 rfl rfl
   obtain ⟨_,_,r5⟩:=hr30 5 rfl
   simp only [rg6,Fc,Fn,Mc,Mn,r0,r1,r2,r3,r4,r5,Na,An,Ca] at V
   refine zaH (sl:=[(2,Pp _ _),(3,Pp _ _),(4,Pp _ _),(6,Pp _ _),(56,.int .u32 _)]) ⟨(hs27 2 Z).trans Z,(hs27 3 Z).trans Z,(hs27 4 Z).trans Z,(hs27 6 Z).trans Z,h56_,trivial⟩ ?_
   clear hs27 hd28 hr30 tab25
   refine Q<|zac zcU Z<|Q (SO (v:=.int .u32 _) V zbM Z Z .u0 fun w V=>?_)
   refine G<|zal [(2,Pp _ _),(3,Pp _ _),(6,Pp _ _)] E3 fun f=>SR<|Q (SO (v:=.int .i64 _) V ty3 Z Z .u10 fun w V=>?_)
   refine G<|zaU (id:=1) Z<|zdn hlp V .u4 fun w V=>?_
   replace V:=V.pick (.c .u4 (.c .u4 (.c .u5 (.c .u5 (.k1 (.c .u4 (.c .u4 (.c .u4 (.c .u4 .nil)))))))))
   exact .inl ⟨Z,((zch ((lnF s).getD i [])).1.1,(zch ((lnF s).getD i [])).1.2,5,aq,cq,dm),_,hI.head hi O (fun h=>g3 h.1) g18,V⟩
  refine zaj<|SR<|MS Z<|Q<|zac zcU Z<|Q (zae (v:=.int .u32 _) zbM Z Z (V.cellL Q5 Z) ?_)
  have hbdr:=hI.bdr O
  refine Q (zaK (v1:=str _) (v2:=.int .u32 _) ent36 Z Z Z ((zqI ((lnF s).getD i []) bd _ (V.hD _ Q1) O O ⟨by omega,by omega⟩).mono fun v w hp=>?_))
  obtain ⟨xo,xc,hsm,rfl,hp⟩:=hp
  replace V:St _ _ (_ :: _) _ _:=V.call0 hp
  refine Q<|zad (v:=.tuple #[zbt _ _ _ _ _ _,.bool _,gII _ _]) Z<|Q<|Ex (zbt _ _ _ _ _ _) Z Z<|Q<|Ex (.bool _) Z Z<|Q<|Ex (gII _ _) Z Z<|Q<|zaw V zbB fun w b12 V=>Q<|zaw V zbr fun w b14 V=>Q (SO (v:=zbt _ _ _ _ _ _) V zbB Z Z .u1 fun w V=>?_)
  refine AB Z<|Q (SO (v:=gII _ _) V zbr Z Z .u0 fun w V=>?_)
  refine G<|zal [(2,Pp _ _),(3,Pp _ _),(4,Pp _ _),(6,Pp _ _),(7,.int .i64 _),(12,Pp _ _),(13,.bool _),(14,Pp _ _)] E8 fun f=>SQ<|SR<|MB Z<|G<|zaR Z (fun g31=>?_) (fun g31=>?_)
  ·have hfl := hI.fault O g31
   have hsz:=zmn hfl.2
   have he0:(zaV ((lnF s).getD i []) bd).2.2.1 = 0:=by rw [hfl.1]
   have hrmY:zbD (za5 (InstP.op (⟨(zaV ((lnF s).getD i []) bd).1.op,(zaV ((lnF s).getD i []) bd).1.ty,(zaV ((lnF s).getD i []) bd).1.res,xo,xc,(zaV ((lnF s).getD i []) bd).1.args⟩:InstP))) (InstP.args (⟨(zaV ((lnF s).getD i []) bd).1.op,(zaV ((lnF s).getD i []) bd).1.ty,(zaV ((lnF s).getD i []) bd).1.res,xo,xc,(zaV ((lnF s).getD i []) bd).1.args⟩:InstP)) = zbD (za5 (zaV ((lnF s).getD i []) bd).1.op) (zaV ((lnF s).getD i []) bd).1.args:=rfl
   refine SQ<|RunD.start [] V (bs:=[0,0,0,4,14,31,63]) (ds:=[some 68,some 69,some 70,some 71,some 72,some 73,none]) ⟨Kr,Kr,Kr⟩ (fun tab32=>?_)
   refine DO tab32 1 (fun _ _ _ hc=>zae (v:=.int .i64 _) ty3 Z (hc.old (v:=Pp _ _) Z Z Z) (hc.st.cellL (Ar Q10) Z) hc.z)<|DO tab32 2 (fun _ _ _ hc=>zaC (vs:=zbA _ _ _ _ _ _) zbB Z (hc.old (v:=Pp _ _) Z Z Z) Z (zab (n:=4) (hc.st.objL (Ar Q1)) _ Z) hc.z)<|DO tab32 3 (fun _ _ _ hc=>zac zcU (hc.old (v:=Pp _ _) Z Z Z) hc.z)<|DO tab32 4 (fun _ _ _ hc=>zae (v:=.int .u32 _) zbM Z (hc.d 2 Z Z Z Z) (hc.st.cellL (Ar Q8) Z) hc.z)<|DO tab32 5 (fun _ _ _ hc=>zaK (v1:=zbt _ _ _ _ _ _) (v2:=.int .u32 _) ent45 Z (hc.d 1 Z Z Z Z) (hc.d 3 Z Z Z Z) ((zqD (⟨(zaV ((lnF s).getD i []) bd).1.op,(zaV ((lnF s).getD i []) bd).1.ty,(zaV ((lnF s).getD i []) bd).1.res,xo,xc,(zaV ((lnF s).getD i []) bd).1.args⟩:InstP) bd hsm.2.2.1 hfl.2 _ (Res.rs_of_sl (hc.st.hL _ (Ar Q2))) hsm.1 hsm.2.1).mono fun v w hp=>⟨[],⟨hp.1,Z⟩,hc.st.keepc hp.2⟩))<|RunD.fin zaB tab32 V Z (fun f33 w R36 hs34 hd35 hr37 V=>?_)
   obtain ⟨h68_,r0⟩:=hd35 0 68 rfl rfl
   obtain ⟨h69_,r1⟩:=hd35 1 69 rfl rfl
   obtain ⟨h70_,r2⟩:=hd35 2 70 rfl rfl
   obtain ⟨h71_,r3⟩:=hd35 3 71 rfl rfl
   obtain ⟨h72_,r4⟩:=hd35 4 72 rfl rfl
   simp only [rg5,Fc,Fn,Mc,Mn,r0,r1,r2,r3,r4,Na,An,Ca] at V
   refine zaH (sl:=[(2,Pp _ _),(3,Pp _ _),(4,Pp _ _),(6,Pp _ _),(7,.int .i64 _),(12,Pp _ _),(14,Pp _ _),(68,.int .i64 _),(72,.int .i64 _)]) ⟨(hs34 2 Z).trans Z,(hs34 3 Z).trans Z,(hs34 4 Z).trans Z,(hs34 6 Z).trans Z,(hs34 7 Z).trans Z,(hs34 12 Z).trans Z,(hs34 14 Z).trans Z,h68_,h72_,trivial⟩ ?_
   clear hs34 hd35 hr37 tab32
   refine Q<|zaD Z Z Z zbS<|Q (SO (v:=.int .i64 _) V ty3 Z Z .u10 fun w V=>?_)
   refine NSR<|Q<|zac zbR Z<|Q<|zae (v:=.slice _ _ _) zdD Z Z (V.cellL Q8 Z)<|Q<|zaC (vs:=zbA _ _ _ _ _ _) zbB Z Z Z (zab (n:=4) (V.objL Q1) _ Z)<|Q (zaI (z0:=[.int .u16 0,.int .u32 0,.int .u32 0,.slice none 0 0]) V zdD zbB Z Z Kr (.c (v:=zbt _ _ _ _ _ _) Z (h:=.nil)) fun w b77 V=>?_)
   refine Q (zaO (news:=(zbA _ _ _ _ _ _)) V zdD zbB Z Z .u12 Z Z Z (zab (n:=4) (V.objL Q0) _ Z) Z Z O fun w ao38 cp39 V=>?_)
   replace V:=V.drop .u1
   refine Q<|zac zbR Z<|Q (SO (v:=.slice _ _ _) V zdD Z Z .u9 fun w V=>?_)
   refine NSR<|Q<|zae (v:=.int .i64 _) ty3 Z Z (V.cellL Q11 Z)<|Q<|zbW Z Z<|G<|zaa Z (fun g40=>?_) (fun g40=>?_)
   ·refine RG <| Q <| zac zco Z <| Q (SO (v := .int .i64 _) V zhj Z Z .u1 fun w V => ?_)
    refine NSR<|Q<|zac zco Z<|Q<|zae (v:=.int .i64 _) zhj Z Z (V.cellL Q1 Z)<|Q<|za8 Z Z<|G<|zal [(2,Pp _ _),(3,Pp _ _),(7,.int .i64 _),(14,Pp _ _),(85,.bool _)] E5 fun f=>zaa Z (fun g41=>?_) (fun g41=>?_)
    ·refine SQ ?_
     replace V:=V.pick (.c .u7 (.k12 .nil))
     apply RunD.start [(5,Res.row b2 25 _,Res.row b2 25 _)] V (bs:=[0,0,2,0,14,1,63]) (ds:=[some 86,some 87,some 88,some 89,some 90,none,none]) (htab:=⟨Kr,Kr,Kr⟩)
     intro tab42
     refine DO tab42 1 (fun _ _ _ hc=>zaf zem zno .nil hc.z) ?_
     refine DO tab42 2 (fun _ _ _ hc=>zac zco (hc.old (v:=Pp _ _) Z Z Z) hc.z)<|DO tab42 3 (fun _ _ _ hc=>zae (v:=.int .i64 _) zhj Z (hc.d 1 Z Z Z Z) (hc.st.cellL (Ar Q1) Z) hc.z)<|DO tab42 4 (fun _ _ _ hc=>zad (v:=.int .i64 _) (hc.old Z Z Z) hc.z)<|DO tab42 5 (fun _ _ _ hc=>zaf zbr zc7 (.c (v:=.int .i64 _) (hc.d 2 Z Z Z Z) (h:=(.c (v:=.int .i64 _) (hc.d 3 Z Z Z Z) (h:=.nil)))) hc.z) ?_
     refine zck tab42 6 Q0 (fun f' L' L2 w' hc hsel=>zbI (v:=zex _ _ _ _ _) hc.st zem (hc.old (v:=Pp _ _) Z Z Z) (hc.d 0 Z Z Z Z) Z Z Z hsel (by repeat (first | exact Put.nil | apply Put.put | apply Put.skip)) fun w V=>⟨Z,V⟩) ?_
     refine RunD.fin zaB tab42 V Z (fun f43 w R46 hs44 hd45 hr47 V=>?_)
     obtain ⟨h86_,r0⟩:=hd45 0 86 rfl rfl
     obtain ⟨h87_,r1⟩:=hd45 1 87 rfl rfl
     obtain ⟨h88_,r2⟩:=hd45 2 88 rfl rfl
     obtain ⟨h89_,r3⟩:=hd45 3 89 rfl rfl
     obtain ⟨h90_,r4⟩:=hd45 4 90 rfl rfl
     obtain ⟨_,_,r5⟩:=hr47 5 rfl
     simp only [rg6,Fc,Fn,Mc,Mn,r0,r1,r2,r3,r4,r5,Na,An,Ca] at V
     refine zaH (sl:=[(2,Pp _ _),(3,Pp _ _),(90,gII _ _)]) ⟨(hs44 2 Z).trans Z,(hs44 3 Z).trans Z,h90_,trivial⟩ ?_
     clear hs44 hd45 hr47 tab42
     refine Q (SO (v:=gII _ _) V zbr Z Z .u8 fun w V=>?_)
     refine G<|zdZ V .u5 fun w V=>?_
     replace V:=V.pick (.c .u5 (.c .u5 (.k1 (.c .u5 .nil))))
     exact .inr ⟨rfl,(4,0,0,none,0,[]),_,hI.big hi (by omega) g31 (by rw [hrmY] at *; omega),V⟩
    exfalso
    omega
   refine zaj<|SR<|Q<|zac zco Z<|Q<|zae (v:=.int .i64 _) zhj Z Z (V.cellL Q1 Z)<|Q<|za8 Z Z<|G<|zaa Z (fun g48=>?_) (fun g48=>?_)
   ·exfalso
    exact g48 he0
   refine zaj<|zan<|zdn hlp V .u4 fun w V=>?_
   replace V:=V.pick (.c .u3 (.c .u11 (.c .u3 (.c .u3 (.c .u4 (.c .u4 (.c .u4 (.c .u4 (.c .u4 (.k1 .nil))))))))))
   replace V:=V.starSnoc
   replace V:=V.pick (.c .u1 (.c .u1 (.c .u1 (.c .u1 (.c .u1 (.c .u1 (.c .u1 (.c .u1 (.k1 .nil)))))))))
   have e1:dm.length + 1 = (dm ++ [(⟨(zaV ((lnF s).getD i []) bd).1.op,(zaV ((lnF s).getD i []) bd).1.ty,(zaV ((lnF s).getD i []) bd).1.res,xo,xc,(zaV ((lnF s).getD i []) bd).1.args⟩:InstP)]).length:=by simp
   have e2:dm.flatMap zdP ++ [.int .u16 (zaV ((lnF s).getD i []) bd).1.op,.int .u32 (zaV ((lnF s).getD i []) bd).1.ty,.int .u32 (zaV ((lnF s).getD i []) bd).1.res,.slice xo (zaV ((lnF s).getD i []) bd).1.args.length xc] = (dm ++ [(⟨(zaV ((lnF s).getD i []) bd).1.op,(zaV ((lnF s).getD i []) bd).1.ty,(zaV ((lnF s).getD i []) bd).1.res,xo,xc,(zaV ((lnF s).getD i []) bd).1.args⟩:InstP)]).flatMap zdP:=by simp
   have e3:dm.map (Res.oargs 110) ++ [Res.sl xo (zaV ((lnF s).getD i []) bd).1.args.length xc 110 3 ((zaV ((lnF s).getD i []) bd).1.args.flatMap zgN)] = (dm ++ [(⟨(zaV ((lnF s).getD i []) bd).1.op,(zaV ((lnF s).getD i []) bd).1.ty,(zaV ((lnF s).getD i []) bd).1.res,xo,xc,(zaV ((lnF s).getD i []) bd).1.args⟩:InstP)]).map (Res.oargs 110):=by simp
   rw [e1,e2,e3] at V
   exact .inl ⟨rfl,(gn,bd,words + zbD (za5 (zaV ((lnF s).getD i []) bd).1.op) (zaV ((lnF s).getD i []) bd).1.args,ao38,cp39,dm ++ [(⟨(zaV ((lnF s).getD i []) bd).1.op,(zaV ((lnF s).getD i []) bd).1.ty,(zaV ((lnF s).getD i []) bd).1.res,xo,xc,(zaV ((lnF s).getD i []) bd).1.args⟩:InstP)]),_,hI.more hi (by omega) g31 (by rw [hrmY] at *; omega) rfl hsm,V⟩
  refine zaj<|SR<|Q<|zac zco Z<|Q<|zae (v:=.int .i64 _) zhj Z Z (V.cellL Q0 Z)<|Q<|za8 Z Z<|G<|zaa Z (fun g49=>?_) (fun g49=>?_)
  ·refine SQ ?_
   replace V:=V.pick (.c .u6 (.k12 .nil))
   apply RunD.start [(5,Res.row b2 25 _,Res.row b2 25 _)] V (bs:=[0,0,2,0,14,1,63]) (ds:=[some 86,some 87,some 88,some 89,some 90,none,none]) (htab:=⟨Kr,Kr,Kr⟩)
   intro tab50
   refine DO tab50 1 (fun _ _ _ hc=>zaf zem zno .nil hc.z) ?_
   refine DO tab50 2 (fun _ _ _ hc=>zac zco (hc.old (v:=Pp _ _) Z Z Z) hc.z)<|DO tab50 3 (fun _ _ _ hc=>zae (v:=.int .i64 _) zhj Z (hc.d 1 Z Z Z Z) (hc.st.cellL (Ar Q0) Z) hc.z)<|DO tab50 4 (fun _ _ _ hc=>zad (v:=.int .i64 _) (hc.old Z Z Z) hc.z)<|DO tab50 5 (fun _ _ _ hc=>zaf zbr zc7 (.c (v:=.int .i64 _) (hc.d 2 Z Z Z Z) (h:=(.c (v:=.int .i64 _) (hc.d 3 Z Z Z Z) (h:=.nil)))) hc.z) ?_
   refine zck tab50 6 Q0 (fun f' L' L2 w' hc hsel=>zbI (v:=zex _ _ _ _ _) hc.st zem (hc.old (v:=Pp _ _) Z Z Z) (hc.d 0 Z Z Z Z) Z Z Z hsel (by repeat (first | exact Put.nil | apply Put.put | apply Put.skip)) fun w V=>⟨Z,V⟩) ?_
   refine RunD.fin zaB tab50 V Z (fun f51 w R54 hs52 hd53 hr55 V=>?_)
   obtain ⟨h86_,r0⟩:=hd53 0 86 rfl rfl
   obtain ⟨h87_,r1⟩:=hd53 1 87 rfl rfl
   obtain ⟨h88_,r2⟩:=hd53 2 88 rfl rfl
   obtain ⟨h89_,r3⟩:=hd53 3 89 rfl rfl
   obtain ⟨h90_,r4⟩:=hd53 4 90 rfl rfl
   obtain ⟨_,_,r5⟩:=hr55 5 rfl
   simp only [rg6,Fc,Fn,Mc,Mn,r0,r1,r2,r3,r4,r5,Na,An,Ca] at V
   refine zaH (sl:=[(2,Pp _ _),(3,Pp _ _),(90,gII _ _)]) ⟨(hs52 2 Z).trans Z,(hs52 3 Z).trans Z,h90_,trivial⟩ ?_
   clear hs52 hd53 hr55 tab50
   refine Q (SO (v:=gII _ _) V zbr Z Z .u7 fun w V=>?_)
   refine G<|zdZ V .u4 fun w V=>?_
   replace V:=V.pick (.c .u4 (.c .u4 (.k1 (.c .u4 .nil))))
   exact .inr ⟨Z,((zaV ((lnF s).getD i []) bd).2.2.1,0,0,none,0,[]),_,hI.noline hi O g49,V⟩
  refine zaj<|zan<|zdn hlp V .u3 fun w V=>?_
  replace V:=V.pick (.c .u3 (.c .u3 (.c .u4 (.c .u4 (.c .u4 (.c .u4 (.c .u4 (.c .u4 (.c .u4 .nil)))))))))
  exact .inl ⟨Z,(gn,bd,words,aq,cq,dm),_,hI.skip hi O g49 g31,V⟩
 ·intro ⟨gn, bd, words, aq, cq, dm⟩ w bl br lp hI V
  dsimp only at V hI
  refine zan<|SQ<|SR<|Q<|zae (v:=.int .i64 _) ty3 Z Z (V.cellL Q6 Z)<|Q<|zai Z Z<|G<|zaa Z (fun g56=>?_) (fun g56=>?_)
  ·refine SQ ?_
   replace V:=V.pick (.c .u2 (.k9 .nil))
   apply RunD.start [(3,Res.row b2 25 _,Res.row b2 25 _)] V (bs:=[0,0,2,1,15]) (ds:=[some 93,some 94,some 95,none,none]) (htab:=⟨Kr,Kr,Kr⟩)
   intro tab57
   refine DO tab57 1 (fun _ _ _ hc=>zaf zem zno .nil hc.z) ?_
   refine DO tab57 2 (fun _ _ _ hc=>zae (v:=.int .i64 _) ty3 Z (hc.old (v:=Pp _ _) Z Z Z) (hc.st.cellL (Ar Q4) Z) hc.z)<|DO tab57 3 (fun _ _ _ hc=>zaf zbr zc7 (.c (v:=.int .i64 _) Z (h:=(.c (v:=.int .i64 _) (hc.d 1 Z Z Z Z) (h:=.nil)))) hc.z) ?_
   refine zck tab57 4 Q0 (fun f' L' L2 w' hc hsel=>zbI (v:=zex _ _ _ _ _) hc.st zem (hc.old (v:=Pp _ _) Z Z Z) (hc.d 0 Z Z Z Z) Z Z Z hsel (by repeat (first | exact Put.nil | apply Put.put | apply Put.skip)) fun w V=>⟨Z,V⟩) ?_
   refine RunD.fin zaB tab57 V Z (fun f58 w R61 hs59 hd60 hr62 V=>?_)
   obtain ⟨h93_,r0⟩:=hd60 0 93 rfl rfl
   obtain ⟨h94_,r1⟩:=hd60 1 94 rfl rfl
   obtain ⟨h95_,r2⟩:=hd60 2 95 rfl rfl
   obtain ⟨_,_,r3⟩:=hr62 3 rfl
   simp only [rg4,Fc,Fn,Mc,Mn,r0,r1,r2,r3,Na,An,Ca] at V
   refine zaH (sl:=[(2,Pp _ _),(3,Pp _ _),(95,gII _ _)]) ⟨(hs59 2 Z).trans Z,(hs59 3 Z).trans Z,h95_,trivial⟩ ?_
   clear hs59 hd60 hr62 tab57
   refine Q (SO (v:=gII _ _) V zbr Z Z .u3 fun w V=>?_)
   refine G ?_
   replace V:=V.pick (.c .u2 (.k9 .nil))
   refine zbz [br] func17 V fun w V=>⟨_,zqS Z (zak (vs:=zmF _ _ _ _ _) Z zem Z Z (zab (n:=3) (V.objL Q0) _ Z)) (zak (vs:=lII _ _) Z zbr Z Z (zab (n:=2) (V.objL Q2) _ Z)),?_⟩
   replace V:=V.pick .nil
   replace V:=St.starCons ((V.starNil).pushNil 44 4)
   rw [zhy (by omega),hI.fin0 (by omega)]
   exact ⟨none,0,[],rfl,rfl,⟨Nat.zero_le _,fun x h=>by cases h⟩,V.noD⟩
  refine zaj<|SR<|Q<|zaC (vs:=zmF _ _ _ _ _) zem Z Z Z (zab (n:=3) (V.objL Q4) _ Z)<|Q (zaf zbr zc7 .nil ?_)
  refine Q (SO (v:=zex _ _ _ _ _) V zem Z Z .u2 fun w V=>?_)
  refine Q (SO (v:=gII _ _) V zbr Z Z .u3 fun w V=>?_)
  refine G ?_
  replace V:=V.pick (.c .u1 (.k9 .nil))
  refine zbz [br] func17 V fun w V=>⟨_,zqS Z (zak (vs:=zmF _ _ _ _ _) Z zem Z Z (zab (n:=3) (V.objL Q1) _ Z)) (zak (vs:=lII _ _) Z zbr Z Z (zab (n:=2) (V.objL Q2) _ Z)),?_⟩
  replace V:=V.pick (.c .u6 (.c .u6 .nil))
  rw [zhy (by omega),hI.fin1 (by omega)]
  exact ⟨aq,cq,dm,Z,Z,⟨by have h1:=hI.len; have h2:=hI.le; omega,hI.sm⟩,(St.starCons V).noD⟩
 ·intro i ⟨gn, bd, words, aq, cq, dm⟩ hi hJ w bl br lp V
  replace V:=V.pick (.c .u1 (.k4 .nil))
  refine zbz [br] func17 V fun w V=>⟨_,zqS Z (zak (vs:=zmF _ _ _ _ _) Z zem Z Z (zab (n:=3) (V.objL Q1) _ Z)) (zak (vs:=lII _ _) Z zbr Z Z (zab (n:=2) (V.objL Q2) _ Z)),?_⟩
  replace V:=V.pick .nil
  replace V:=St.starCons ((V.starNil).pushNil 44 4)
  rw [zhy (by omega),hJ]
  exact ⟨none,0,[],rfl,rfl,⟨Nat.zero_le _,fun x h=>by cases h⟩,V.noD⟩
theorem zfs {t:Tx} {r:DecL} (hr:zda t = r) (w:World) (hG:LxG.holds w) (hl:t.length ≤ 140737488355328):Ret prog 17 #[str t] w (fun v w'=>∃ ao cp dm,dm.map InstP.L = r.1.2.2 ∧ v = .tuple #[.agg #[.int .u32 r.1.1,.int .u32 r.1.2.1,.slice ao dm.length cp],.agg #[.int .i64 r.2.1,.int .i64 r.2.2]] ∧ (dm.length ≤ 1048576 ∧ ∀ x ∈ dm,x.L.Sm) ∧ St w NoM [Res.omod 44 110 ao cp dm] [] w'):=by
 subst hr; exact zor t w hG hl
end Go.SK
namespace Go.SK
open Go Go.Proofs Go.Proofs.Tryz
theorem ent43:zaJ prog 43:=⟨f43,_,func43,Kr,rfl⟩
end Go.SK
