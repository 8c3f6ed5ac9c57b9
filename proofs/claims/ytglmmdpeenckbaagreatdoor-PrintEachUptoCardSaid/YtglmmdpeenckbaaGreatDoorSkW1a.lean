/-
  Steps of functions,plain law,and walks of functions: what the laws rest on.
-/
import Derived.Test.YtglmmdpeenckbaaGreatDoorSkW0c
set_option linter.unusedVariables false
set_option linter.unusedSimpArgs false
set_option linter.unusedSectionVars false
namespace Go.SK
open Go.RowKit Go.ChangeShapes Go.WideShapes Go.ChangeAt
def oneL:List InstL:=[⟨128,1,2,[⟨1,3,[]⟩,⟨1,4,[]⟩]⟩]
theorem Small.one {l:List InstP} (h:l.map InstP.L = oneL):Small l :=
  Small.of (m:=[⟨128,1,2,none,0,[⟨1,3,[]⟩,⟨1,4,[]⟩]⟩]) h ⟨by decide,by decide,by decide,by decide,by decide⟩
end Go.SK
namespace Go.SK
def oneX:Tx:=[109,111,100,117,108,101,32,55,32,57,10,37,50,32,61,32,79,112,73,65,100,100,32,37,49,32,37,51,32,37,52,10]
theorem zv0:zcV 7 9 oneL = (oneX,(0,0)):=by decide +kernel
open Go.RowKit
theorem zv1:∀ y ∈ oneL,y.U32:=fun y hy=>by
  cases hy with
  | head=>exact ⟨by decide,by decide,by decide⟩
  | tail _ h=>cases h
open Go Go.Proofs Go.Proofs.Tryz
theorem zqW (n:Int) (w:World):Ret prog 110 #[.int .u32 n] w (fun v w'=>v = .agg #[.int .u8 1,.int .u32 n,str []] ∧ St w NoM [] [] w'):=by
 refine zav (args:=[.int .u32 n]) func110 Z Z Z ?_
 have V:=St.init w
 refine SR<|Q<|zar V za1 fun w b2 V=>NSR<|MU Z<|Q (zaf za1 zeq (.c (v:=.int .u8 _) Z (h:=(.c (v:=.int .u32 _) Z (h:=.nil)))) ?_)
 refine Q (SO (v:=zeK _ _ _) V za1 Z Z .u0 fun w V=>?_)
 refine G<|zai func110 Z (zat (vs:=zgJ _ _ _) Z za1 Z Z (zac (n:=3) (V.objL Q0) _ Z)) ?_
 exact ⟨Z,V.pure⟩
end Go.SK
namespace Go.SK
open Go Go.Proofs Go.Proofs.Tryz
theorem zxF:zaG prog 110:=⟨f110,_,func110,Kr,rfl⟩
theorem ent59:zaG prog 59:=⟨f59,_,func59,Kr,rfl⟩
open Go.RowKit
theorem zw0  (w:World):Ret prog 59 #[] w (fun v w'=>∃ ro rc dm,v = .agg #[.int .u32 7,.int .u32 9,.slice ro dm.length rc] ∧ dm.map InstP.L = oneL ∧ St w NoM [Res.omod 44 110 ro rc dm] [] w'):=by
 refine zav (args:=[]) func59 Z Z Z ?_
 have V:=St.init w
 refine SR<|Q<|zar V zcx fun w b0 V=>NSR<|Q (zaf zcx zjk (.c (v:=.int .u32 _) Z (h:=(.c (v:=.int .u32 _) Z (h:=.nil)))) ?_)
 refine Q<|zar V zcx fun w b1 V=>Q (SO (v:=zc7 _ _ _ _ _) V zcx Z Z .u0 fun w V=>?_)
 refine G<|SQ<|zaC [] V (bs:=[0,1,0,4,12,28,60,127,255,511]) (ds:=[some 3,some 4,some 5,some 6,some 7,some 8,some 9,some 10,some 11,none]) ⟨Kr,Kr,Kr⟩ (fun tab1=>?_)
 refine DO tab1 1 (fun _ _ _ hc=>zaa zbX (hc.old (v:=Pp _ _) Z Z Z) hc.z)<|DO tab1 2 (fun _ _ _ hc=>zae (v:=.slice _ _ _) zdO Z (hc.d 0 Z Z Z Z) (hc.st.cellL (Ar Q0) Z) hc.z)<|DO tab1 3 (fun _ _ _ hc=>zao (v1:=.int .u32 _) zxF Z Z ((zqW _ _).mono fun v w hp=>⟨[],⟨hp.1,Z⟩,hc.st.keepc hp.2⟩))<|DO tab1 4 (fun _ _ _ hc=>zao (v1:=.int .u32 _) zxF Z Z ((zqW _ _).mono fun v w hp=>⟨[],⟨hp.1,Z⟩,hc.st.keepc hp.2⟩))<|RunD.op (fun v rs=>∃ b,v = .slice (some ⟨b,0,none⟩) 2 2 ∧ rs = [Res.row b 110 ([.int .u8 1,.int .u32 3,str [],.int .u8 1,.int .u32 4,str []])]) tab1 5 (fun _ _ _ hc=>zaI (z0:=[.int .u8 0,.int .u32 0,str [],.int .u8 0,.int .u32 0,str []]) hc.st zc4 za1 Z Z Kr (.c (v:=zeK _ _ _) (hc.d 2 Z Z Z Z) (h:=(.c (v:=zeK _ _ _) (hc.d 3 Z Z Z Z) (h:=.nil)))) fun w b V=>⟨[_],⟨b,Z,Z⟩,V⟩) ?_
 refine zfp (fun g v rs=>(∀ b,g 7 = .slice (some ⟨b,0,none⟩) 2 2 → v = .agg #[.int .u16 128,.int .u32 1,.int .u32 2,.slice (some ⟨b,0,none⟩) 2 2]) ∧ rs = []) tab1 6 (fun _ _ _ hc=>by obtain ⟨_,_,q1,_⟩:=hc.dep 4 7 rfl rfl; obtain ⟨b,h7,_⟩:=q1; exact zaf zbo zjj (.c (v:=.int .u16 128) rfl (h:=(.c (v:=.int .u32 1) rfl (h:=(.c (v:=.int .u32 2) rfl (h:=(.c (v:=.slice _ _ _) (evs h7 rfl) (h:=.nil)))))))) ⟨[],fun g hg=>⟨fun b2 e=>(by rw [hg 4 7 rfl rfl,h7] at e; cases e; rfl),rfl⟩,hc.st⟩) ?_
 refine zfp (fun g v rs=>∃ c,v = .slice (some ⟨c,0,none⟩) 1 1 ∧ ∀ b,g 7 = .slice (some ⟨b,0,none⟩) 2 2 → rs = [Res.row c 44 [.int .u16 128,.int .u32 1,.int .u32 2,.slice (some ⟨b,0,none⟩) 2 2]]) tab1 7 (fun _ _ _ hc=>by obtain ⟨_,_,q1,_⟩:=hc.dep 4 7 rfl rfl; obtain ⟨b,h7,_⟩:=q1; obtain ⟨g5,_,q2,hg5,_⟩:=hc.dep 5 8 rfl rfl; have h8:=q2.1 b ((hg5 4 7 rfl rfl).trans h7); exact zaI (z0:=[.int .u16 0,.int .u32 0,.int .u32 0,.slice none 0 0]) hc.st zdO zbo rfl rfl (by kernel_rfl) (.c (v:=zbf _ _ _ _ _ _) (evs h8 rfl) (h:=.nil)) fun w c V=>⟨[_],fun g hg=>⟨c,rfl,fun b2 e=>(by rw [hg 4 7 rfl rfl,h7] at e; cases e; rfl)⟩,V⟩) ?_
 refine RunD.fin zaw tab1 V Z (fun f2 w R5 hs3 hd4 hr6 V=>?_)
 obtain ⟨h3_,r0⟩:=hd4 0 3 rfl rfl
 obtain ⟨h4_,r1⟩:=hd4 1 4 rfl rfl
 obtain ⟨h5_,r2⟩:=hd4 2 5 rfl rfl
 obtain ⟨h6_,r3⟩:=hd4 3 6 rfl rfl
 obtain ⟨b7,h7_,r4⟩:=hd4 4 7 rfl rfl
 obtain ⟨h8_,r5⟩:=hd4 5 8 rfl rfl
 replace h8_:=h8_ b7 ((DrawTab.mask tab1 _ (j:=5) (l:=4) (t:=7) rfl rfl).trans h7_)
 obtain ⟨b9,h9_,r6⟩:=hd4 6 9 rfl rfl
 replace r6:=r6 b7 ((DrawTab.mask tab1 _ (j:=6) (l:=4) (t:=7) rfl rfl).trans h7_)
 simp only [rg7,Fc,Fn,Mc,Mn,r0,r1,r2,r3,r4,r5,r6,Na,An,Ca] at V
 refine zaz (sl:=[(0,Pp _ _),(1,Pp _ _),(4,.slice _ _ _),(9,.slice _ _ _)]) ⟨(hs3 0 Z).trans Z,(hs3 1 Z).trans Z,h4_,h9_,trivial⟩ ?_
 clear hs3 hd4 hr6 tab1
 replace V:=V.pushNil 44 4
 refine Q (zaP (news:=(zbq _ _ _ _ _ _)) V zdO zbo Z Z .u0 Z Z Z (zac (n:=4) (V.objL Q2) _ Z) Z Z O fun w ao7 cp8 V=>?_)
 replace V:=V.drop .u2
 refine Q<|zaa zbX Z<|Q (SO (v:=.slice _ _ _) V zdO Z Z .u2 fun w V=>?_)
 refine NSR<|Q<|zay (vs:=zh8 _ _ _ _ _) zcx Z Z Z (zac (n:=3) (V.objL Q2) _ Z)<|Q (SO (v:=zc7 _ _ _ _ _) V zcx Z Z .u3 fun w V=>?_)
 refine G<|zai func59 Z (zat (vs:=zh8 _ _ _ _ _) Z zcx Z Z (zac (n:=3) (V.objL Q3) _ Z)) ?_
 replace V:=V.pick (.c .u1 (.k3 .nil))
 replace V:=St.rowSl (n:=2) (es:=3) V rfl De
 replace V:=V.pick (.c .u1 (.k1 .nil))
 exact ⟨_,_,[⟨128,1,2,some ⟨b7,0,none⟩,2,[⟨1,3,[]⟩,⟨1,4,[]⟩]⟩],Z,Z,(St.pack (L1:=[_,_]) (L2:=[]) V)⟩
theorem zgt  (w:World) (hG:LxG.holds w):Ret prog 30 #[] w (fun v w'=>v = .bool true ∧ St w NoM [] [] w'):=by
 refine zav (args:=[]) func30 Z Z Z ?_
 have V:St w NoM [] [LxG] w:=St.init_Ds (by simp only [List.forall_mem_cons]; exact ⟨hG,fun _ h=>absurd h List.not_mem_nil⟩)
 refine SR<|AB Z<|NSR<|Q (zei  ent59 Z  ((zw0 _).mono fun v w hp=>?_))
 obtain ⟨aO1,cO1,dO1,rfl,hdO1,hp⟩:=hp
 replace V:St _ _ (_ :: _) _ _:=V.call0 hp
 refine Q<|zao (v1:=zc7 _ _ _ _ _) zwA rfl rfl<|Ret.det (zgu (x:=oneX) (se:=0) (sa:=0) (by rw [hdO1]; exact zv0) _ _ _ (V.hD _ Q0) (Res.rmod_of_omod (V.hL _ Q0)) (Small.one hdO1) (zsZ hdO1 zv1) (by decide) (by decide)) V fun w V=>Q<|zad (v:=.tuple #[str _,gII _ _]) rfl<|Q<|Ex (str _) rfl rfl<|Q<|Ex (gII _ _) rfl rfl<|Q<|zar V zaV fun w b2 V=>AS rfl<|Q (SO (v:=gII _ _) V zaV rfl rfl .u0 fun w V=>?_)
 refine NSR<|Q<|zaa zbB Z<|Q<|zae (v:=.int .i64 _) zdQ Z Z (V.cellL Q0 Z)<|Q<|zam Z Z<|MB Z<|zau (d:=11) Z (fun g1=>?_) (fun g1=>?_)
 ·refine TK (t := 11) Z (Vb (Dt g1)) <| zad (v := str _) Z <| TK (t := 11) Z (Vb (Dt g1)) <| zcu Z Z <| Q <| zaB (u := .bool _) (Vb (Dt g1)) Z <| AB Z <| G <| zai func30 Z (TP (v := .bool _) Z) ?_
  exact ⟨Vb (Dt Z),V.pure⟩
 exfalso
 exact g1 Z
end Go.SK
namespace Go.SK
open Go Go.Proofs Go.Proofs.Tryz
theorem zwx:zaG prog 30:=⟨f30,_,func30,Kr,rfl⟩
end Go.SK
