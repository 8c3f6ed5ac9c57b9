/-
  Steps of functions,plain law,and walks of functions: what the laws rest on.
-/
import Derived.Test.YtglmmdpeenckbaaGreatDoorSkW0c
set_option linter.unusedVariables false
set_option linter.unusedSimpArgs false
set_option linter.unusedSectionVars false
namespace Go.SK
open Go.RowKit Go.ChangeShapes Go.WideShapes Go.ChangeAt
theorem zwL {α:Type} {g:α → List Value} {es:Nat} (hg:∀ a,(g a).length = es) {d y:α} {done:List α} {n i:Nat} {x:List Value} (hl:done.length = i) (hn:i < n) (hx:x = g y):zb6 ((done ++ List.replicate (n - i) d).flatMap g) (0 + (i:Int).toNat * es) x = ((done ++ [y]) ++ List.replicate (n - (i + 1)) d).flatMap g:=by
  subst hx
  rw [Nat.zero_add,Int.toNat_natCast,zfb hg _ _ _ (by simp; omega)]
  congr 1
  rw [List.set_append_right _ _ (by omega),hl,Nat.sub_self,show n - i = (n - (i + 1)) + 1 by omega,List.replicate_succ,List.set_cons_zero,List.append_assoc]
  rfl
theorem zsJ {α:Type} {g:α → List Value} {d:α} {ez:List Value} (hd:g d = ez) (n:Nat):zc8 ez n = (([]:List α) ++ List.replicate (n - 0) d).flatMap g:=by
  rw [zi0 hd [] n]; simp [cpG]
theorem Small.args {l:List InstP} (h:Small l):∀ i ∈ l,i.args.length ≤ 900000000:=fun i hi=>Nat.le_trans (zh7 i.args) (h.sum i hi)
end Go.SK
namespace Go.SK
theorem Small.lenC {l:List InstP} (h:Small l):l.length ≤ 3518437208884:=by have:=h.len; omega
theorem Small.laC {l:List InstP} (h:Small l):∀ i ∈ l,i.args.length ≤ 5864062014806:=fun i hi=>by have:=h.args i hi; omega
open Go Go.Proofs Go.Proofs.Tryz
theorem zyy:zaG prog 32:=⟨f32,_,func32,Kr,rfl⟩
open Go.RowKit
theorem zft (p:InstP) (w:World) (hA:(Res.rargs p).holds w) (hl:p.args.length ≤ 5864062014806):Ret prog 32 #[.agg #[.int .u16 p.op,.int .u32 p.ty,.int .u32 p.res,.slice p.ao p.args.length p.cap]] w (fun v w'=>∃ bC,v = .agg #[.int .u16 p.op,.int .u32 p.ty,.int .u32 p.res,.slice (some ⟨bC,0,none⟩) p.args.length p.args.length] ∧ St w NoM [Res.sl (some ⟨bC,0,none⟩) p.args.length p.args.length 110 3 (p.args.flatMap zdX)] [] w'):=by
 refine zav (args:=[.agg #[.int .u16 p.op,.int .u32 p.ty,.int .u32 p.res,.slice p.ao p.args.length p.cap]]) func32 Z Z Z ?_
 have V:St w NoM [] [Res.rargs p] w:=St.init_D hA
 clear hA
 refine SR<|Q<|zbi (v:=zbf _ _ _ _ _ _) V Z Z fun w b1 V=>Q<|zar V zbo fun w b2 V=>NSR<|Q<|zaa zbA Z<|Q<|zae (v:=.slice _ _ _) zc4 Z Z (V.cellL Q1 Z)<|Q<|zaH (rest:=[]) zc4 Z<|Q (zfw V zc4 za1 Z Z Z De O O fun w bC V=>?_)
 rw [zi0 (g:=zdX) (d:=zeroA) (ez:=[.int .u8 0,.int .u32 0,str []]) rfl p.args] at V
 refine AL Z<|G<|SQ<|SR<|AI Z<|G<|zak<|zaY<|zaZ [(1,Pp _ _),(2,Pp _ _),(3,.slice _ _ _)] E3 (fun (i:Nat)=>[(4,.int .i64 (i:Int))]) (fun (i:Nat)=>[Res.sl (some ⟨bC,0,none⟩) p.args.length p.args.length 110 3 ((cpG zeroA p.args p.args.length i).flatMap zdX)]) (fun (i:Nat)=>i ≤ p.args.length) (fun (i:Nat)=>p.args.length - i) (0) V (Nat.zero_le _) ⟨Z,trivial⟩ ?_
 intro i f w V hJ ih1
 refine SQ<|SR<|MI Z<|Q<|zaa zbA Z<|Q<|zae (v:=.slice _ _ _) zc4 Z Z (V.cellL Q2 Z)<|Q<|zaH (rest:=[]) zc4 Z<|Q<|zaN Z Z<|G<|zab Z (fun g2=>?_) (fun g2=>?_)
 ·refine zag <| SQ <| zak <| RG <| ML rfl <| MI rfl <| Q <| zaa zbA rfl <| Q <| zae (v := .slice _ _ _) zc4 rfl rfl (V.cellL Q2 rfl) <| MI rfl <| Q <| zaR zc4 za1 (V.hD _ Q0) rfl rfl (by omega) (by omega) <| Q <| zay (vs := zgJ _ _ _) za1 rfl rfl rfl (Res.rs2_cells (m := 3) (V.hD _ Q0) _ (zbO (g := zdX) (d := zeroA) zeA _ _ (by omega))) <| Q <| zbd zc4 za1 rfl rfl (by omega) (by omega) <| Q <| zfv (v := zeK _ _ _) V za1 rfl rfl rfl rfl rfl .u0 (by simp only [List.length_cons, List.length_nil]; omega) fun w V => G <| zah ?_
  refine RG<|MI Z<|Q<|zaA Z Z Z zbt<|AI Z<|G<|zaD ?_
  exact ih1 (i + 1) _ w (by omega) (by (try dsimp only); rw [← zqK (g:=zdX) (es:=3) zeA (i:=i) (x:=zdX (p.args.getD i zeroA)) (by omega) rfl]; exact V) (by omega) E3 ⟨(Vi (by omega)),trivial⟩
 obtain rfl:i = p.args.length:=by omega
 rw [zup] at V
 refine zaK (id:=0) Z<|SR<|ML Z<|Q<|zaa zbA Z<|Q (SO (v:=.slice _ _ _) V zc4 Z Z .u2 fun w V=>?_)
 refine NSR<|Q<|zay (vs:=zbq _ _ _ _ _ _) zbo Z Z Z (zac (n:=4) (V.objL Q2) _ Z)<|Q (SO (v:=zbf _ _ _ _ _ _) V zbo Z Z .u1 fun w V=>?_)
 refine G<|zai func32 Z (zat (vs:=zbq _ _ _ _ _ _) Z zbo Z Z (zac (n:=4) (V.objL Q1) _ Z)) ?_
 replace V:=V.pick (.k1 .nil)
 exact ⟨bC,Z,V.noD⟩
theorem zdn (ga ba:Int) (l:List InstP) (ao:Option Addr) (cp:Nat) (w:World) (hA:(Res.rmod ao l).holds w) (hl:l.length ≤ 3518437208884) (hla:∀ i ∈ l,i.args.length ≤ 5864062014806):Ret prog 20 #[.agg #[.int .u32 ga,.int .u32 ba,.slice ao l.length cp]] w (fun v w'=>∃ bC done,v = .agg #[.int .u32 ga,.int .u32 ba,.slice (some ⟨bC,0,none⟩) done.length done.length] ∧ done.map InstP.L = l.map InstP.L ∧ St w NoM [Res.omod 44 110 (some ⟨bC,0,none⟩) done.length done] [] w'):=by
 refine zav (args:=[.agg #[.int .u32 ga,.int .u32 ba,.slice ao l.length cp]]) func20 Z Z Z ?_
 have V:St w NoM [] [Res.rmod ao l] w:=St.init_D hA
 clear hA
 refine SR<|Q<|zbi (v:=zc7 _ _ _ _ _) V Z Z fun w b1 V=>Q<|zar V zcx fun w b2 V=>NSR<|Q<|zaa zbX Z<|Q<|zae (v:=.slice _ _ _) zdO Z Z (V.cellL Q1 Z)<|Q<|zaH (rest:=[]) zdO Z<|Q (zfw V zdO zbo Z Z Z De O O fun w bC V=>?_)
 rw [zsJ (g:=zdK) (d:=zeroI) (ez:=[.int .u16 0,.int .u32 0,.int .u32 0,.slice none 0 0]) rfl] at V
 refine AL Z<|G<|SQ<|SQ ?_
 replace V:=V.starNil
 refine RG<|AI Z<|G<|zak<|zaY<|zaZ [(1,Pp _ _),(2,Pp _ _),(3,.slice _ _ _)] E3 (fun (q:Nat × List InstP)=>[(4,.int .i64 (q.1:Int))]) (fun (q:Nat × List InstP)=>[Res.star (q.2.map (Res.oargs 110)),Res.sl (some ⟨bC,0,none⟩) l.length l.length 44 4 ((q.2 ++ List.replicate (l.length - q.1) zeroI).flatMap zdK)]) (fun (q:Nat × List InstP)=>q.1 ≤ l.length ∧ q.2.length = q.1 ∧ q.2.map InstP.L = (l.take q.1).map InstP.L) (fun (q:Nat × List InstP)=>l.length - q.1) ((0,[])) V ⟨Nat.zero_le _,Z,Z⟩ ⟨Z,trivial⟩ ?_
 intro ⟨i,done⟩ f w V hJ ih1
 replace V:St _ _ ([Res.star (done.map (Res.oargs 110)),Res.sl (some ⟨bC,0,none⟩) l.length l.length 44 4 ((done ++ List.replicate (l.length - i) zeroI).flatMap zdK)] ++ [_,_]) _ _:=V
 replace hJ:i ≤ l.length ∧ done.length = i ∧ done.map InstP.L = (l.take i).map InstP.L:=hJ
 refine za6 (sl:=[(4,.int .i64 (i:Int))]) ⟨Z,trivial⟩<|SQ<|SR<|MI Z<|Q<|zaa zbX Z<|Q<|zae (v:=.slice _ _ _) zdO Z Z (V.cellL Q3 Z)<|Q<|zaH (rest:=[]) zdO Z<|Q<|zaN Z Z<|G<|zab Z (fun g2=>?_) (fun g2=>?_)
 ·refine zag <| SQ <| zak <| RG <| ML Z <| MI Z <| Q <| zaa zbX Z <| Q <| zae (v := .slice _ _ _) zdO Z Z (V.cellL Q3 Z) <| MI Z <| Q <| zaR zdO zbo (Res.rmod_insts (V.hD _ Q0)) Z Z O O <| Q <| zay (vs := zbq _ _ _ _ _ _) zbo Z Z Z (Res.rs2_cells (m := 4) (Res.rmod_insts (V.hD _ Q0)) _ (zbO (g := zdK) (d := zeroI) zcM _ _ O)) <| Q (zao (v1 := zbf _ _ _ _ _ _) zyy Z Z ((zft _ _ (Res.rmod_argsI (V.hD _ Q0) O) (hla _ (zbJ O))).mono fun v w hp => ?_))
  obtain ⟨bN,rfl,hp⟩:=hp
  replace V:=V.call0 hp
  refine Q<|zbd zdO zbo rfl rfl (by omega) (by omega)<|Q<|zfv (v:=zbf _ _ _ _ _ _) V zbo rfl rfl rfl rfl rfl .u2 (by simp only [List.length_cons,List.length_nil]; omega) fun w V=>G<|zah<|RG<|MI rfl<|Q<|zaA rfl rfl rfl zbt<|AI rfl<|G<|zaD ?_
  replace V:=V.pick (.k5 .nil)
  replace V:=V.starSnoc
  exact ih1 ((i + 1,done ++ [⟨(l.getD i zeroI).op,(l.getD i zeroI).ty,(l.getD i zeroI).res,some ⟨bN,0,none⟩,(l.getD i zeroI).args.length,(l.getD i zeroI).args⟩])) _ w (by (try dsimp only); omega) (by (try dsimp only); rw [List.map_append,← zwL (g:=zdK) (es:=4) zcM (y:=⟨(l.getD i zeroI).op,(l.getD i zeroI).ty,(l.getD i zeroI).res,some ⟨bN,0,none⟩,(l.getD i zeroI).args.length,(l.getD i zeroI).args⟩) (x:=zdK ⟨(l.getD i zeroI).op,(l.getD i zeroI).ty,(l.getD i zeroI).res,some ⟨bN,0,none⟩,(l.getD i zeroI).args.length,(l.getD i zeroI).args⟩) hJ.2.1 (by omega) rfl]; exact V) (⟨by (try dsimp only); omega,by simp [hJ.2.1],by rw [List.map_append,hJ.2.2,zce (d:=zeroI) (by omega),List.map_append]; rfl⟩) E3 ⟨(Vi (by (try dsimp only); omega)),trivial⟩
 obtain rfl:i = l.length:=by omega
 rw [Nat.sub_self,List.replicate_zero,List.append_nil done] at V
 have hdl:=hJ.2.1
 have hdn:=hJ.2.2
 rw [List.take_length] at hdn
 refine zaK (id:=0) Z<|SR<|ML Z<|Q<|zaa zbX Z<|Q (SO (v:=.slice _ _ _) V zdO Z Z .u3 fun w V=>?_)
 refine NSR<|Q<|zay (vs:=zh8 _ _ _ _ _) zcx Z Z Z (zac (n:=3) (V.objL Q3) _ Z)<|Q (SO (v:=zc7 _ _ _ _ _) V zcx Z Z .u2 fun w V=>?_)
 refine G<|zai func20 Z (zat (vs:=zh8 _ _ _ _ _) Z zcx Z Z (zac (n:=3) (V.objL Q2) _ Z)) ?_
 replace V:=V.pick (.c .u1 (.k1 .nil))
 rw [← hdl] at V
 exact ⟨bC,done,(by rw [hdl]),hdn,(St.starCons V).noD⟩
end Go.SK
namespace Go.SK
open Go Go.Proofs Go.Proofs.Tryz
theorem zwB:zaG prog 20:=⟨f20,_,func20,Kr,rfl⟩
end Go.SK
