/-
  Steps of functions,plain law,and walks of functions: what the laws rest on.
-/
import Derived.Test.YtglmmdpeenckbaaGreatDoorSkW0c
import Derived.Test.YtglmmdpeenckbaaGreatDoorSkW2a
import Derived.Test.YtglmmdpeenckbaaGreatDoorSkW3c
set_option linter.unusedVariables false
set_option linter.unusedSimpArgs false
set_option linter.unusedSectionVars false
namespace Go.SK
open Go.RowKit
theorem EqOk.str {P:Program} {T:TypeId} {sz bytes:Nat} {zs:List Value} {a b:List UInt8} (hT:TyF P T .string sz bytes zs):EqOk P 1 T (str a) (str b) (decide (a = b)):=fun d w=>by
  rw [Op.equalIn]
  simp only [Sem.run_bind,hT.run_und,Result.andThen,SK.str]
  have:((⟨a.toArray⟩:ByteArray) == ⟨b.toArray⟩) = decide (a = b):=by
    show (a.toArray == b.toArray) = decide (a = b)
    by_cases h:a = b <;> simp [h]
  simp [this]
section
variable {P:Program} {ty:TypeId} {ρ:Operand → Value} {w:World} {C:Value → World → Prop} {T T2:TypeId} {x y:Operand} {k:Nat} {xs ys:List Value} {b:Bool}
theorem zhS (hx:ρ x = .agg xs.toArray) (hy:ρ y = .agg ys.toArray) (hg:P.eqGuardType P.depth T = false) (h:EqOk P k T (.agg xs.toArray) (.agg ys.toArray) b) (hc:C (.bool (!b)) w) (hk:Nat.ble k 10000 = true:=by rfl):Op1 P (.binOp .neq T x y T2) ty ρ w C:=by
  refine zbT (v:=.bool (!b)) (w':=w) ?_ hc
  have hp:(program:Sem Program).run P w = .ok P w:=rfl
  simp only [execOp,hx,hy,eqGuard,binOp]
  simp [Sem.run_bind,hp,hg,Result.andThen,znK h hk]
end
section
variable {ao:Option Addr} {n es:Nat} {xs:List Value} {w:World}
theorem Res.rs2_cellF {k f:Nat} {v:Value} (h:(Res.rs ao n es xs).holds w) (hv:xs[0 + k + f]? = some v):w.cell? ⟨Rb ao,Ro ao + k + f,none⟩ = some v:=by
  rw [Nat.zero_add] at hv
  have:=Res.rs_all2 h (k + f) v hv
  rwa [← Nat.add_assoc] at this
end
open Go.ChangeShapes Go.WideShapes Go.ChangeAt
theorem InstP.L_eq {i j:InstP}:i.L = j.L ↔ i.op = j.op ∧ i.ty = j.ty ∧ i.res = j.res ∧ i.args = j.args:=by
  simp [InstP.L]
theorem ztS {l m:List InstP} (hl:l.length = m.length) (h:∀ j,j < l.length → (l.getD j zeroI).L = (m.getD j zeroI).L):l.map InstP.L = m.map InstP.L:=by
  refine zbN zeroI.L (by simpa using hl) fun j hj=>?_
  simp only [List.length_map] at hj
  rw [zdJ _ _ hj,zdJ _ _ (by omega)]
  exact h j hj
theorem zrR {l m:List InstP} (h:l.map InstP.L = m.map InstP.L) {j:Nat} (hj:j < l.length):(l.getD j zeroI).L = (m.getD j zeroI).L:=by
  have hl:l.length = m.length:=by simpa using congrArg List.length h
  have:(l.map InstP.L).getD j zeroI.L = (m.map InstP.L).getD j zeroI.L:=by rw [h]
  rwa [zdJ _ _ hj,zdJ _ _ (by omega)] at this
theorem zxL {a b:ArgP}:[decide (a.kind = b.kind),decide (a.n = b.n),decide (a.s = b.s)].all id = decide (a = b):=by
  cases a; cases b
  simp [ArgP.mk.injEq,Bool.and_assoc]
def sameM (g b:Int) (l:List InstP) (g' b':Int) (l':List InstP):Bool:=decide (g = g' ∧ b = b' ∧ l.map InstP.L = l'.map InstP.L)
theorem zro {g b:Int} {l m:List InstP} (h:l.map InstP.L = m.map InstP.L):sameM g b l g b m = true:=Dt ⟨rfl,rfl,h⟩
end Go.SK
namespace Go.SK
open Go.RowKit
theorem Q12 {α:Type} {y:α} {x0 x1 x2 x3 x4 x5 x6 x7 x8 x9 x10 x11:α} {L:List α}:List.Mem y (x0 :: x1 :: x2 :: x3 :: x4 :: x5 :: x6 :: x7 :: x8 :: x9 :: x10 :: x11 :: y :: L):=.tail _ (.tail _ (.tail _ (.tail _ (.tail _ (.tail _ (.tail _ (.tail _ (.tail _ (.tail _ (.tail _ (.tail _ (.head _))))))))))))
def topB:List UInt8:=[3,2,35,7,0,0,1,0,9,0,0,0,5,0,0,0,0,0,0,0,20,0,2,0,1,0,0,0]
theorem zq9:za2 topB = ((9,5,[⟨20,0,1,[]⟩]),(0,0)):=by decide +kernel
theorem zxS {m:List InstP} (h:m.map InstP.L = [⟨20,0,1,[]⟩]):m.length = 1 ∧ (m.getD 0 zeroI).op = 20:=by
  have hl:m.length = 1:=by simpa using congrArg List.length h
  obtain ⟨y,rfl⟩:=List.length_eq_one_iff.1 hl
  injection h with h1 h2
  exact ⟨rfl,congrArg InstL.op h1⟩
end Go.SK
namespace Go.SK
open Go Go.Proofs Go.Proofs.Tryz
theorem ent34:zaG prog 34:=⟨f34,_,func34,Kr,rfl⟩
theorem ent22:zaG prog 22:=⟨f22,_,func22,Kr,rfl⟩
theorem ent18:zaG prog 18:=⟨f18,_,func18,Kr,rfl⟩
open Go.RowKit
theorem zuL (p q:InstP) (w:World) (hA:(Res.rargs p).holds w) (hB:(Res.rargs q).holds w) (hl:p.args.length ≤ 9000000000000000000):Ret prog 34 #[.agg #[.int .u16 p.op,.int .u32 p.ty,.int .u32 p.res,.slice p.ao p.args.length p.cap],.agg #[.int .u16 q.op,.int .u32 q.ty,.int .u32 q.res,.slice q.ao q.args.length q.cap]] w (fun v w'=>v = .bool (decide (p.L = q.L)) ∧ St w NoM [] [] w'):=by
 refine zav (args:=[.agg #[.int .u16 p.op,.int .u32 p.ty,.int .u32 p.res,.slice p.ao p.args.length p.cap],.agg #[.int .u16 q.op,.int .u32 q.ty,.int .u32 q.res,.slice q.ao q.args.length q.cap]]) func34 Z Z Z ?_
 have V:St w NoM [] [Res.rargs p,Res.rargs q] w:=St.init_Ds (fun d hd=>by cases hd with | head=>exact hA | tail _ hd=>cases hd with | head=>exact hB | tail _ h=>cases h)
 clear hA hB
 refine SR<|Q<|zbi (v:=zbf _ _ _ _ _ _) V Z Z fun w b2 V=>Q<|zbi (v:=zbf _ _ _ _ _ _) V Z Z fun w b3 V=>AB Z<|G<|SQ<|SR<|Q<|zaa zfW Z<|Q<|zae (v:=.int .u16 _) zlC Z Z (V.cellL Q1 Z)<|Q<|zaa zfW Z<|Q<|zae (v:=.int .u16 _) zlC Z Z (V.cellL Q0 Z)<|Q<|zaF Z Z<|MB Z ?_
 refine zau (d:=11) Z (fun g1=>?_) (fun g1=>?_)
 ·refine OM (t := 11) Z (Vb (Dt g1)) Z <| OM (t := 11) Z (Vb (Dt g1)) Z <| OM (t := 11) Z (Vb (Dt g1)) Z <| OM (t := 11) Z (Vb (Dt g1)) Z <| OM (t := 11) Z (Vb (Dt g1)) Z <| Q <| zaB (u := .bool _) (Vb (Dt g1)) Z <| MB Z <| OM (t := 18) Z (Vb (Z : true = _)) Z <| OM (t := 18) Z (Vb (Z : true = _)) Z <| OM (t := 18) Z (Vb (Z : true = _)) Z <| OM (t := 18) Z (Vb (Z : true = _)) Z <| OM (t := 18) Z (Vb (Z : true = _)) Z <| Q <| zaB (u := .bool _) (Vb (Z : true = _)) Z <| MB Z <| OM (t := 25) Z (Vb (Z : true = _)) Z ?_
  refine OM (t:=25) Z (Vb (Z:true = _)) Z<|OM (t:=25) Z (Vb (Z:true = _)) Z<|OM (t:=25) Z (Vb (Z:true = _)) Z<|OM (t:=25) Z (Vb (Z:true = _)) Z<|OM (t:=25) Z (Vb (Z:true = _)) Z<|OM (t:=25) Z (Vb (Z:true = _)) Z<|Q<|zaB (u:=.bool _) (Vb (Z:true = _)) Z<|G<|zas (Vb (Z:true = _))<|SR<|AB Z<|G<|zai func34 Z (TP (v:=.bool _) Z) ?_
  exact ⟨Vb (Df (fun h=>by obtain ⟨h1,h2,h3,h4⟩:=InstP.L_eq.1 h; exact g1 h1)).symm,V.pure⟩
 refine TK (t:=11) Z (Vb (Df g1))<|zaa zeH Z<|TK (t:=11) Z (Vb (Df g1))<|zae (v:=.int .u32 _) za9 Z Z (V.cellL Q1 Z)<|TK (t:=11) Z (Vb (Df g1))<|zaa zeH Z<|TK (t:=11) Z (Vb (Df g1))<|zae (v:=.int .u32 _) za9 Z Z (V.cellL Q0 Z)<|TK (t:=11) Z (Vb (Df g1))<|zaF Z Z<|Q<|zax (u:=.bool _) (Vb (Df g1)) Z<|MB Z<|zau (d:=18) Z (fun g2=>?_) (fun g2=>?_)
 ·refine OM (t := 18) Z (Vb (Dt g2)) Z <| OM (t := 18) Z (Vb (Dt g2)) Z <| OM (t := 18) Z (Vb (Dt g2)) Z <| OM (t := 18) Z (Vb (Dt g2)) Z <| OM (t := 18) Z (Vb (Dt g2)) Z <| Q <| zaB (u := .bool _) (Vb (Dt g2)) Z <| MB Z <| OM (t := 25) Z (Vb (Z : true = _)) Z <| OM (t := 25) Z (Vb (Z : true = _)) Z <| OM (t := 25) Z (Vb (Z : true = _)) Z <| OM (t := 25) Z (Vb (Z : true = _)) Z <| OM (t := 25) Z (Vb (Z : true = _)) Z <| OM (t := 25) Z (Vb (Z : true = _)) Z <| OM (t := 25) Z (Vb (Z : true = _)) Z <| Q (zaB (u := .bool _) (Vb (Z : true = _)) Z ?_)
  refine G<|zaj [(2,Pp _ _),(3,Pp _ _),(33,.bool _)] E3 fun f=>zas (Vb (Z:true = _))<|SR<|AB Z<|G<|zai func34 Z (TP (v:=.bool _) Z) ?_
  exact ⟨Vb (Df (fun h=>by obtain ⟨h1,h2,h3,h4⟩:=InstP.L_eq.1 h; exact g2 h2)).symm,V.pure⟩
 refine TK (t:=18) Z (Vb (Df g2))<|zaa zfV Z<|TK (t:=18) Z (Vb (Df g2))<|zae (v:=.int .u32 _) za9 Z Z (V.cellL Q1 Z)<|TK (t:=18) Z (Vb (Df g2))<|zaa zfV Z<|TK (t:=18) Z (Vb (Df g2))<|zae (v:=.int .u32 _) za9 Z Z (V.cellL Q0 Z)<|TK (t:=18) Z (Vb (Df g2))<|zaF Z Z<|Q<|zax (u:=.bool _) (Vb (Df g2)) Z<|MB Z<|zau (d:=25) Z (fun g3=>?_) (fun g3=>?_)
 ·refine OM (t := 25) Z (Vb (Dt g3)) Z <| OM (t := 25) Z (Vb (Dt g3)) Z <| OM (t := 25) Z (Vb (Dt g3)) Z <| OM (t := 25) Z (Vb (Dt g3)) Z <| OM (t := 25) Z (Vb (Dt g3)) Z <| OM (t := 25) Z (Vb (Dt g3)) Z <| OM (t := 25) Z (Vb (Dt g3)) Z <| Q <| zaB (u := .bool _) (Vb (Dt g3)) Z <| G <| zaj [(2, Pp _ _), (3, Pp _ _), (33, .bool _)] E3 fun f => zas (Vb (Z : true = _)) <| SR <| AB Z <| G ?_
  refine zai func34 Z (TP (v:=.bool _) Z) ?_
  exact ⟨Vb (Df (fun h=>by obtain ⟨h1,h2,h3,h4⟩:=InstP.L_eq.1 h; exact g3 h3)).symm,V.pure⟩
 refine TK (t:=25) Z (Vb (Df g3))<|zaa zbA Z<|TK (t:=25) Z (Vb (Df g3))<|zae (v:=.slice _ _ _) zc4 Z Z (V.cellL Q1 Z)<|TK (t:=25) Z (Vb (Df g3))<|zaH (rest:=[]) zc4 Z<|TK (t:=25) Z (Vb (Df g3))<|zaa zbA Z<|TK (t:=25) Z (Vb (Df g3))<|zae (v:=.slice _ _ _) zc4 Z Z (V.cellL Q0 Z)<|TK (t:=25) Z (Vb (Df g3))<|zaH (rest:=[]) zc4 Z<|TK (t:=25) Z (Vb (Df g3))<|zaF Z Z<|Q<|zax (u:=.bool _) (Vb (Df g3)) Z<|G<|zaj [(2,Pp _ _),(3,Pp _ _),(33,.bool _)] E3 fun f=>zab Z (fun g4=>?_) (fun g4=>?_)
 ·refine SR <| AB Z <| G <| zai func34 Z (TP (v := .bool _) Z) ?_
  exact ⟨Vb (Df (fun h=>by obtain ⟨h1,h2,h3,h4⟩:=InstP.L_eq.1 h; have:=congrArg List.length h4; omega)).symm,V.pure⟩
 refine zag<|SQ<|SR<|AI Z<|G<|zak<|zaY<|zaZ [(2,Pp _ _),(3,Pp _ _)] E2 (fun (i:Nat)=>[(5,.int .i64 (i:Int))]) (fun (i:Nat)=>[]) (fun (i:Nat)=>i ≤ p.args.length ∧ ∀ j,j < i → p.args.getD j zeroA = q.args.getD j zeroA) (fun (i:Nat)=>p.args.length - i) (0) V ⟨Nat.zero_le _,fun j hj=>absurd hj O⟩ ⟨Z,trivial⟩ ?_
 intro i f w V hJ ih5
 refine SQ<|SR<|MI Z<|Q<|zaa zbA Z<|Q<|zae (v:=.slice _ _ _) zc4 Z Z (V.cellL Q1 Z)<|Q<|zaH (rest:=[]) zc4 Z<|Q<|zaN Z Z<|G<|zab Z (fun g6=>?_) (fun g6=>?_)
 ·refine zag <| SQ <| zak <| SQ <| zaC [] V (bs := [0, 1, 0, 7, 15, 0, 32, 0, 224, 480, 1023]) (ds := [some 41, some 42, some 43, some 44, some 45, some 46, some 47, some 48, some 49, some 50, some 51]) ⟨Kr, Kr, Kr⟩ (fun tab7 => ?_)
  refine DO tab7 1 (fun _ _ _ hc=>zaa zbA (hc.old (v:=Pp _ _) Z Z Z) hc.z)<|DO tab7 2 (fun _ _ _ hc=>zae (v:=.slice _ _ _) zc4 Z (hc.d 0 Z Z Z Z) (hc.st.cellL (Ar Q1) Z) hc.z)<|DO tab7 3 (fun _ _ _ hc=>zad (v:=.int .i64 _) (hc.old Z Z Z) hc.z)<|DO tab7 4 (fun _ _ _ hc=>zaR zc4 za1 (hc.st.hD _ Q0) (hc.d 1 Z Z Z Z) (hc.d 2 Z Z Z Z) O O hc.z)<|DO tab7 5 (fun _ _ _ hc=>zay (vs:=zgJ _ _ _) za1 Z (hc.d 3 Z Z Z Z) Z (Res.rs2_cells (m:=3) (hc.st.hD _ Q0) _ (zbO (g:=zdX) (d:=zeroA) zeA _ _ O)) hc.z)<|DO tab7 6 (fun _ _ _ hc=>zaa zbA (hc.old (v:=Pp _ _) Z Z Z) hc.z)<|DO tab7 7 (fun _ _ _ hc=>zae (v:=.slice _ _ _) zc4 Z (hc.d 5 Z Z Z Z) (hc.st.cellL (Ar Q0) Z) hc.z)<|DO tab7 8 (fun _ _ _ hc=>zad (v:=.int .i64 _) (hc.old Z Z Z) hc.z)<|DO tab7 9 (fun _ _ _ hc=>zaR zc4 za1 (hc.st.hD _ Q1) (hc.d 6 Z Z Z Z) (hc.d 7 Z Z Z Z) O O hc.z)<|DO tab7 10 (fun _ _ _ hc=>zay (vs:=zgJ _ _ _) za1 Z (hc.d 8 Z Z Z Z) Z (Res.rs2_cells (m:=3) (hc.st.hD _ Q1) _ (zbO (g:=zdX) (d:=zeroA) zeA _ _ O)) hc.z)<|RunD.fin zaw tab7 V Z (fun f8 w R11 hs9 hd10 hr12 V=>?_)
  obtain ⟨h41_,r0⟩:=hd10 0 41 rfl rfl
  obtain ⟨h42_,r1⟩:=hd10 1 42 rfl rfl
  obtain ⟨h43_,r2⟩:=hd10 2 43 rfl rfl
  obtain ⟨h44_,r3⟩:=hd10 3 44 rfl rfl
  obtain ⟨h45_,r4⟩:=hd10 4 45 rfl rfl
  obtain ⟨h46_,r5⟩:=hd10 5 46 rfl rfl
  obtain ⟨h47_,r6⟩:=hd10 6 47 rfl rfl
  obtain ⟨h48_,r7⟩:=hd10 7 48 rfl rfl
  obtain ⟨h49_,r8⟩:=hd10 8 49 rfl rfl
  obtain ⟨h50_,r9⟩:=hd10 9 50 rfl rfl
  simp only [rg10,Fc,Fn,Mc,Mn,r0,r1,r2,r3,r4,r5,r6,r7,r8,r9,Na,An,Ca] at V
  refine zaz (sl:=[(2,Pp _ _),(3,Pp _ _),(5,.int .i64 _),(45,zeK _ _ _),(50,zeK _ _ _)]) ⟨(hs9 2 Z).trans Z,(hs9 3 Z).trans Z,(hs9 5 Z).trans Z,h45_,h50_,trivial⟩ ?_
  clear hs9 hd10 hr12 tab7
  refine Q<|zhS (xs:=(zgJ _ _ _)) (ys:=(zgJ _ _ _)) Z Z Kr (zcA underlying110 Kr (.cons De (PartOk.one ty5 Z Z) (PartOk.one ty5 Z Z) (zcc ty5) (.cons De (PartOk.one za9 Z Z) (PartOk.one za9 Z Z) (zcc za9) (.cons De (PartOk.one ty9 Z Z) (PartOk.one ty9 Z Z) (EqOk.str ty9) .nil))))<|G<|zaQ Z (fun g13=>?_) (fun g13=>?_)
  ·refine SR <| AB Z <| G <| zai func34 Z (TP (v := .bool _) Z) ?_
   exact ⟨Vb (Df (fun h=>by obtain ⟨h1,h2,h3,h4⟩:=InstP.L_eq.1 h; have hg:=g13; rw [zxL,h4] at hg; simp at hg)).symm,V.pure⟩
  refine zag<|zah<|RG<|MI Z<|Q<|zaA Z Z Z zbt<|AI Z<|G<|zaD ?_
  exact ih5 (i + 1) _ w (by omega) V (⟨by omega,zdS hJ.2 (by have hg:=g13; rw [zxL] at hg; simpa using hg)⟩) E2 ⟨(Vi (by omega)),trivial⟩
 refine zaK (id:=0) Z<|SR<|AB Z<|G<|zai func34 Z (TP (v:=.bool _) Z) ?_
 exact ⟨Vb (Dt (InstP.L_eq.2 ⟨Nn g1,Nn g2,Nn g3,zbN zeroA O (fun j hj=>hJ.2 j O)⟩)).symm,V.pure⟩
theorem zpv (ga ba gb bb:Int) (l m:List InstP) (ao bo:Option Addr) (cp cq:Nat) (w:World) (hA:(Res.rmod ao l).holds w) (hB:(Res.rmod bo m).holds w) (hl:l.length ≤ 9000000000000000000) (hla:∀ i ∈ l,i.args.length ≤ 9000000000000000000):Ret prog 22 #[.agg #[.int .u32 ga,.int .u32 ba,.slice ao l.length cp],.agg #[.int .u32 gb,.int .u32 bb,.slice bo m.length cq]] w (fun v w'=>v = .bool (sameM ga ba l gb bb m) ∧ St w NoM [] [] w'):=by
 refine zav (args:=[.agg #[.int .u32 ga,.int .u32 ba,.slice ao l.length cp],.agg #[.int .u32 gb,.int .u32 bb,.slice bo m.length cq]]) func22 Z Z Z ?_
 have V:St w NoM [] [Res.rmod ao l,Res.rmod bo m] w:=St.init_Ds (fun d hd=>by cases hd with | head=>exact hA | tail _ hd=>cases hd with | head=>exact hB | tail _ h=>cases h)
 clear hA hB
 refine SR<|Q<|zbi (v:=zc7 _ _ _ _ _) V Z Z fun w b2 V=>Q<|zbi (v:=zc7 _ _ _ _ _) V Z Z fun w b3 V=>AB Z<|G<|SQ<|SR<|Q<|zaa zfg Z<|Q<|zae (v:=.int .u32 _) za9 Z Z (V.cellL Q1 Z)<|Q<|zaa zfg Z<|Q<|zae (v:=.int .u32 _) za9 Z Z (V.cellL Q0 Z)<|Q<|zaF Z Z<|MB Z ?_
 refine zau (d:=11) Z (fun g1=>?_) (fun g1=>?_)
 ·refine OM (t := 11) Z (Vb (Dt g1)) Z <| OM (t := 11) Z (Vb (Dt g1)) Z <| OM (t := 11) Z (Vb (Dt g1)) Z <| OM (t := 11) Z (Vb (Dt g1)) Z <| OM (t := 11) Z (Vb (Dt g1)) Z <| Q <| zaB (u := .bool _) (Vb (Dt g1)) Z <| MB Z <| OM (t := 18) Z (Vb (Z : true = _)) Z <| OM (t := 18) Z (Vb (Z : true = _)) Z <| OM (t := 18) Z (Vb (Z : true = _)) Z <| OM (t := 18) Z (Vb (Z : true = _)) Z <| OM (t := 18) Z (Vb (Z : true = _)) Z <| OM (t := 18) Z (Vb (Z : true = _)) Z <| OM (t := 18) Z (Vb (Z : true = _)) Z <| Q (zaB (u := .bool _) (Vb (Z : true = _)) Z ?_)
  refine G<|zas (Vb (Z:true = _))<|SR<|AB Z<|G<|zai func22 Z (TP (v:=.bool _) Z) ?_
  exact ⟨Vb (Df (fun h=>g1 h.1)).symm,V.pure⟩
 refine TK (t:=11) Z (Vb (Df g1))<|zaa zcZ Z<|TK (t:=11) Z (Vb (Df g1))<|zae (v:=.int .u32 _) za9 Z Z (V.cellL Q1 Z)<|TK (t:=11) Z (Vb (Df g1))<|zaa zcZ Z<|TK (t:=11) Z (Vb (Df g1))<|zae (v:=.int .u32 _) za9 Z Z (V.cellL Q0 Z)<|TK (t:=11) Z (Vb (Df g1))<|zaF Z Z<|Q<|zax (u:=.bool _) (Vb (Df g1)) Z<|MB Z<|zau (d:=18) Z (fun g2=>?_) (fun g2=>?_)
 ·refine OM (t := 18) Z (Vb (Dt g2)) Z <| OM (t := 18) Z (Vb (Dt g2)) Z <| OM (t := 18) Z (Vb (Dt g2)) Z <| OM (t := 18) Z (Vb (Dt g2)) Z <| OM (t := 18) Z (Vb (Dt g2)) Z <| OM (t := 18) Z (Vb (Dt g2)) Z <| OM (t := 18) Z (Vb (Dt g2)) Z <| Q <| zaB (u := .bool _) (Vb (Dt g2)) Z <| G <| zas (Vb (Z : true = _)) <| SR <| AB Z <| G <| zai func22 Z (TP (v := .bool _) Z) ?_
  exact ⟨Vb (Df (fun h=>g2 h.2.1)).symm,V.pure⟩
 refine TK (t:=18) Z (Vb (Df g2))<|zaa zbX Z<|TK (t:=18) Z (Vb (Df g2))<|zae (v:=.slice _ _ _) zdO Z Z (V.cellL Q1 Z)<|TK (t:=18) Z (Vb (Df g2))<|zaH (rest:=[]) zdO Z<|TK (t:=18) Z (Vb (Df g2))<|zaa zbX Z<|TK (t:=18) Z (Vb (Df g2))<|zae (v:=.slice _ _ _) zdO Z Z (V.cellL Q0 Z)<|TK (t:=18) Z (Vb (Df g2))<|zaH (rest:=[]) zdO Z<|TK (t:=18) Z (Vb (Df g2))<|zaF Z Z<|Q<|zax (u:=.bool _) (Vb (Df g2)) Z<|G<|zaj [(2,Pp _ _),(3,Pp _ _),(26,.bool _)] E3 fun f=>zab Z (fun g3=>?_) (fun g3=>?_)
 ·refine SR <| AB Z <| G <| zai func22 Z (TP (v := .bool _) Z) ?_
  exact ⟨Vb (Df (fun h=>by have:=zno h.2.2; omega)).symm,V.pure⟩
 refine zag<|SQ<|SR<|AI Z<|G<|zak<|zaY<|zaZ [(2,Pp _ _),(3,Pp _ _)] E2 (fun (i:Nat)=>[(5,.int .i64 (i:Int))]) (fun (i:Nat)=>[]) (fun (i:Nat)=>i ≤ l.length ∧ ∀ j,j < i → (l.getD j zeroI).L = (m.getD j zeroI).L) (fun (i:Nat)=>l.length - i) (0) V ⟨Nat.zero_le _,fun j hj=>absurd hj O⟩ ⟨Z,trivial⟩ ?_
 intro i f w V hJ ih4
 refine SQ<|SR<|MI Z<|Q<|zaa zbX Z<|Q<|zae (v:=.slice _ _ _) zdO Z Z (V.cellL Q1 Z)<|Q<|zaH (rest:=[]) zdO Z<|Q<|zaN Z Z<|G<|zab Z (fun g5=>?_) (fun g5=>?_)
 ·refine zag <| SQ <| zak <| SQ <| zaC [] V (bs := [0, 1, 0, 7, 15, 0, 32, 0, 224, 480, 1023, 2047]) (ds := [some 34, some 35, some 36, some 37, some 38, some 39, some 40, some 41, some 42, some 43, some 44, some 45]) ⟨Kr, Kr, Kr⟩ (fun tab6 => ?_)
  refine DO tab6 1 (fun _ _ _ hc=>zaa zbX (hc.old (v:=Pp _ _) Z Z Z) hc.z)<|DO tab6 2 (fun _ _ _ hc=>zae (v:=.slice _ _ _) zdO Z (hc.d 0 Z Z Z Z) (hc.st.cellL (Ar Q1) Z) hc.z)<|DO tab6 3 (fun _ _ _ hc=>zad (v:=.int .i64 _) (hc.old Z Z Z) hc.z)<|DO tab6 4 (fun _ _ _ hc=>zaR zdO zbo (Res.rmod_insts (hc.st.hD _ Q0)) (hc.d 1 Z Z Z Z) (hc.d 2 Z Z Z Z) O O hc.z)<|DO tab6 5 (fun _ _ _ hc=>zay (vs:=zbq _ _ _ _ _ _) zbo Z (hc.d 3 Z Z Z Z) Z (Res.rs2_cells (m:=4) (Res.rmod_insts (hc.st.hD _ Q0)) _ (zbO (g:=zdK) (d:=zeroI) zcM _ _ O)) hc.z)<|DO tab6 6 (fun _ _ _ hc=>zaa zbX (hc.old (v:=Pp _ _) Z Z Z) hc.z)<|DO tab6 7 (fun _ _ _ hc=>zae (v:=.slice _ _ _) zdO Z (hc.d 5 Z Z Z Z) (hc.st.cellL (Ar Q0) Z) hc.z)<|DO tab6 8 (fun _ _ _ hc=>zad (v:=.int .i64 _) (hc.old Z Z Z) hc.z)<|DO tab6 9 (fun _ _ _ hc=>zaR zdO zbo (Res.rmod_insts (hc.st.hD _ Q1)) (hc.d 6 Z Z Z Z) (hc.d 7 Z Z Z Z) O O hc.z)<|DO tab6 10 (fun _ _ _ hc=>zay (vs:=zbq _ _ _ _ _ _) zbo Z (hc.d 8 Z Z Z Z) Z (Res.rs2_cells (m:=4) (Res.rmod_insts (hc.st.hD _ Q1)) _ (zbO (g:=zdK) (d:=zeroI) zcM _ _ O)) hc.z)<|RunD.fin zaw tab6 V Z (fun f7 w R10 hs8 hd9 hr11 V=>?_)
  obtain ⟨h34_,r0⟩:=hd9 0 34 rfl rfl
  obtain ⟨h35_,r1⟩:=hd9 1 35 rfl rfl
  obtain ⟨h36_,r2⟩:=hd9 2 36 rfl rfl
  obtain ⟨h37_,r3⟩:=hd9 3 37 rfl rfl
  obtain ⟨h38_,r4⟩:=hd9 4 38 rfl rfl
  obtain ⟨h39_,r5⟩:=hd9 5 39 rfl rfl
  obtain ⟨h40_,r6⟩:=hd9 6 40 rfl rfl
  obtain ⟨h41_,r7⟩:=hd9 7 41 rfl rfl
  obtain ⟨h42_,r8⟩:=hd9 8 42 rfl rfl
  obtain ⟨h43_,r9⟩:=hd9 9 43 rfl rfl
  simp only [rg10,Fc,Fn,Mc,Mn,r0,r1,r2,r3,r4,r5,r6,r7,r8,r9,Na,An,Ca] at V
  refine zaz (sl:=[(2,Pp _ _),(3,Pp _ _),(5,.int .i64 _),(38,zbf _ _ _ _ _ _),(43,zbf _ _ _ _ _ _)]) ⟨(hs8 2 Z).trans Z,(hs8 3 Z).trans Z,(hs8 5 Z).trans Z,h38_,h43_,trivial⟩ ?_
  clear hs8 hd9 hr11 tab6
  refine Q<|zaE (v1:=zbf _ _ _ _ _ _) (v2:=zbf _ _ _ _ _ _) ent34 Z Z Z<|Ret.det (zuL _ _ _ (Res.rmod_argsI (V.hD _ Q0) O) (Res.rmod_argsI (V.hD _ Q1) O) (hla _ (zbJ O))) V fun w V=>Q<|zaU Z<|G<|zaQ Z (fun g12=>?_) (fun g12=>?_)
  ·refine SR <| AB Z <| G <| zai func22 Z (TP (v := .bool _) Z) ?_
   exact ⟨Vb (Df (fun h=>by have hg:=g12; rw [Dt (zrR h.2.2 (by omega))] at hg; simp at hg)).symm,V.pure⟩
  refine zag<|zah<|RG<|MI Z<|Q<|zaA Z Z Z zbt<|AI Z<|G<|zaD ?_
  exact ih4 (i + 1) _ w (by omega) V (⟨by omega,zdS hJ.2 (by simpa using g12)⟩) E2 ⟨(Vi (by omega)),trivial⟩
 refine zaK (id:=0) Z<|SR<|AB Z<|G<|zai func22 Z (TP (v:=.bool _) Z) ?_
 exact ⟨Vb (Dt (⟨Nn g1,Nn g2,ztS O (fun j hj=>hJ.2 j O)⟩)).symm,V.pure⟩
theorem zsi (gn bd:Int) (n:Nat) (ao:Option Addr) (cp:Nat) (w:World):Ret prog 18 #[.agg #[.int .u32 gn,.int .u32 bd,.slice ao n cp]] w (fun v w'=>v = .bool (decide (gn = 0 ∧ bd = 0 ∧ n = 0)) ∧ St w NoM [] [] w'):=by
 refine zav (args:=[.agg #[.int .u32 gn,.int .u32 bd,.slice ao n cp]]) func18 Z Z Z ?_
 have V:=St.init w
 refine SR<|Q<|zbi (v:=zc7 _ _ _ _ _) V Z Z fun w b1 V=>AB Z<|NSR<|Q<|zaa zfg Z<|Q<|zae (v:=.int .u32 _) za9 Z Z (V.cellL Q0 Z)<|Q<|zam Z Z<|MB Z<|zau (d:=6) Z (fun g1=>?_) (fun g1=>?_)
 ·refine TK (t := 6) Z (Vb (Dt g1)) <| zaa zcZ Z <| TK (t := 6) Z (Vb (Dt g1)) <| zae (v := .int .u32 _) za9 Z Z (V.cellL Q0 Z) <| TK (t := 6) Z (Vb (Dt g1)) <| zam Z Z <| Q <| zaB (u := .bool _) (Vb (Dt g1)) Z <| MB Z <| zau (d := 11) Z (fun g2 => ?_) (fun g2 => ?_)
  ·refine TK (t := 11) Z (Vb (Dt g2)) <| zaa zbX Z <| TK (t := 11) Z (Vb (Dt g2)) <| zae (v := .slice _ _ _) zdO Z Z (V.cellL Q0 Z) <| TK (t := 11) Z (Vb (Dt g2)) <| zaH (rest := []) zdO Z <| TK (t := 11) Z (Vb (Dt g2)) <| zam Z Z <| Q <| zaB (u := .bool _) (Vb (Dt g2)) Z <| AB Z <| G <| zai func18 Z (TP (v := .bool _) Z) ?_
   exact ⟨Vb (by first | (simp; done) | (simp; omega) | simp_all),V.pure⟩
  refine OM (t:=11) Z (Vb (Df g2)) Z<|OM (t:=11) Z (Vb (Df g2)) Z<|OM (t:=11) Z (Vb (Df g2)) Z<|OM (t:=11) Z (Vb (Df g2)) Z<|Q<|zax (u:=.bool _) (Vb (Df g2)) Z<|AB Z<|G<|zai func18 Z (TP (v:=.bool _) Z) ?_
  exact ⟨Vb (by first | (simp; done) | (simp; omega) | simp_all),V.pure⟩
 refine OM (t:=6) Z (Vb (Df g1)) Z<|OM (t:=6) Z (Vb (Df g1)) Z<|OM (t:=6) Z (Vb (Df g1)) Z<|Q<|zax (u:=.bool _) (Vb (Df g1)) Z<|MB Z<|OM (t:=11) Z (Vb (Z:false = _)) Z<|OM (t:=11) Z (Vb (Z:false = _)) Z<|OM (t:=11) Z (Vb (Z:false = _)) Z<|OM (t:=11) Z (Vb (Z:false = _)) Z<|Q<|zax (u:=.bool _) (Vb (Z:false = _)) Z<|AB Z<|G<|zai func18 Z (TP (v:=.bool _) Z) ?_
 exact ⟨Vb (by first | (simp; done) | (simp; omega) | simp_all),V.pure⟩
theorem InstL.Sm.len9 {y:InstP} (h:y.L.Sm):y.args.length ≤ 9000000000000000000:=by
 have h1:=zh7 y.args
 have h2:(y.args.map zaT).sum ≤ 900000000:=h.1
 omega
end Go.SK
namespace Go.SK
open Go Go.Proofs Go.Proofs.Tryz
theorem ent24:zaG prog 24:=⟨f24,_,func24,Kr,rfl⟩
open Go.RowKit
theorem zsd  (w:World):Ret prog 24 #[] w (fun v w'=>∃ bS,v = .slice (some ⟨bS,0,none⟩) topB.length topB.length ∧ St w NoM [Res.row bS 5 (topB.flatMap byC)] [] w'):=by
 refine zav (args:=[]) func24 Z Z Z ?_
 have V:=St.init w
 refine SR<|AL Z<|NSR<|Q (zaI (z0:=[.int .u8 0,.int .u8 0,.int .u8 0,.int .u8 0,.int .u8 0,.int .u8 0,.int .u8 0,.int .u8 0,.int .u8 0,.int .u8 0,.int .u8 0,.int .u8 0,.int .u8 0,.int .u8 0,.int .u8 0,.int .u8 0,.int .u8 0,.int .u8 0,.int .u8 0,.int .u8 0,.int .u8 0,.int .u8 0,.int .u8 0,.int .u8 0,.int .u8 0,.int .u8 0,.int .u8 0,.int .u8 0]) V zb9 ty5 Z Z Kr (.c (v:=.int .u8 _) Z (h:=(.c (v:=.int .u8 _) Z (h:=(.c (v:=.int .u8 _) Z (h:=(.c (v:=.int .u8 _) Z (h:=(.c (v:=.int .u8 _) Z (h:=(.c (v:=.int .u8 _) Z (h:=(.c (v:=.int .u8 _) Z (h:=(.c (v:=.int .u8 _) Z (h:=(.c (v:=.int .u8 _) Z (h:=(.c (v:=.int .u8 _) Z (h:=(.c (v:=.int .u8 _) Z (h:=(.c (v:=.int .u8 _) Z (h:=(.c (v:=.int .u8 _) Z (h:=(.c (v:=.int .u8 _) Z (h:=(.c (v:=.int .u8 _) Z (h:=(.c (v:=.int .u8 _) Z (h:=(.c (v:=.int .u8 _) Z (h:=(.c (v:=.int .u8 _) Z (h:=(.c (v:=.int .u8 _) Z (h:=(.c (v:=.int .u8 _) Z (h:=(.c (v:=.int .u8 _) Z (h:=(.c (v:=.int .u8 _) Z (h:=(.c (v:=.int .u8 _) Z (h:=(.c (v:=.int .u8 _) Z (h:=(.c (v:=.int .u8 _) Z (h:=(.c (v:=.int .u8 _) Z (h:=(.c (v:=.int .u8 _) Z (h:=(.c (v:=.int .u8 _) Z (h:=.nil)))))))))))))))))))))))))))))))))))))))))))))))))))))))) fun w b1 V=>?_)
 refine AL Z<|G<|zai func24 Z (TP (v:=.slice _ _ _) Z) ?_
 exact ⟨_,Z,V⟩
theorem zsH (b:List UInt8) (ao:Option Addr) (cp:Nat) (w:World) (hG:LxG.holds w) (hA0:(Res.rs ao b.length 1 (b.flatMap byC)).holds w) (hb:b.length ≤ 140737488355328):Ret prog 4 #[.slice ao b.length cp] w (fun v w'=>v = .bool true ∧ St w NoM [] [] w'):=by
 refine zav (args:=[.slice ao b.length cp]) func4 Z Z Z ?_
 have V:St w NoM [] [LxG,Res.rs ao b.length 1 (b.flatMap byC)] w:=St.init_Ds (by simp only [List.forall_mem_cons]; exact ⟨hG,hA0,fun _ h=>absurd h List.not_mem_nil⟩)
 obtain ⟨gn,bd,il,e,a,hD⟩:∃ gn bd il e a,za2 b = ((gn,bd,il),(e,a)):=⟨_,_,_,_,_,rfl⟩
 obtain ⟨tx,se,sa,hB⟩:∃ tx se sa,zfB b = (tx,(se,sa)):=⟨_,_,_,rfl⟩
 have hbs:=zg1 hB hD
 have hbe:=znU hB hD
 refine SR<|AB Z<|NSR<|Q (zei  ent24 Z  ((zsd _).mono fun v w hp=>?_))
 obtain ⟨bS,rfl,hp⟩:=hp
 replace V:St _ _ (_ :: _) _ _:=V.call0 hp
 refine Q (zao (v1:=.slice _ _ _) zwz Z Z ((zhN zq9 _ _ _ (zxf (V.hL _ Q0) Z) De).mono fun v w hp=>?_))
 obtain ⟨aO1,cO1,dO1,rfl,hdO1,hp⟩:=hp
 replace V:St _ _ (_ :: _) _ _:=V.call0 hp
 have htop:=zxS hdO1
 have htl1:=htop.1
 refine Q<|zad (v:=.tuple #[zc7 _ _ _ _ _,gII _ _]) Z<|Q<|Ex (zc7 _ _ _ _ _) Z Z<|Q<|Ex (gII _ _) Z Z<|Q<|zar V zcx fun w b3 V=>Q<|zar V zaV fun w b4 V=>Q (SO (v:=zc7 _ _ _ _ _) V zcx Z Z .u1 fun w V=>?_)
 refine Q (SO (v:=gII _ _) V zaV Z Z .u0 fun w V=>?_)
 refine G<|SQ<|SR<|Q<|zaa zbB Z<|Q<|zae (v:=.int .i64 _) zdQ Z Z (V.cellL Q0 Z)<|Q<|zaF Z Z<|MB Z<|zau (d:=21) Z (fun g1=>?_) (fun g1=>?_)
 ·exfalso
  exact g1 Z
 refine TK (t:=21) Z (Vb (Df g1))<|zaa zfg Z<|TK (t:=21) Z (Vb (Df g1))<|zae (v:=.int .u32 _) za9 Z Z (V.cellL Q1 Z)<|TK (t:=21) Z (Vb (Df g1))<|zaF Z Z<|Q<|zax (u:=.bool _) (Vb (Df g1)) Z<|MB Z<|zau (d:=26) Z (fun g2=>?_) (fun g2=>?_)
 ·exfalso
  exact g2 Z
 refine TK (t:=26) Z (Vb (Df g2))<|zaa zcZ Z<|TK (t:=26) Z (Vb (Df g2))<|zae (v:=.int .u32 _) za9 Z Z (V.cellL Q1 Z)<|TK (t:=26) Z (Vb (Df g2))<|zaF Z Z<|Q<|zax (u:=.bool _) (Vb (Df g2)) Z<|MB Z<|zau (d:=31) Z (fun g3=>?_) (fun g3=>?_)
 ·exfalso
  exact g3 Z
 refine TK (t:=31) Z (Vb (Df g3))<|zaa zbX Z<|TK (t:=31) Z (Vb (Df g3))<|zae (v:=.slice _ _ _) zdO Z Z (V.cellL Q1 Z)<|TK (t:=31) Z (Vb (Df g3))<|zaH (rest:=[]) zdO Z<|TK (t:=31) Z (Vb (Df g3))<|zaF Z Z<|Q<|zax (u:=.bool _) (Vb (Df g3)) Z<|MB Z<|zau (d:=37) Z (fun g4=>?_) (fun g4=>?_)
 ·exfalso
  omega
 refine TK (t:=37) Z (Vb (Df g4))<|zaa zbX Z<|TK (t:=37) Z (Vb (Df g4))<|zae (v:=.slice _ _ _) zdO Z Z (V.cellL Q1 Z)<|TK (t:=37) Z (Vb (Df g4))<|zaR zdO zbo (Res.rmod_insts (Res.rmod_of_omod (V.hL _ Q2))) Z Z O O<|TK (t:=37) Z (Vb (Df g4))<|zaa zfW Z<|TK (t:=37) Z (Vb (Df g4))<|zae (v:=.int .u16 _) zlC Z Z (Res.rs2_cellF (Res.rmod_insts (Res.rmod_of_omod (V.hL _ Q2))) (zcO (g:=zdK) (d:=zeroI) zcM Z O))<|TK (t:=37) Z (Vb (Df g4))<|zaF Z Z<|Q<|zax (u:=.bool _) (Vb (Df g4)) Z<|G<|zaj [(0,.slice _ _ _),(3,Pp _ _),(4,Pp _ _),(44,.bool _)] E4 fun f=>zab Z (fun g5=>?_) (fun g5=>?_)
 ·exfalso
  exact g5 htop.2
 refine zag<|SR<|ML Z<|Q (zao (v1:=.slice _ _ _) zwy Z Z ((zdF b _ _ _ (V.hD _ Q1) hb).mono fun v w hp=>?_))
 obtain ⟨bC2,rfl,hp⟩:=hp
 replace V:St _ _ (_ :: _) _ _:=V.call0 hp
 refine Q (zao (v1:=.slice _ _ _) zwz Z Z ((zhN hD _ _ _ (Res.rs_of_sl (V.hL _ Q0)) hb).mono fun v w hp=>?_))
 obtain ⟨aO2,cO2,dO2,rfl,hdO2,hp⟩:=hp
 replace V:St _ _ (_ :: _) _ _:=V.call0 hp
 refine Q<|zad (v:=.tuple #[zc7 _ _ _ _ _,gII _ _]) Z<|Q<|Ex (zc7 _ _ _ _ _) Z Z<|Q<|Ex (gII _ _) Z Z<|Q (SO (v:=zc7 _ _ _ _ _) V zcx Z Z .u3 fun w V=>?_)
 refine Q (SO (v:=gII _ _) V zaV Z Z .u2 fun w V=>?_)
 refine G<|SQ<|SR<|Q<|zaa zbB Z<|Q<|zae (v:=.int .i64 _) zdQ Z Z (V.cellL Q2 Z)<|Q<|zaF Z Z<|G<|zab Z (fun g6=>?_) (fun g6=>?_)
 ·obtain ⟨rfl, rfl, rfl⟩ := (zf1 hD).1 g6
  have hz0:dO2.length = 0:=by simpa using congrArg List.length hdO2
  refine SR<|Q<|zay (vs:=zh8 _ _ _ _ _) zcx Z Z Z (zac (n:=3) (V.objL Q3) _ Z)<|Q<|zao (v1:=zc7 _ _ _ _ _) ent18 Z Z<|zqS (zsi 0 0 dO2.length _ _ _) (Vb (Dt ⟨Z,Z,hz0⟩)) V fun w V=>AB Z<|G<|zai func4 Z (TP (v:=.bool _) Z) ?_
  first | exact ⟨rfl,V.pure⟩ | exact ⟨Vb (Dt rfl),V.pure⟩
 have he0:e = 0:=Nn g6
 obtain ⟨⟨hse,hsa⟩,⟨htl,hpx⟩,hT,hE,hSh,hgn,hgb,hui,ha0⟩:=hbs.2 he0
 subst hse
 subst hsa
 have hsm:=zhG hD hdO2
 refine zag<|SR<|Q<|zay (vs:=zh8 _ _ _ _ _) zcx Z Z Z (zac (n:=3) (V.objL Q3) _ Z)<|Q (zao (v1:=zc7 _ _ _ _ _) zwB Z Z ((zdn _ _ dO2 _ _ _ (Res.rmod_of_omod (V.hL _ Q0)) hsm.lenC hsm.laC).mono fun v w hp=>?_))
 obtain ⟨bM1,dM1,rfl,hdM1,hp⟩:=hp
 replace V:St _ _ (_ :: _) _ _:=V.call0 hp
 refine Q (zao (v1:=zc7 _ _ _ _ _) zyA rfl rfl ((zj9 (bs:=b) (se:=0) (sa:=0) (by rw [hdM1,hdO2]; exact hE) _ _ _ (Res.rmod_of_omod (V.hL _ Q0)) (Small.of hdM1 hsm)).mono fun v w hp=>?_))
 obtain ⟨asE,rsE,rfl,hp⟩:=hp
 replace V:St _ _ (_ :: _) _ _:=V.call0 hp
 refine Q<|zad (v:=.tuple #[.slice _ _ _,gII _ _]) Z<|Q<|Ex (.slice _ _ _) Z Z<|Q<|Ex (gII _ _) Z Z<|Q<|zar V zaV fun w b6 V=>AL Z<|Q (SO (v:=gII _ _) V zaV Z Z .u0 fun w V=>?_)
 refine G<|SQ<|SR<|Q<|zay (vs:=lII _ _) zaV Z Z Z (zac (n:=2) (V.objL Q0) _ Z)<|Q (zaf zaV zbW .nil ?_)
 refine Q<|zhS (xs:=(lII _ _)) (ys:=(lII _ _)) Z Z Kr (zcA underlying28 Kr (.cons De (PartOk.one zdQ Z Z) (PartOk.one zdQ Z Z) (zcc zdQ) (.cons De (PartOk.one ty3 Z Z) (PartOk.one ty3 Z Z) (zcc ty3) .nil)))<|MB Z<|zcg (d:=65) Z (fun g7=>?_) (fun g7=>?_)
 ·exfalso
  simp at g7
 refine TK (t:=65) Z (Vb g7)<|zad (v:=.slice _ _ _) Z<|TK (t:=65) Z (Vb g7)<|zad (v:=.slice _ _ _) Z<|TK (t:=65) Z (Vb g7) (zaE (v1:=.slice _ _ _) (v2:=.slice _ _ _) zyz Z Z Z ((zig b b _ _ _ _ _ (Res.rs_of_sl (V.hL _ Q1)) (V.hD _ Q1) O).mono fun v w hp=>?_))
 obtain ⟨he,hp⟩:=hp
 replace he:=he.trans (Vb (Dt rfl))
 subst he
 replace V:=V.keepc hp
 refine TK (t:=65) Z (Vb g7)<|zaU Z<|Q<|zax (u:=.bool _) (Vb g7) Z<|MB Z<|TK (t:=71) Z (Vb (congrArg not (Z:true = _)))<|zay (vs:=zh8 _ _ _ _ _) zcx Z Z Z (zac (n:=3) (V.objL Q6) _ Z)<|TK (t:=71) Z (Vb (congrArg not (Z:true = _))) (zao (v1:=zc7 _ _ _ _ _) zwB Z Z ((zdn _ _ dO2 _ _ _ (Res.rmod_of_omod (V.hL _ Q3)) hsm.lenC hsm.laC).mono fun v w hp=>?_))
 obtain ⟨bM3,dM3,rfl,hdM3,hp⟩:=hp
 replace V:St _ _ (_ :: _) _ _:=V.call0 hp
 refine TK (t:=71) rfl (Vb (congrArg not (rfl:true = _))) (zao (v1:=zc7 _ _ _ _ _) ent19 rfl rfl ((zj8 (se:=0) (sa:=0) (by rw [hdM3,hdO2]; exact hSh) _ _ _ (Res.rmod_of_omod (V.hL _ Q0)) (Small.of hdM3 hsm)).mono fun v w hp=>?_))
 obtain ⟨rfl,hp⟩:=hp
 replace V:=V.keepc hp
 refine TK (t:=71) Z (Vb (congrArg not (Z:true = _))) (zaf zaV zbW .nil ?_)
 refine TK (t:=71) Z (Vb (congrArg not (Z:true = _)))<|zhS (xs:=(lII _ _)) (ys:=(lII _ _)) Z Z Kr (zcA underlying28 Kr (.cons De (PartOk.one zdQ Z Z) (PartOk.one zdQ Z Z) (zcc zdQ) (.cons De (PartOk.one ty3 Z Z) (PartOk.one ty3 Z Z) (zcc ty3) .nil)))<|Q<|zax (u:=.bool _) (Vb (congrArg not (Z:true = _))) Z<|G<|zaj [(0,.slice _ _ _),(3,Pp _ _),(6,Pp _ _),(77,.bool _)] E4 fun f=>zaQ Z (fun g8=>?_) (fun g8=>?_)
 ·exfalso
  simp at g8
 refine zag<|SR<|Q<|zay (vs:=zh8 _ _ _ _ _) zcx Z Z Z (zac (n:=3) (V.objL Q7) _ Z)<|Q (zao (v1:=zc7 _ _ _ _ _) zwB Z Z ((zdn _ _ dO2 _ _ _ (Res.rmod_of_omod (V.hL _ Q4)) hsm.lenC hsm.laC).mono fun v w hp=>?_))
 obtain ⟨bM4,dM4,rfl,hdM4,hp⟩:=hp
 replace V:St _ _ (_ :: _) _ _:=V.call0 hp
 refine Q<|zao (v1:=zc7 _ _ _ _ _) zwA rfl rfl<|Ret.det (zgu (x:=tx) (se:=0) (sa:=0) (by rw [hdM4,hdO2]; exact hT) _ _ _ (V.hD _ Q0) (Res.rmod_of_omod (V.hL _ Q0)) (Small.of hdM4 hsm) (zsZ (hdM4.trans hdO2) hui) hgn hgb) V fun w V=>Q<|zad (v:=.tuple #[str _,gII _ _]) rfl<|Q<|Ex (str _) rfl rfl<|Q<|Ex (gII _ _) rfl rfl<|Q<|zar V zaV fun w b8 V=>AS rfl<|Q (SO (v:=gII _ _) V zaV rfl rfl .u0 fun w V=>?_)
 refine G<|SQ<|SR<|Q<|zay (vs:=lII _ _) zaV Z Z Z (zac (n:=2) (V.objL Q0) _ Z)<|Q (zaf zaV zbW .nil ?_)
 refine Q<|zhS (xs:=(lII _ _)) (ys:=(lII _ _)) Z Z Kr (zcA underlying28 Kr (.cons De (PartOk.one zdQ Z Z) (PartOk.one zdQ Z Z) (zcc zdQ) (.cons De (PartOk.one ty3 Z Z) (PartOk.one ty3 Z Z) (zcc ty3) .nil)))<|G<|zaQ Z (fun g9=>?_) (fun g9=>?_)
 ·exfalso
  simp at g9
 refine zag<|SQ<|SR<|MS Z<|Q<|zbb (rest:=[]) ty9 Z<|Q<|zbI Z Z<|G<|zab Z (fun g10=>?_) (fun g10=>?_)
 ·exfalso
  omega
 refine zag<|SR<|MS Z<|Q (zao (v1:=str _) ent17 Z Z ((zkg hpx _ (V.hD _ Q0) O).mono fun v w hp=>?_))
 obtain ⟨aO3,cO3,dO3,hdO3,rfl,hsO3,hp⟩:=hp
 replace V:St _ _ (_ :: _) _ _:=V.call0 hp
 refine Q<|zad (v:=.tuple #[zc7 _ _ _ _ _,gII _ _]) Z<|Q<|Ex (zc7 _ _ _ _ _) Z Z<|Q<|Ex (gII _ _) Z Z<|Q<|zar V zcx fun w b9 V=>Q<|zar V zaV fun w b10 V=>Q (SO (v:=zc7 _ _ _ _ _) V zcx Z Z .u1 fun w V=>?_)
 refine Q (SO (v:=gII _ _) V zaV Z Z .u0 fun w V=>?_)
 refine G<|zaj [(0,.slice _ _ _),(3,Pp _ _),(6,Pp _ _),(7,str _),(9,Pp _ _),(10,Pp _ _)] E6 fun f=>SQ<|SR<|Q<|zay (vs:=lII _ _) zaV Z Z Z (zac (n:=2) (V.objL Q0) _ Z)<|Q (zaf zaV zbW .nil ?_)
 refine Q<|zhS (xs:=(lII _ _)) (ys:=(lII _ _)) Z Z Kr (zcA underlying28 Kr (.cons De (PartOk.one zdQ Z Z) (PartOk.one zdQ Z Z) (zcc zdQ) (.cons De (PartOk.one ty3 Z Z) (PartOk.one ty3 Z Z) (zcc ty3) .nil)))<|MB Z<|zcg (d:=98) Z (fun g11=>?_) (fun g11=>?_)
 ·exfalso
  simp at g11
 refine TK (t:=98) Z (Vb g11)<|zay (vs:=zh8 _ _ _ _ _) zcx Z Z Z (zac (n:=3) (V.objL Q1) _ Z)<|TK (t:=98) Z (Vb g11)<|zay (vs:=zh8 _ _ _ _ _) zcx Z Z Z (zac (n:=3) (V.objL Q12) _ Z)<|TK (t:=98) Z (Vb g11) (zaE (v1:=zc7 _ _ _ _ _) (v2:=zc7 _ _ _ _ _) ent22 Z Z Z ((zpv _ _ _ _ dO3 dO2 _ _ _ _ _ (Res.rmod_of_omod (V.hL _ Q2)) (Res.rmod_of_omod (V.hL _ Q9)) (by have:=hsO3.1; omega) (fun i hi=>(hsO3.2 i hi).len9)).mono fun v w hp=>?_))
 obtain ⟨he,hp⟩:=hp
 replace he:=he.trans (Vb (zro (hdO3.trans hdO2.symm)))
 subst he
 replace V:=V.keepc hp
 refine TK (t:=98) rfl (Vb g11)<|zaU rfl<|Q<|zax (u:=.bool _) (Vb g11) rfl<|G<|zal (Vb (congrArg not (rfl:true = _)))<|zag<|SR<|Q<|zay (vs:=zh8 _ _ _ _ _) zcx rfl rfl rfl (zac (n:=3) (V.objL Q1) _ rfl)<|Q (zao (v1:=zc7 _ _ _ _ _) zyA rfl rfl ((zj9 (bs:=b) (se:=0) (sa:=0) (by rw [hdO3]; exact hE) _ _ _ (Res.rmod_of_omod (V.hL _ Q2)) (Small.ofSm hsO3.1 hsO3.2)).mono fun v w hp=>?_))
 obtain ⟨asF,rsF,rfl,hp⟩:=hp
 replace V:St _ _ (_ :: _) _ _:=V.call0 hp
 refine Q<|zad (v:=.tuple #[.slice _ _ _,gII _ _]) Z<|Q<|Ex (.slice _ _ _) Z Z<|Q<|Ex (gII _ _) Z Z<|AL Z<|Q (SO (v:=gII _ _) V zaV Z Z .u7 fun w V=>?_)
 refine NSR<|ML Z<|Q (zao (v1:=.slice _ _ _) zwy Z Z ((zdF b _ _ _ (V.hD _ Q1) hb).mono fun v w hp=>?_))
 obtain ⟨bC5,rfl,hp⟩:=hp
 replace V:St _ _ (_ :: _) _ _:=V.call0 hp
 refine Q<|zao (v1:=.slice _ _ _) ent28 rfl rfl<|Ret.det (zka (x:=tx) (se:=0) (sa:=0) (by rw [hB]) _ _ _ (V.hD _ Q0) (Res.rs_of_sl (V.hL _ Q0)) hb) V fun w V=>Q<|zad (v:=.tuple #[str _,gII _ _]) rfl<|Q<|Ex (str _) rfl rfl<|Q<|Ex (gII _ _) rfl rfl<|Q<|zar V zaV fun w b12 V=>AS rfl<|Q (SO (v:=gII _ _) V zaV rfl rfl .u0 fun w V=>?_)
 refine G<|zaj [(0,.slice _ _ _),(5,.slice _ _ _),(6,Pp _ _),(7,str _),(11,str _),(12,Pp _ _)] E6 fun f=>SR<|Q<|zay (vs:=lII _ _) zaV Z Z Z (zac (n:=2) (V.objL Q9) _ Z)<|Q (zaf zaV zbW .nil ?_)
 refine Q<|zmu (xs:=(lII _ _)) (ys:=(lII _ _)) Z Z Kr (zcA underlying28 Kr (.cons De (PartOk.one zdQ Z Z) (PartOk.one zdQ Z Z) (zcc zdQ) (.cons De (PartOk.one ty3 Z Z) (PartOk.one ty3 Z Z) (zcc ty3) .nil)))<|MB Z<|zcg (d:=118) Z (fun g12=>?_) (fun g12=>?_)
 ·refine TK (t := 118) Z (Vb g12) <| zad (v := .slice _ _ _) Z <| TK (t := 118) Z (Vb g12) <| zad (v := .slice _ _ _) Z <| TK (t := 118) Z (Vb g12) (zaE (v1 := .slice _ _ _) (v2 := .slice _ _ _) zyz Z Z Z ((zig b b _ _ _ _ _ (Res.rs_of_sl (V.hL _ Q2)) (V.hD _ Q1) O).mono fun v w hp => ?_))
  obtain ⟨he,hp⟩:=hp
  replace he:=he.trans (Vb (Dt rfl))
  subst he
  replace V:=V.keepc hp
  refine Q<|zaB (u:=.bool _) (Vb g12) Z<|MB Z<|TK (t:=123) Z (Vb (Z:true = _))<|zay (vs:=lII _ _) zaV Z Z Z (zac (n:=2) (V.objL Q0) _ Z)<|TK (t:=123) Z (Vb (Z:true = _)) (zaf zaV zbW .nil ?_)
  refine TK (t:=123) Z (Vb (Z:true = _))<|zmu (xs:=(lII _ _)) (ys:=(lII _ _)) Z Z Kr (zcA underlying28 Kr (.cons De (PartOk.one zdQ Z Z) (PartOk.one zdQ Z Z) (zcc zdQ) (.cons De (PartOk.one ty3 Z Z) (PartOk.one ty3 Z Z) (zcc ty3) .nil)))<|Q<|zaB (u:=.bool _) (Vb (Z:true = _)) Z<|MB Z<|zcg (d:=128) Z (fun g13=>?_) (fun g13=>?_)
  ·refine TK (t := 128) Z (Vb g13) <| zad (v := str _) Z <| TK (t := 128) Z (Vb g13) <| zad (v := str _) Z <| TK (t := 128) Z (Vb g13) <| zcu Z Z <| Q <| zaB (u := .bool _) (Vb g13) Z <| AB Z <| G <| zai func4 Z (TP (v := .bool _) Z) ?_
   first | exact ⟨rfl,V.pure⟩ | exact ⟨Vb (Dt rfl),V.pure⟩
  exfalso
  first | exact g13 rfl | (simp at g13; done) | omega
 exfalso
 first | exact g12 rfl | (simp at g12; done) | omega
end Go.SK
