/-
  Steps of functions,plain law,and walks of functions: what the laws rest on.
-/
import Derived.Test.YtglmmdpeenckbaaGreatDoorSkV0b
set_option linter.unusedVariables false
set_option linter.unusedSimpArgs false
set_option linter.unusedSectionVars false
namespace Go.SK
open Go.RowKit
theorem zgE {bd:Int}:∀ (l:List InstL) (n k:Nat),(zbY bd n k l).1 = 0 → ∀ i ∈ l,zbg bd i = 0
  | [],_,_,_=>fun i hi=>by cases hi
  | i :: l, n, k, hs => by
    unfold zbY at hs
    split at hs
    · rename_i h; exact absurd hs h
    rename_i hf
    split at hs
    · cases hs
    intro j hj
    rcases List.mem_cons.1 hj with rfl | hj
    · exact Nn hf
    · exact zgE l _ _ hs j hj
theorem zjR {bd:Int} {l:List InstL} (hs:(zbG bd l).1 = 0):∀ i ∈ l,zbg bd i = 0:=by
  unfold zbG at hs
  split at hs
  · cases hs
  · exact zgE l _ _ hs
theorem zdL:za0 [] = []:=rfl
theorem zd4 (i:InstL) (l:List InstL):za0 (i :: l) = wtF i ++ 10 :: za0 l:=by
  unfold za0; rw [List.flatMap_cons]; simp
theorem zeV (l m:List InstL):za0 (l ++ m) = za0 l ++ za0 m:=by unfold za0; rw [List.flatMap_append]
theorem zfl {l:List InstL} {k:Nat} {y:InstL} (hk:l[k]? = some y):za0 (l.take (k + 1)) = za0 (l.take k) ++ (wtF y ++ [10]):=by
  rw [List.take_add_one,hk,zeV]
  show _ ++ za0 [y] = _
  rw [zd4,zdL]
theorem zd3 (l:List InstL) (k:Nat):(za0 (l.take k)).length ≤ (za0 l).length:=by
  have h:za0 l = za0 (l.take k) ++ za0 (l.drop k):=by rw [← zeV,List.take_append_drop]
  rw [h,List.length_append]; omega
theorem zqY {i:InstL} (hu:i.U32):(wtI i).length + 1 ≤ 216 * zbD (za5 i.op) i.args:=by
  have h1:=zk9 hu
  have h2:=zla (fm:=za5 i.op) i.args 0 hu.args
  unfold wtI zbD
  rw [List.length_append]; omega
theorem zhH {bd:Int}:∀ (l:List InstL) (n k:Nat),n ≤ 1048576 → (zbY bd n k l).1 = 0 → (∀ i ∈ l,i.U32) → (za0 l).length + 216 * n ≤ 226492416
  | [],n,k,hn,_,_=>by show 0 + 216 * n ≤ 226492416; omega
  | i :: l, n, k, hn, hs, hu => by
    unfold zbY at hs
    split at hs
    · rename_i h; exact absurd hs h
    rename_i hf
    split at hs
    · cases hs
    have ih:=zhH l _ (k + 1) O hs (fun j hj=>hu j (.tail _ hj))
    have h1:=zqY (hu i (.head _))
    rw [zl8 (Nn hf) (hu i (.head _))] at h1
    rw [zd4,List.length_append,List.length_cons]; omega
theorem zdM {bd:Int} {l:List InstL} (hs:(zbG bd l).1 = 0) (hu:∀ i ∈ l,i.U32):(za0 l).length ≤ 226492416:=by
  unfold zbG at hs
  split at hs
  · cases hs
  · have:=zhH l 5 0 O hs hu; omega
theorem zmE {bd:Int} {l:List InstP} {k:Nat} (hs:(zbG bd (l.map InstP.L)).1 = 0) (hu:∀ x ∈ l,x.L.U32) (hk:k < l.length) :
    (l.map InstP.L)[k]? = some (l.getD k zeroI).L ∧ wtI (l.getD k zeroI).L = wtF (l.getD k zeroI).L ∧ (wtI (l.getD k zeroI).L).length ≤ 226492416:=by
  have hg:=ztz (l:=l) hk
  have hm:(l.getD k zeroI).L ∈ l.map InstP.L:=List.mem_of_getElem? hg
  have he:=zl8 (zjR hs _ hm) (zsG hu _ hm)
  refine ⟨hg,he,?_⟩
  have h1:=zfl hg
  have h2:=zd3 (l.map InstP.L) (k + 1)
  have h3:=zdM hs (zsG hu)
  rw [h1,List.length_append,List.length_append] at h2
  rw [he]; omega
end Go.SK
namespace Go.SK
open Go Go.Proofs Go.Proofs.Tryz
theorem ty3:TyF prog 3 (.int .i64) 1 8 [.int .i64 0]:=zbw Kr Kr
theorem ent195:zaJ prog 195:=⟨f195,_,func195,Kr,rfl⟩
theorem ztd:TyF prog 258 (.array 24 5) 24 24 [.int .u8 0,.int .u8 0,.int .u8 0,.int .u8 0,.int .u8 0,.int .u8 0,.int .u8 0,.int .u8 0,.int .u8 0,.int .u8 0,.int .u8 0,.int .u8 0,.int .u8 0,.int .u8 0,.int .u8 0,.int .u8 0,.int .u8 0,.int .u8 0,.int .u8 0,.int .u8 0,.int .u8 0,.int .u8 0,.int .u8 0,.int .u8 0]:=zbw Kr Kr
theorem ent196:zaJ prog 196:=⟨f196,_,func196,Kr,rfl⟩
theorem ent197:zaJ prog 197:=⟨f197,_,func197,Kr,rfl⟩
theorem zgh:TyF prog 38 (.slice 5) 1 24 [.slice none 0 0]:=zbw Kr Kr
theorem ent151:zaJ prog 151:=⟨f151,_,func151,Kr,rfl⟩
open Go.RowKit
theorem lx_FB (b u k:Nat) (xs:List Value) (hx:xs = List.replicate 24 (Value.int .u8 0)) (w:World) (hR:(Res.row b 258 xs).holds w) (hk:k = Lib.nDigits u) (hu:u < 4294967296):Ret prog 197 #[.slice (some ⟨b,0,none⟩) k 24,.int .u64 (u:Int)] w (fun v w'=>∃ ys,(ys.drop 0).take k = (Lib.decDigits u).flatMap byC ∧ v = .tuple #[] ∧ St w (Res.row b 258 xs).foot [Res.row b 258 ys] [] w'):=by
 have h10:Lib.nDigits u ≤ 10:=zeT (u:=u) (k:=9) O
 have hsz:(Array.replicate k (0:UInt8)).size = k:=by simp
 have hpow:=Lib.lt_pow_nDigits u
 have hc:=Any.internal_strconv_formatBase10 znJ b 0 24 u (Array.replicate k (0:UInt8)) w (fun j hj=>?_) (by rw [hsz,hk]; exact hpow) (by omega) (by rw [hsz]; omega)
 ·rw [hsz] at hc
  refine Calls.mono hc ?_
  rintro e w' ⟨he,n,v',dk,rfl,hf⟩
  obtain ⟨hkp,hnew⟩:=zlv (fun (b:UInt8)=>Value.int .u8 (b.toNat:Int)) w b 0 dk n hR
  refine ⟨_,he,_,?_,rfl,(St.enter1 hR (fun d hd=>by cases hd) (fun d hd=>by cases hd)).upd .here hkp (r':=Res.row b 258 (Sort.putCells (fun (b:UInt8)=>Value.int .u8 (b.toNat:Int)) 0 dk xs.toArray).toList) ?_ (fun c hc=>.inl hc)⟩
  ·rw [List.drop_zero]; exact ztJ hf hk xs (by rw [hx,List.length_replicate]; omega)
  ·show _ = some _
   rw [hnew]
 ·rw [hsz] at hj
  have hR':w.heap[b]? = some (.cells xs.toArray 258 (0,0)):=hR
  refine ⟨?_,by simp [World.frozen?,hR']⟩
  have hx2:xs[j]? = some (.int .u8 0):=by rw [hx,List.getElem?_replicate,if_pos (by omega)]
  simp [World.cell?,hR',hx2,hj]
theorem zsn (u:Nat) (hu:u < 4294967296) (w:World) (hG:LxG.holds w):Ret prog 151 #[.int .u64 (u:Int),.int .i64 10] w (fun v w'=>v = str (Lib.decDigits u) ∧ St w NoM [] [] w'):=by
 refine zax (args:=[.int .u64 (u:Int),.int .i64 10]) func151 Z Z Z ?_
 have V:St w NoM [] [LxG] w:=St.init_Ds (by simp only [List.forall_mem_cons]; exact ⟨hG,fun _ h=>absurd h List.not_mem_nil⟩)
 have h10:Lib.nDigits u ≤ 10:=zeT (u:=u) (k:=9) O
 have hpos:=Lib.nDigits_pos u
 refine SR<|AS Z<|G<|SQ<|SR<|MI Z<|Q<|zai Z Z<|G<|zaa Z (fun g1=>?_) (fun g1=>?_)
 ·refine SQ <| SR <| Q <| zad (v := .int .u64 _) Z <| Q <| zaY Z Z <| G <| zaa Z (fun g2 => ?_) (fun g2 => ?_)
  ·refine SR <| Q (zad (v := .int .u64 _) Z ?_)
   first | refine Q (zaW zbX ty3 rfl zbS ?_) | refine Q (za4 zbX ty3 rfl ?_)
   refine Q<|zav (v1:=.int .i64 _) ent195 Z Z<|Ret.det (zrC u O _) V fun w V=>AS Z<|G<|zag func151 Z (TP (v:=str _) Z) ?_
   exact ⟨Z,V.pure⟩
  refine zaj<|SR<|Q<|zaw V ztd fun w b5 V=>NSR<|Q<|zad (v:=.int .u64 _) Z<|Q<|zav (v1:=.int .u64 _) ent196 Z Z<|Ret.det (zj9 u _ (V.hD _ Q0) O O) V fun w V=>AI Z<|NSR<|MI Z<|Q (zfc (hi:=Lib.nDigits u) ztd ty5 Z Z Z O ?_)
  refine Q<|zad (v:=.int .u64 _) Z<|Q (zaK (v1:=.slice _ _ _) (v2:=.int .u64 _) ent197 Z Z Z ((lx_FB b5 u _ _ Z _ (V.hL _ Q0) Z O).mono fun v w hp=>?_))
  obtain ⟨ys,hys,rfl,hp⟩:=hp
  replace V:=V.call1 hp
  replace V:St _ _ [Res.row b5 258 ys] _ _:=V
  refine NSR<|MI rfl<|Q<|zfc (hi:=Lib.nDigits u) ztd ty5 rfl rfl rfl (by omega)<|Q<|zcZ (l:=Lib.decDigits u) zgh ty5 ty9 rfl (zjr u).symm ⟨by rw [zd9 (es:=1) (fun _=>rfl),zjr,Nat.mul_one],.inr ⟨b5,0,rfl,zab (n:=Lib.nDigits u) (V.objL Q0) _ hys⟩⟩ rfl<|AS rfl<|G<|zag func151 rfl (TP (v:=str _) rfl) ?_
  exact ⟨Z,V.pure⟩
 exfalso
 exact g1 Z
theorem zt4 (u:Nat) (hu:u < 4294967296) (w:World) (hG:LxG.holds w):Ret prog 97 #[.int .u64 (u:Int),.int .i64 10] w (fun v w'=>v = str (Lib.decDigits u) ∧ St w NoM [] [] w'):=by
 refine zax (args:=[.int .u64 (u:Int),.int .i64 10]) func97 Z Z Z ?_
 have V:St w NoM [] [LxG] w:=St.init_Ds (by simp only [List.forall_mem_cons]; exact ⟨hG,fun _ h=>absurd h List.not_mem_nil⟩)
 refine SR<|AS Z<|NSR<|Q<|zad (v:=.int .u64 _) Z<|MI Z<|Q<|zaK (v1:=.int .u64 _) (v2:=.int .i64 _) ent151 Z Z Z<|Ret.det (zsn u hu _ (V.hD _ Q0)) V fun w V=>AS Z<|G<|zag func97 Z (TP (v:=str _) Z) ?_
 exact ⟨Z,V.pure⟩
end Go.SK
namespace Go.SK
open Go Go.Proofs Go.Proofs.Tryz
theorem zgi:TyF prog 251 (.int .i64) 1 8 [.int .i64 0]:=zbw Kr Kr
theorem ty170:TyF prog 170 (.int .u64) 1 8 [.int .u64 0]:=zbw Kr Kr
theorem zej:zaJ prog 187:=⟨f187,_,func187,Kr,rfl⟩
open Go.RowKit
theorem zn8 (s:Tx) (hl:s.length ≤ 8) (w:World):Ret prog 144 #[str s,.int .i64 16,.int .i64 32] w (fun v w'=>((∃ n,s.length ≠ 0 ∧ zcn s 0 = some n ∧ v = .tuple #[.int .u64 (n:Int),.nilIface]) ∨ ((s.length = 0 ∨ zcn s 0 = none) ∧ v = .tuple #[.int .u64 0,.iface 251 (.int .i64 2)])) ∧ St w NoM [] [] w'):=by
 refine zax (args:=[str s,.int .i64 16,.int .i64 32]) func144 Z Z Z ?_
 have V:=St.init w
 refine SR<|Q<|zao (v:=.int .u64 _) Z<|Q<|zao (v:=.nilIface) Z<|G<|SQ<|SR<|MS Z<|Q<|zdx Z Z<|G<|zaa Z (fun g1=>?_) (fun g1=>?_)
 ·refine SR <| Q <| zbu (v := .int .i64 _) zgi Z Z <| Q <| zao (v := .int .u64 _) Z <| Q <| zao (v := .iface _ _) Z <| G <| zah func144 Z (TP (v := .int .u64 _) Z) (TP (v := .iface _ _) Z) ?_
  subst g1
  exact ⟨.inr ⟨.inl Z,Z⟩,V.pure⟩
 refine zaj<|SR<|MI Z<|Q<|zai Z Z<|AB Z<|NSR<|MS Z<|AS Z<|G<|SQ<|zau<|SQ ?_
 refine RG<|MI Z<|Q<|zby Z Z<|MB Z<|zaz (d:=28) Z (fun g2=>?_) (fun g2=>?_)
 ·refine TK (t := 28) Z (Vb (Dt g2)) <| zad (v := .int .i64 _) Z <| TK (t := 28) Z (Vb (Dt g2)) <| zby Z Z <| Q <| zaE (u := .bool _) (Vb (Dt g2)) Z <| AB Z <| G <| zaa Z (fun g3 => ?_) (fun g3 => ?_)
  ·refine zaj <| zan <| SQ <| SR <| MI Z <| Q <| zai Z Z <| G <| zaa Z (fun g4 => ?_) (fun g4 => ?_)
   ·exfalso
    omega
   refine SR<|MI Z<|Q<|zaY Z Z<|MB Z<|zaz (d:=80) Z (fun g5=>?_) (fun g5=>?_)
   ·exfalso
    omega
   refine TK (t:=80) Z (Vb (Df g5))<|zad (v:=.int .i64 _) Z<|TK (t:=80) Z (Vb (Df g5))<|zbW Z Z<|Q<|zay (u:=.bool _) (Vb (Df g5)) Z<|G<|zal [(0,str _),(1,.int .i64 _),(2,.int .i64 _),(8,.bool _),(9,str _),(83,.bool _)] E6 fun f=>zaa Z (fun g6=>?_) (fun g6=>?_)
   ·exfalso
    omega
   refine zaj<|SR<|Q<|zao (v:=.int .u64 _) Z<|G<|SQ<|SR<|MI Z<|G<|zau<|SR<|Q<|zai Z Z<|AB Z ?_
   refine G<|zaa Z (fun g7=>?_) (fun g7=>?_)
   ·exfalso
    omega
   refine SR<|Q<|zai Z Z<|AB Z<|G<|zaa Z (fun g8=>?_) (fun g8=>?_)
   ·refine RG <| Q <| zao (v := .int .u64 _) Z <| G <| zan <| SR <| MI Z ?_
    first | refine Q (zaW ty3 ty170 rfl zfx ?_) | refine Q (za4 ty3 ty170 rfl ?_)
    refine Q<|zna (c:=4294967296) Z Z O De De<|Q<|zbV Z Z Z zfx<|Q<|zao (v:=.int .u64 _) Z<|NSR<|AB Z<|NSR<|Q<|zao (v:=.int .u64 _) Z<|G<|SQ<|SQ<|RG ?_
    refine MS Z<|Q<|zkZ V ty9 zgh ty5 Z fun w by_ cpb V=>Q<|zaQ (rest:=[]) zgh Z<|MI Z<|G<|zau<|zba<|za7 [(1,.int .i64 _),(8,.bool _),(9,str _),(10,.int .u64 _),(11,.int .u64 _),(99,.slice _ _ _),(100,.int .i64 _)] E7 (fun (qq:Nat × Nat)=>[(12,.bool false),(13,.int .u64 (qq.2:Int)),(101,.int .i64 (qq.1:Int))]) (fun (qq:Nat × Nat)=>[]) (fun (qq:Nat × Nat)=>qq.1 ≤ s.length ∧ qq.2 < 16 ^ qq.1 ∧ zcn s 0 = zcn (s.drop qq.1) qq.2) (fun (qq:Nat × Nat)=>s.length - qq.1) ((0,0)) V ⟨Nat.zero_le _,by decide,Z⟩ E3 ?_
    intro ⟨i,n⟩ f w V hJ ih9
    replace V:St _ _ ([] ++ [_]) _ _:=V
    replace hJ:i ≤ s.length ∧ n < 16 ^ i ∧ zcn s 0 = zcn (s.drop i) n:=hJ
    refine zbj (sl:=[(12,.bool false),(13,.int .u64 (n:Int)),(101,.int .i64 (i:Int))]) E3 ?_
    have hidx:(s.getD ((i:Int).toNat) 0).toNat = (s.getD i 0).toNat:=rfl
    have hidl:bits .or .u8 ((s.getD ((i:Int).toNat) 0).toNat:Int) 32 = bits .or .u8 ((s.getD i 0).toNat:Int) 32:=rfl
    have hlow:=ztB _ (s.getD i 0).toNat_lt
    refine SR<|Q<|zaY Z Z<|G<|SQ<|zaa Z (fun g10=>?_) (fun g10=>?_)
    ·have hp16 := zrv (i := i) O
     refine zaj<|SQ<|zau<|SR<|Q<|zbe zgh ty5 (V.hL _ Q0) Z Z O O<|Q<|zae (v:=.int .u8 _) ty5 Z Z (Res.rs2_cell (V.hL _ Q0) (zc3 (g:=byC) (d:=0) zjw Z O))<|AC Z<|NSR<|AC Z<|G<|SQ<|zau ?_
     refine SR<|MC Z<|Q<|zai Z Z<|MB Z<|zaz (d:=109) Z (fun g11=>?_) (fun g11=>?_)
     ·refine TK (t := 109) Z (Vb (Dt g11)) <| zad (v := .bool _) Z <| Q <| zaE (u := .bool _) (Vb (Dt g11)) Z <| AB Z <| G <| zaa Z (fun g12 => ?_) (fun g12 => ?_)
      ·exfalso
       omega
      refine SR<|MC Z<|Q<|zby Z Z<|MB Z<|zaz (d:=115) Z (fun g13=>?_) (fun g13=>?_)
      ·refine TK (t := 115) Z (Vb (Dt g13)) <| zad (v := .int .u8 _) Z <| TK (t := 115) Z (Vb (Dt g13)) <| zby Z Z <| Q <| zaE (u := .bool _) (Vb (Dt g13)) Z <| AB Z <| G <| zaa Z (fun g14 => ?_) (fun g14 => ?_)
       ·refine RG <| MC Z <| Q <| zbV Z Z Z Wu8 <| AC Z <| G <| zan <| zal [(1, .int .i64 _), (8, .bool _), (9, str _), (10, .int .u64 _), (11, .int .u64 _), (12, .bool _), (13, .int .u64 _), (16, .int .u8 _), (99, .slice _ _ _), (100, .int .i64 _), (101, .int .i64 _)] E11 fun f => SQ <| SR <| MC Z <| MI Z ?_
        first | refine Q (zaW ty3 ty5 rfl Wu8 ?_) | refine Q (za4 ty3 ty5 rfl ?_)
        refine Q<|zbh Z Z<|G<|zaa Z (fun g15=>?_) (fun g15=>?_)
        ·exfalso
         omega
        have hyd:zdB (s.getD i 0) = true:=Dt O
        have hwd:(zeg (s.getD i 0):Int) = ((s.getD i 0).toNat:Int) - 48:=by have hq:=of_decide_eq_true hyd; unfold zeg; split <;> (try split) <;> omega
        refine zaj<|SQ<|SR<|Q<|zad (v:=.int .u64 _) Z<|Q<|zad (v:=.int .u64 _) Z<|Q<|zbh Z Z<|G<|zaa Z (fun g16=>?_) (fun g16=>?_)
        ·exfalso
         omega
        refine zaj<|SR<|Q<|zad (v:=.int .u64 _) Z<|MI Z ?_
        first | refine Q (zaW ty3 zbX rfl zfx ?_) | refine Q (za4 ty3 zbX rfl ?_)
        refine Q<|zcw Z Z Z zfx<|Q<|zao (v:=.int .u64 _) Z<|NSR<|Q<|zad (v:=.int .u64 _) Z<|MC Z ?_
        first | refine Q (zaW ty5 zbX rfl zfx ?_) | refine Q (za4 ty5 zbX rfl ?_)
        refine Q<|zaD Z Z Z zfx<|Q<|zao (v:=.int .u64 _) Z<|G<|SQ<|SR<|Q<|zad (v:=.int .u64 _) Z<|Q<|zad (v:=.int .u64 _) Z<|Q<|zaY Z Z<|MB Z<|zaz (d:=155) Z (fun g17=>?_) (fun g17=>?_)
        ·exfalso
         omega
        refine TK (t:=155) Z (Vb (Df g17))<|zad (v:=.int .u64 _) Z<|TK (t:=155) Z (Vb (Df g17))<|zad (v:=.int .u64 _) Z<|TK (t:=155) Z (Vb (Df g17))<|zbW Z Z<|Q<|zay (u:=.bool _) (Vb (Df g17)) Z<|G<|zal [(1,.int .i64 _),(8,.bool _),(9,str _),(10,.int .u64 _),(11,.int .u64 _),(12,.bool _),(17,.int .u64 _),(99,.slice _ _ _),(100,.int .i64 _),(101,.int .i64 _),(159,.bool _)] E11 fun f=>zaa Z (fun g18=>?_) (fun g18=>?_)
        ·exfalso
         omega
        refine zaj<|RG<|Q<|zad (v:=.int .u64 _) Z<|Q<|zao (v:=.int .u64 _) Z<|G<|zan<|RG<|Q<|zaD Z Z Z zbS<|MI Z<|G<|zaG ?_
        exact ih9 ((i + 1,16 * n + zeg (s.getD i 0))) _ w (by (try dsimp only); omega) V (⟨by (try dsimp only); omega,by (try dsimp only); exact zcy hJ.2.1 (zfb hyd).2,by (try dsimp only); rw [hJ.2.2,zdQ (by omega) hyd]⟩) E7 ⟨rfl,(congrArg (Value.int .u64) (by (try dsimp only); omega)),(Vi (by (try dsimp only); omega)),trivial⟩
       refine SR<|MC Z<|Q<|zav (v1:=.int .u8 _) zej Z Z<|Ret.det (zcj _ _) V fun w V=>Q<|zby Z Z<|MB Z<|zaz (d:=125) Z (fun g19=>?_) (fun g19=>?_)
       ·refine TK (t := 125) Z (Vb (Dt g19)) <| zad (v := .int .u8 _) Z <| TK (t := 125) Z (Vb (Dt g19)) (zav (v1 := .int .u8 _) zej Z Z ((zcj _ _).mono fun v w hp => ?_))
        obtain ⟨rfl,hp⟩:=hp
        replace V:=V.keepc hp
        refine TK (t:=125) Z (Vb (Dt g19))<|zby Z Z<|Q<|zaE (u:=.bool _) (Vb (Dt g19)) Z<|AB Z<|G<|zal [(1,.int .i64 _),(8,.bool _),(9,str _),(10,.int .u64 _),(11,.int .u64 _),(12,.bool _),(13,.int .u64 _),(15,.int .u8 _),(99,.slice _ _ _),(100,.int .i64 _),(101,.int .i64 _),(121,.bool _)] E12 fun f=>zaa Z (fun g20=>?_) (fun g20=>?_)
        ·refine RG <| MC Z <| Q <| zav (v1 := .int .u8 _) zej Z Z <| Ret.det (zcj _ _) V fun w V => Q <| zbV Z Z Z Wu8 <| Q <| zaD Z Z Z Wu8 <| AC Z <| G <| zan <| SQ <| SR <| MC Z <| MI Z ?_
         first | refine Q (zaW ty3 ty5 rfl Wu8 ?_) | refine Q (za4 ty3 ty5 rfl ?_)
         refine Q<|zbh Z Z<|G<|zaa Z (fun g21=>?_) (fun g21=>?_)
         ·refine SR <| Q <| zbu (v := .int .i64 _) zgi Z Z <| Q <| zao (v := .int .u64 _) Z <| Q <| zao (v := .iface _ _) Z <| G <| zah func144 Z (TP (v := .int .u64 _) Z) (TP (v := .iface _ _) Z) ?_
          have hno:¬ zdB (s.getD i 0) = true:=fun hn=>by have hn2:=of_decide_eq_true hn; omega
          exact ⟨.inr ⟨.inr (hJ.2.2.trans (zbZ O hno)),Z⟩,V.pure⟩
         have hyd:zdB (s.getD i 0) = true:=Classical.byContradiction fun hn=>by have hn2:=of_decide_eq_false (Bool.not_eq_true _ ▸ hn); omega
         have hwd:(zeg (s.getD i 0):Int) = bits .or .u8 ((s.getD i 0).toNat:Int) 32 - 87:=by have hq:=of_decide_eq_true hyd; unfold zeg; split <;> (try split) <;> omega
         refine zaj<|SQ<|SR<|Q<|zad (v:=.int .u64 _) Z<|Q<|zad (v:=.int .u64 _) Z<|Q<|zbh Z Z<|G<|zaa Z (fun g22=>?_) (fun g22=>?_)
         ·exfalso
          omega
         refine zaj<|SR<|Q<|zad (v:=.int .u64 _) Z<|MI Z ?_
         first | refine Q (zaW ty3 zbX rfl zfx ?_) | refine Q (za4 ty3 zbX rfl ?_)
         refine Q<|zcw Z Z Z zfx<|Q<|zao (v:=.int .u64 _) Z<|NSR<|Q<|zad (v:=.int .u64 _) Z<|MC Z ?_
         first | refine Q (zaW ty5 zbX rfl zfx ?_) | refine Q (za4 ty5 zbX rfl ?_)
         refine Q<|zaD Z Z Z zfx<|Q<|zao (v:=.int .u64 _) Z<|G<|zal [(1,.int .i64 _),(8,.bool _),(9,str _),(10,.int .u64 _),(11,.int .u64 _),(12,.bool _),(13,.int .u64 _),(17,.int .u64 _),(99,.slice _ _ _),(100,.int .i64 _),(101,.int .i64 _)] E11 fun f=>SQ<|SR<|Q<|zad (v:=.int .u64 _) Z<|Q<|zad (v:=.int .u64 _) Z<|Q<|zaY Z Z<|MB Z<|zaz (d:=155) Z (fun g23=>?_) (fun g23=>?_)
         ·exfalso
          omega
         refine TK (t:=155) Z (Vb (Df g23))<|zad (v:=.int .u64 _) Z<|TK (t:=155) Z (Vb (Df g23))<|zad (v:=.int .u64 _) Z<|TK (t:=155) Z (Vb (Df g23))<|zbW Z Z<|Q<|zay (u:=.bool _) (Vb (Df g23)) Z<|G<|zaa Z (fun g24=>?_) (fun g24=>?_)
         ·exfalso
          omega
         refine zaj<|RG<|Q<|zad (v:=.int .u64 _) Z<|Q<|zao (v:=.int .u64 _) Z<|G<|zan<|RG<|Q<|zaD Z Z Z zbS<|MI Z<|G<|zaG ?_
         exact ih9 ((i + 1,16 * n + zeg (s.getD i 0))) _ w (by (try dsimp only); omega) V (⟨by (try dsimp only); omega,by (try dsimp only); exact zcy hJ.2.1 (zfb hyd).2,by (try dsimp only); rw [hJ.2.2,zdQ (by omega) hyd]⟩) E7 ⟨rfl,(congrArg (Value.int .u64) (by (try dsimp only); omega)),(Vi (by (try dsimp only); omega)),trivial⟩
        refine SR<|Q<|zbu (v:=.int .i64 _) zgi Z Z<|Q<|zao (v:=.int .u64 _) Z<|Q<|zao (v:=.iface _ _) Z<|G<|zah func144 Z (TP (v:=.int .u64 _) Z) (TP (v:=.iface _ _) Z) ?_
        have hno:¬ zdB (s.getD i 0) = true:=fun hn=>by have hn2:=of_decide_eq_true hn; omega
        exact ⟨.inr ⟨.inr (hJ.2.2.trans (zbZ O hno)),Z⟩,V.pure⟩
       refine OM (t:=125) Z (Vb (Df g19)) Z<|OM (t:=125) Z (Vb (Df g19)) Z<|OM (t:=125) Z (Vb (Df g19)) Z<|Q<|zay (u:=.bool _) (Vb (Df g19)) Z<|AB Z<|G<|zal [(1,.int .i64 _),(8,.bool _),(9,str _),(10,.int .u64 _),(11,.int .u64 _),(12,.bool _),(13,.int .u64 _),(15,.int .u8 _),(99,.slice _ _ _),(100,.int .i64 _),(101,.int .i64 _),(121,.bool _)] E12 fun f=>zas (Vb (Z:false = _))<|SR<|Q<|zbu (v:=.int .i64 _) zgi Z Z<|Q<|zao (v:=.int .u64 _) Z<|Q<|zao (v:=.iface _ _) Z<|G<|zah func144 Z (TP (v:=.int .u64 _) Z) (TP (v:=.iface _ _) Z) ?_
       have hno:¬ zdB (s.getD i 0) = true:=fun hn=>by have hn2:=of_decide_eq_true hn; omega
       exact ⟨.inr ⟨.inr (hJ.2.2.trans (zbZ O hno)),Z⟩,V.pure⟩
      refine OM (t:=115) Z (Vb (Df g13)) Z<|OM (t:=115) Z (Vb (Df g13)) Z<|Q<|zay (u:=.bool _) (Vb (Df g13)) Z<|AB Z<|G<|zas (Vb (Z:false = _))<|SR<|MC Z<|Q<|zav (v1:=.int .u8 _) zej Z Z<|Ret.det (zcj _ _) V fun w V=>Q<|zby Z Z<|MB Z<|zaz (d:=125) Z (fun g25=>?_) (fun g25=>?_)
      ·refine TK (t := 125) Z (Vb (Dt g25)) <| zad (v := .int .u8 _) Z <| TK (t := 125) Z (Vb (Dt g25)) (zav (v1 := .int .u8 _) zej Z Z ((zcj _ _).mono fun v w hp => ?_))
       obtain ⟨rfl,hp⟩:=hp
       replace V:=V.keepc hp
       refine TK (t:=125) Z (Vb (Dt g25))<|zby Z Z<|Q<|zaE (u:=.bool _) (Vb (Dt g25)) Z<|AB Z<|G<|zal [(1,.int .i64 _),(8,.bool _),(9,str _),(10,.int .u64 _),(11,.int .u64 _),(12,.bool _),(13,.int .u64 _),(15,.int .u8 _),(99,.slice _ _ _),(100,.int .i64 _),(101,.int .i64 _),(121,.bool _)] E12 fun f=>zaa Z (fun g26=>?_) (fun g26=>?_)
       ·refine RG <| MC Z <| Q <| zav (v1 := .int .u8 _) zej Z Z <| Ret.det (zcj _ _) V fun w V => Q <| zbV Z Z Z Wu8 <| Q <| zaD Z Z Z Wu8 <| AC Z <| G <| zan <| SQ <| SR <| MC Z <| MI Z ?_
        first | refine Q (zaW ty3 ty5 rfl Wu8 ?_) | refine Q (za4 ty3 ty5 rfl ?_)
        refine Q<|zbh Z Z<|G<|zaa Z (fun g27=>?_) (fun g27=>?_)
        ·refine SR <| Q <| zbu (v := .int .i64 _) zgi Z Z <| Q <| zao (v := .int .u64 _) Z <| Q <| zao (v := .iface _ _) Z <| G <| zah func144 Z (TP (v := .int .u64 _) Z) (TP (v := .iface _ _) Z) ?_
         have hno:¬ zdB (s.getD i 0) = true:=fun hn=>by have hn2:=of_decide_eq_true hn; omega
         exact ⟨.inr ⟨.inr (hJ.2.2.trans (zbZ O hno)),Z⟩,V.pure⟩
        have hyd:zdB (s.getD i 0) = true:=Classical.byContradiction fun hn=>by have hn2:=of_decide_eq_false (Bool.not_eq_true _ ▸ hn); omega
        have hwd:(zeg (s.getD i 0):Int) = bits .or .u8 ((s.getD i 0).toNat:Int) 32 - 87:=by have hq:=of_decide_eq_true hyd; unfold zeg; split <;> (try split) <;> omega
        refine zaj<|SQ<|SR<|Q<|zad (v:=.int .u64 _) Z<|Q<|zad (v:=.int .u64 _) Z<|Q<|zbh Z Z<|G<|zaa Z (fun g28=>?_) (fun g28=>?_)
        ·exfalso
         omega
        refine zaj<|SR<|Q<|zad (v:=.int .u64 _) Z<|MI Z ?_
        first | refine Q (zaW ty3 zbX rfl zfx ?_) | refine Q (za4 ty3 zbX rfl ?_)
        refine Q<|zcw Z Z Z zfx<|Q<|zao (v:=.int .u64 _) Z<|NSR<|Q<|zad (v:=.int .u64 _) Z<|MC Z ?_
        first | refine Q (zaW ty5 zbX rfl zfx ?_) | refine Q (za4 ty5 zbX rfl ?_)
        refine Q<|zaD Z Z Z zfx<|Q<|zao (v:=.int .u64 _) Z<|G<|zal [(1,.int .i64 _),(8,.bool _),(9,str _),(10,.int .u64 _),(11,.int .u64 _),(12,.bool _),(13,.int .u64 _),(17,.int .u64 _),(99,.slice _ _ _),(100,.int .i64 _),(101,.int .i64 _)] E11 fun f=>SQ<|SR<|Q<|zad (v:=.int .u64 _) Z<|Q<|zad (v:=.int .u64 _) Z<|Q<|zaY Z Z<|MB Z<|zaz (d:=155) Z (fun g29=>?_) (fun g29=>?_)
        ·exfalso
         omega
        refine TK (t:=155) Z (Vb (Df g29))<|zad (v:=.int .u64 _) Z<|TK (t:=155) Z (Vb (Df g29))<|zad (v:=.int .u64 _) Z<|TK (t:=155) Z (Vb (Df g29))<|zbW Z Z<|Q<|zay (u:=.bool _) (Vb (Df g29)) Z<|G<|zaa Z (fun g30=>?_) (fun g30=>?_)
        ·exfalso
         omega
        refine zaj<|RG<|Q<|zad (v:=.int .u64 _) Z<|Q<|zao (v:=.int .u64 _) Z<|G<|zan<|RG<|Q<|zaD Z Z Z zbS<|MI Z<|G<|zaG ?_
        exact ih9 ((i + 1,16 * n + zeg (s.getD i 0))) _ w (by (try dsimp only); omega) V (⟨by (try dsimp only); omega,by (try dsimp only); exact zcy hJ.2.1 (zfb hyd).2,by (try dsimp only); rw [hJ.2.2,zdQ (by omega) hyd]⟩) E7 ⟨rfl,(congrArg (Value.int .u64) (by (try dsimp only); omega)),(Vi (by (try dsimp only); omega)),trivial⟩
       refine SR<|Q<|zbu (v:=.int .i64 _) zgi Z Z<|Q<|zao (v:=.int .u64 _) Z<|Q<|zao (v:=.iface _ _) Z<|G<|zah func144 Z (TP (v:=.int .u64 _) Z) (TP (v:=.iface _ _) Z) ?_
       have hno:¬ zdB (s.getD i 0) = true:=fun hn=>by have hn2:=of_decide_eq_true hn; omega
       exact ⟨.inr ⟨.inr (hJ.2.2.trans (zbZ O hno)),Z⟩,V.pure⟩
      refine OM (t:=125) Z (Vb (Df g25)) Z<|OM (t:=125) Z (Vb (Df g25)) Z<|OM (t:=125) Z (Vb (Df g25)) Z<|Q<|zay (u:=.bool _) (Vb (Df g25)) Z<|AB Z<|G<|zal [(1,.int .i64 _),(8,.bool _),(9,str _),(10,.int .u64 _),(11,.int .u64 _),(12,.bool _),(13,.int .u64 _),(15,.int .u8 _),(99,.slice _ _ _),(100,.int .i64 _),(101,.int .i64 _),(121,.bool _)] E12 fun f=>zas (Vb (Z:false = _))<|SR<|Q<|zbu (v:=.int .i64 _) zgi Z Z<|Q<|zao (v:=.int .u64 _) Z<|Q<|zao (v:=.iface _ _) Z<|G<|zah func144 Z (TP (v:=.int .u64 _) Z) (TP (v:=.iface _ _) Z) ?_
      have hno:¬ zdB (s.getD i 0) = true:=fun hn=>by have hn2:=of_decide_eq_true hn; omega
      exact ⟨.inr ⟨.inr (hJ.2.2.trans (zbZ O hno)),Z⟩,V.pure⟩
     refine OM (t:=109) Z (Vb (Df g11)) Z<|Q<|zay (u:=.bool _) (Vb (Df g11)) Z<|AB Z<|G<|zas (Vb (Z:false = _))<|SR<|MC Z<|Q<|zby Z Z<|MB Z<|zaz (d:=115) Z (fun g31=>?_) (fun g31=>?_)
     ·refine TK (t := 115) Z (Vb (Dt g31)) <| zad (v := .int .u8 _) Z <| TK (t := 115) Z (Vb (Dt g31)) <| zby Z Z <| Q <| zaE (u := .bool _) (Vb (Dt g31)) Z <| AB Z <| G <| zaa Z (fun g32 => ?_) (fun g32 => ?_)
      ·refine RG <| MC Z <| Q <| zbV Z Z Z Wu8 <| AC Z <| G <| zan <| zal [(1, .int .i64 _), (8, .bool _), (9, str _), (10, .int .u64 _), (11, .int .u64 _), (12, .bool _), (13, .int .u64 _), (16, .int .u8 _), (99, .slice _ _ _), (100, .int .i64 _), (101, .int .i64 _)] E11 fun f => SQ <| SR <| MC Z <| MI Z ?_
       first | refine Q (zaW ty3 ty5 rfl Wu8 ?_) | refine Q (za4 ty3 ty5 rfl ?_)
       refine Q<|zbh Z Z<|G<|zaa Z (fun g33=>?_) (fun g33=>?_)
       ·exfalso
        omega
       have hyd:zdB (s.getD i 0) = true:=Dt O
       have hwd:(zeg (s.getD i 0):Int) = ((s.getD i 0).toNat:Int) - 48:=by have hq:=of_decide_eq_true hyd; unfold zeg; split <;> (try split) <;> omega
       refine zaj<|SQ<|SR<|Q<|zad (v:=.int .u64 _) Z<|Q<|zad (v:=.int .u64 _) Z<|Q<|zbh Z Z<|G<|zaa Z (fun g34=>?_) (fun g34=>?_)
       ·exfalso
        omega
       refine zaj<|SR<|Q<|zad (v:=.int .u64 _) Z<|MI Z ?_
       first | refine Q (zaW ty3 zbX rfl zfx ?_) | refine Q (za4 ty3 zbX rfl ?_)
       refine Q<|zcw Z Z Z zfx<|Q<|zao (v:=.int .u64 _) Z<|NSR<|Q<|zad (v:=.int .u64 _) Z<|MC Z ?_
       first | refine Q (zaW ty5 zbX rfl zfx ?_) | refine Q (za4 ty5 zbX rfl ?_)
       refine Q<|zaD Z Z Z zfx<|Q<|zao (v:=.int .u64 _) Z<|G<|SQ<|SR<|Q<|zad (v:=.int .u64 _) Z<|Q<|zad (v:=.int .u64 _) Z<|Q<|zaY Z Z<|MB Z<|zaz (d:=155) Z (fun g35=>?_) (fun g35=>?_)
       ·exfalso
        omega
       refine TK (t:=155) Z (Vb (Df g35))<|zad (v:=.int .u64 _) Z<|TK (t:=155) Z (Vb (Df g35))<|zad (v:=.int .u64 _) Z<|TK (t:=155) Z (Vb (Df g35))<|zbW Z Z<|Q<|zay (u:=.bool _) (Vb (Df g35)) Z<|G<|zal [(1,.int .i64 _),(8,.bool _),(9,str _),(10,.int .u64 _),(11,.int .u64 _),(12,.bool _),(17,.int .u64 _),(99,.slice _ _ _),(100,.int .i64 _),(101,.int .i64 _),(159,.bool _)] E11 fun f=>zaa Z (fun g36=>?_) (fun g36=>?_)
       ·exfalso
        omega
       refine zaj<|RG<|Q<|zad (v:=.int .u64 _) Z<|Q<|zao (v:=.int .u64 _) Z<|G<|zan<|RG<|Q<|zaD Z Z Z zbS<|MI Z<|G<|zaG ?_
       exact ih9 ((i + 1,16 * n + zeg (s.getD i 0))) _ w (by (try dsimp only); omega) V (⟨by (try dsimp only); omega,by (try dsimp only); exact zcy hJ.2.1 (zfb hyd).2,by (try dsimp only); rw [hJ.2.2,zdQ (by omega) hyd]⟩) E7 ⟨rfl,(congrArg (Value.int .u64) (by (try dsimp only); omega)),(Vi (by (try dsimp only); omega)),trivial⟩
      refine SR<|MC Z<|Q<|zav (v1:=.int .u8 _) zej Z Z<|Ret.det (zcj _ _) V fun w V=>Q<|zby Z Z<|MB Z<|zaz (d:=125) Z (fun g37=>?_) (fun g37=>?_)
      ·refine TK (t := 125) Z (Vb (Dt g37)) <| zad (v := .int .u8 _) Z <| TK (t := 125) Z (Vb (Dt g37)) (zav (v1 := .int .u8 _) zej Z Z ((zcj _ _).mono fun v w hp => ?_))
       obtain ⟨rfl,hp⟩:=hp
       replace V:=V.keepc hp
       refine TK (t:=125) Z (Vb (Dt g37))<|zby Z Z<|Q<|zaE (u:=.bool _) (Vb (Dt g37)) Z<|AB Z<|G<|zal [(1,.int .i64 _),(8,.bool _),(9,str _),(10,.int .u64 _),(11,.int .u64 _),(12,.bool _),(13,.int .u64 _),(15,.int .u8 _),(99,.slice _ _ _),(100,.int .i64 _),(101,.int .i64 _),(121,.bool _)] E12 fun f=>zaa Z (fun g38=>?_) (fun g38=>?_)
       ·refine RG <| MC Z <| Q <| zav (v1 := .int .u8 _) zej Z Z <| Ret.det (zcj _ _) V fun w V => Q <| zbV Z Z Z Wu8 <| Q <| zaD Z Z Z Wu8 <| AC Z <| G <| zan <| SQ <| SR <| MC Z <| MI Z ?_
        first | refine Q (zaW ty3 ty5 rfl Wu8 ?_) | refine Q (za4 ty3 ty5 rfl ?_)
        refine Q<|zbh Z Z<|G<|zaa Z (fun g39=>?_) (fun g39=>?_)
        ·refine SR <| Q <| zbu (v := .int .i64 _) zgi Z Z <| Q <| zao (v := .int .u64 _) Z <| Q <| zao (v := .iface _ _) Z <| G <| zah func144 Z (TP (v := .int .u64 _) Z) (TP (v := .iface _ _) Z) ?_
         have hno:¬ zdB (s.getD i 0) = true:=fun hn=>by have hn2:=of_decide_eq_true hn; omega
         exact ⟨.inr ⟨.inr (hJ.2.2.trans (zbZ O hno)),Z⟩,V.pure⟩
        have hyd:zdB (s.getD i 0) = true:=Classical.byContradiction fun hn=>by have hn2:=of_decide_eq_false (Bool.not_eq_true _ ▸ hn); omega
        have hwd:(zeg (s.getD i 0):Int) = bits .or .u8 ((s.getD i 0).toNat:Int) 32 - 87:=by have hq:=of_decide_eq_true hyd; unfold zeg; split <;> (try split) <;> omega
        refine zaj<|SQ<|SR<|Q<|zad (v:=.int .u64 _) Z<|Q<|zad (v:=.int .u64 _) Z<|Q<|zbh Z Z<|G<|zaa Z (fun g40=>?_) (fun g40=>?_)
        ·exfalso
         omega
        refine zaj<|SR<|Q<|zad (v:=.int .u64 _) Z<|MI Z ?_
        first | refine Q (zaW ty3 zbX rfl zfx ?_) | refine Q (za4 ty3 zbX rfl ?_)
        refine Q<|zcw Z Z Z zfx<|Q<|zao (v:=.int .u64 _) Z<|NSR<|Q<|zad (v:=.int .u64 _) Z<|MC Z ?_
        first | refine Q (zaW ty5 zbX rfl zfx ?_) | refine Q (za4 ty5 zbX rfl ?_)
        refine Q<|zaD Z Z Z zfx<|Q<|zao (v:=.int .u64 _) Z<|G<|zal [(1,.int .i64 _),(8,.bool _),(9,str _),(10,.int .u64 _),(11,.int .u64 _),(12,.bool _),(13,.int .u64 _),(17,.int .u64 _),(99,.slice _ _ _),(100,.int .i64 _),(101,.int .i64 _)] E11 fun f=>SQ<|SR<|Q<|zad (v:=.int .u64 _) Z<|Q<|zad (v:=.int .u64 _) Z<|Q<|zaY Z Z<|MB Z<|zaz (d:=155) Z (fun g41=>?_) (fun g41=>?_)
        ·exfalso
         omega
        refine TK (t:=155) Z (Vb (Df g41))<|zad (v:=.int .u64 _) Z<|TK (t:=155) Z (Vb (Df g41))<|zad (v:=.int .u64 _) Z<|TK (t:=155) Z (Vb (Df g41))<|zbW Z Z<|Q<|zay (u:=.bool _) (Vb (Df g41)) Z<|G<|zaa Z (fun g42=>?_) (fun g42=>?_)
        ·exfalso
         omega
        refine zaj<|RG<|Q<|zad (v:=.int .u64 _) Z<|Q<|zao (v:=.int .u64 _) Z<|G<|zan<|RG<|Q<|zaD Z Z Z zbS<|MI Z<|G<|zaG ?_
        exact ih9 ((i + 1,16 * n + zeg (s.getD i 0))) _ w (by (try dsimp only); omega) V (⟨by (try dsimp only); omega,by (try dsimp only); exact zcy hJ.2.1 (zfb hyd).2,by (try dsimp only); rw [hJ.2.2,zdQ (by omega) hyd]⟩) E7 ⟨rfl,(congrArg (Value.int .u64) (by (try dsimp only); omega)),(Vi (by (try dsimp only); omega)),trivial⟩
       refine SR<|Q<|zbu (v:=.int .i64 _) zgi Z Z<|Q<|zao (v:=.int .u64 _) Z<|Q<|zao (v:=.iface _ _) Z<|G<|zah func144 Z (TP (v:=.int .u64 _) Z) (TP (v:=.iface _ _) Z) ?_
       have hno:¬ zdB (s.getD i 0) = true:=fun hn=>by have hn2:=of_decide_eq_true hn; omega
       exact ⟨.inr ⟨.inr (hJ.2.2.trans (zbZ O hno)),Z⟩,V.pure⟩
      refine OM (t:=125) Z (Vb (Df g37)) Z<|OM (t:=125) Z (Vb (Df g37)) Z<|OM (t:=125) Z (Vb (Df g37)) Z<|Q<|zay (u:=.bool _) (Vb (Df g37)) Z<|AB Z<|G<|zal [(1,.int .i64 _),(8,.bool _),(9,str _),(10,.int .u64 _),(11,.int .u64 _),(12,.bool _),(13,.int .u64 _),(15,.int .u8 _),(99,.slice _ _ _),(100,.int .i64 _),(101,.int .i64 _),(121,.bool _)] E12 fun f=>zas (Vb (Z:false = _))<|SR<|Q<|zbu (v:=.int .i64 _) zgi Z Z<|Q<|zao (v:=.int .u64 _) Z<|Q<|zao (v:=.iface _ _) Z<|G<|zah func144 Z (TP (v:=.int .u64 _) Z) (TP (v:=.iface _ _) Z) ?_
      have hno:¬ zdB (s.getD i 0) = true:=fun hn=>by have hn2:=of_decide_eq_true hn; omega
      exact ⟨.inr ⟨.inr (hJ.2.2.trans (zbZ O hno)),Z⟩,V.pure⟩
     refine OM (t:=115) Z (Vb (Df g31)) Z<|OM (t:=115) Z (Vb (Df g31)) Z<|Q<|zay (u:=.bool _) (Vb (Df g31)) Z<|AB Z<|G<|zas (Vb (Z:false = _))<|SR<|MC Z<|Q<|zav (v1:=.int .u8 _) zej Z Z<|Ret.det (zcj _ _) V fun w V=>Q<|zby Z Z<|MB Z<|zaz (d:=125) Z (fun g43=>?_) (fun g43=>?_)
     ·refine TK (t := 125) Z (Vb (Dt g43)) <| zad (v := .int .u8 _) Z <| TK (t := 125) Z (Vb (Dt g43)) (zav (v1 := .int .u8 _) zej Z Z ((zcj _ _).mono fun v w hp => ?_))
      obtain ⟨rfl,hp⟩:=hp
      replace V:=V.keepc hp
      refine TK (t:=125) Z (Vb (Dt g43))<|zby Z Z<|Q<|zaE (u:=.bool _) (Vb (Dt g43)) Z<|AB Z<|G<|zal [(1,.int .i64 _),(8,.bool _),(9,str _),(10,.int .u64 _),(11,.int .u64 _),(12,.bool _),(13,.int .u64 _),(15,.int .u8 _),(99,.slice _ _ _),(100,.int .i64 _),(101,.int .i64 _),(121,.bool _)] E12 fun f=>zaa Z (fun g44=>?_) (fun g44=>?_)
      ·refine RG <| MC Z <| Q <| zav (v1 := .int .u8 _) zej Z Z <| Ret.det (zcj _ _) V fun w V => Q <| zbV Z Z Z Wu8 <| Q <| zaD Z Z Z Wu8 <| AC Z <| G <| zan <| SQ <| SR <| MC Z <| MI Z ?_
       first | refine Q (zaW ty3 ty5 rfl Wu8 ?_) | refine Q (za4 ty3 ty5 rfl ?_)
       refine Q<|zbh Z Z<|G<|zaa Z (fun g45=>?_) (fun g45=>?_)
       ·refine SR <| Q <| zbu (v := .int .i64 _) zgi Z Z <| Q <| zao (v := .int .u64 _) Z <| Q <| zao (v := .iface _ _) Z <| G <| zah func144 Z (TP (v := .int .u64 _) Z) (TP (v := .iface _ _) Z) ?_
        have hno:¬ zdB (s.getD i 0) = true:=fun hn=>by have hn2:=of_decide_eq_true hn; omega
        exact ⟨.inr ⟨.inr (hJ.2.2.trans (zbZ O hno)),Z⟩,V.pure⟩
       have hyd:zdB (s.getD i 0) = true:=Classical.byContradiction fun hn=>by have hn2:=of_decide_eq_false (Bool.not_eq_true _ ▸ hn); omega
       have hwd:(zeg (s.getD i 0):Int) = bits .or .u8 ((s.getD i 0).toNat:Int) 32 - 87:=by have hq:=of_decide_eq_true hyd; unfold zeg; split <;> (try split) <;> omega
       refine zaj<|SQ<|SR<|Q<|zad (v:=.int .u64 _) Z<|Q<|zad (v:=.int .u64 _) Z<|Q<|zbh Z Z<|G<|zaa Z (fun g46=>?_) (fun g46=>?_)
       ·exfalso
        omega
       refine zaj<|SR<|Q<|zad (v:=.int .u64 _) Z<|MI Z ?_
       first | refine Q (zaW ty3 zbX rfl zfx ?_) | refine Q (za4 ty3 zbX rfl ?_)
       refine Q<|zcw Z Z Z zfx<|Q<|zao (v:=.int .u64 _) Z<|NSR<|Q<|zad (v:=.int .u64 _) Z<|MC Z ?_
       first | refine Q (zaW ty5 zbX rfl zfx ?_) | refine Q (za4 ty5 zbX rfl ?_)
       refine Q<|zaD Z Z Z zfx<|Q<|zao (v:=.int .u64 _) Z<|G<|zal [(1,.int .i64 _),(8,.bool _),(9,str _),(10,.int .u64 _),(11,.int .u64 _),(12,.bool _),(13,.int .u64 _),(17,.int .u64 _),(99,.slice _ _ _),(100,.int .i64 _),(101,.int .i64 _)] E11 fun f=>SQ<|SR<|Q<|zad (v:=.int .u64 _) Z<|Q<|zad (v:=.int .u64 _) Z<|Q<|zaY Z Z<|MB Z<|zaz (d:=155) Z (fun g47=>?_) (fun g47=>?_)
       ·exfalso
        omega
       refine TK (t:=155) Z (Vb (Df g47))<|zad (v:=.int .u64 _) Z<|TK (t:=155) Z (Vb (Df g47))<|zad (v:=.int .u64 _) Z<|TK (t:=155) Z (Vb (Df g47))<|zbW Z Z<|Q<|zay (u:=.bool _) (Vb (Df g47)) Z<|G<|zaa Z (fun g48=>?_) (fun g48=>?_)
       ·exfalso
        omega
       refine zaj<|RG<|Q<|zad (v:=.int .u64 _) Z<|Q<|zao (v:=.int .u64 _) Z<|G<|zan<|RG<|Q<|zaD Z Z Z zbS<|MI Z<|G<|zaG ?_
       exact ih9 ((i + 1,16 * n + zeg (s.getD i 0))) _ w (by (try dsimp only); omega) V (⟨by (try dsimp only); omega,by (try dsimp only); exact zcy hJ.2.1 (zfb hyd).2,by (try dsimp only); rw [hJ.2.2,zdQ (by omega) hyd]⟩) E7 ⟨rfl,(congrArg (Value.int .u64) (by (try dsimp only); omega)),(Vi (by (try dsimp only); omega)),trivial⟩
      refine SR<|Q<|zbu (v:=.int .i64 _) zgi Z Z<|Q<|zao (v:=.int .u64 _) Z<|Q<|zao (v:=.iface _ _) Z<|G<|zah func144 Z (TP (v:=.int .u64 _) Z) (TP (v:=.iface _ _) Z) ?_
      have hno:¬ zdB (s.getD i 0) = true:=fun hn=>by have hn2:=of_decide_eq_true hn; omega
      exact ⟨.inr ⟨.inr (hJ.2.2.trans (zbZ O hno)),Z⟩,V.pure⟩
     refine OM (t:=125) Z (Vb (Df g43)) Z<|OM (t:=125) Z (Vb (Df g43)) Z<|OM (t:=125) Z (Vb (Df g43)) Z<|Q<|zay (u:=.bool _) (Vb (Df g43)) Z<|AB Z<|G<|zal [(1,.int .i64 _),(8,.bool _),(9,str _),(10,.int .u64 _),(11,.int .u64 _),(12,.bool _),(13,.int .u64 _),(15,.int .u8 _),(99,.slice _ _ _),(100,.int .i64 _),(101,.int .i64 _),(121,.bool _)] E12 fun f=>zas (Vb (Z:false = _))<|SR<|Q<|zbu (v:=.int .i64 _) zgi Z Z<|Q<|zao (v:=.int .u64 _) Z<|Q<|zao (v:=.iface _ _) Z<|G<|zah func144 Z (TP (v:=.int .u64 _) Z) (TP (v:=.iface _ _) Z) ?_
     have hno:¬ zdB (s.getD i 0) = true:=fun hn=>by have hn2:=of_decide_eq_true hn; omega
     exact ⟨.inr ⟨.inr (hJ.2.2.trans (zbZ O hno)),Z⟩,V.pure⟩
    refine zaU (id:=3) Z<|SQ<|SR<|MB Z<|MB Z<|OM (t:=165) Z (Vb (Z:false = _)) Z<|OM (t:=165) Z (Vb (Z:false = _)) Z<|OM (t:=165) Z (Vb (Z:false = _)) Z<|Q<|zay (u:=.bool _) (Vb (Z:false = _)) Z<|G<|zas (Vb (Z:false = _))<|zaj<|SQ<|RG ?_
    refine Q<|zad (v:=.int .u64 _) Z<|Q<|zao (v:=.int .u64 _) Z<|Q<|zao (v:=.nilIface) Z<|G<|zah func144 Z (TP (v:=.int .u64 _) Z) (TP (v:=.nilIface) Z) ?_
    exact ⟨.inl ⟨n,fun e=>g1 (List.length_eq_zero_iff.1 e),hJ.2.2.trans (zrG O),Z⟩,V.pure⟩
   exfalso
   omega
  exfalso
  omega
 exfalso
 omega
end Go.SK
namespace Go.SK
open Go Go.Proofs Go.Proofs.Tryz
theorem ent144:zaJ prog 144:=⟨f144,_,func144,Kr,rfl⟩
theorem zni:TyF prog 151 (.interface (zpA prog 151)) 1 16 [.nilIface]:=zbw Kr Kr
theorem ent145:zaJ prog 145:=⟨f145,_,func145,Kr,rfl⟩
theorem ent86:zaJ prog 86:=⟨f86,_,func86,Kr,rfl⟩
theorem ent97:zaJ prog 97:=⟨f97,_,func97,Kr,rfl⟩
theorem ztM:zaJ prog 83:=⟨f83,_,func83,Kr,rfl⟩
theorem zp2:zaJ prog 84:=⟨f84,_,func84,Kr,rfl⟩
theorem zp1:zaJ prog 85:=⟨f85,_,func85,Kr,rfl⟩
theorem ent87:zaJ prog 87:=⟨f87,_,func87,Kr,rfl⟩
open Go.RowKit
theorem zqv (s:Tx) (hl:s.length ≤ 8) (w:World) (hG:LxG.holds w):Ret prog 86 #[str s,.int .i64 16,.int .i64 32] w (fun v w'=>((∃ n,s.length ≠ 0 ∧ zcn s 0 = some n ∧ v = .tuple #[.int .u64 (n:Int),.nilIface]) ∨ ((s.length = 0 ∨ zcn s 0 = none) ∧ ∃ N,v = .tuple #[.int .u64 0,.iface 252 (.pointer (some ⟨N,0,none⟩))])) ∧ St w NoM [] [] w'):=by
 refine zax (args:=[str s,.int .i64 16,.int .i64 32]) func86 Z Z Z ?_
 have V:St w NoM [] [LxG] w:=St.init_Ds (by simp only [List.forall_mem_cons]; exact ⟨hG,fun _ h=>absurd h List.not_mem_nil⟩)
 refine SR<|Q<|zao (v:=.int .u64 _) Z<|Q<|zao (v:=.nilIface) Z<|NSR<|MS Z<|MI Z<|MI Z<|Q (zbm (v1:=str _) (v2:=.int .i64 _) (v3:=.int .i64 _) ent144 Z Z Z Z ((zn8 s hl _).mono fun v w hp=>?_))
 replace hp:=or_and_right.1 hp
 rcases hp with ⟨⟨n,hne,hn,rfl⟩,hp⟩ | ⟨⟨hno,rfl⟩,hp⟩
 ·replace V := V.keepc hp
  refine Q<|zad (v:=.tuple #[.int .u64 _,.nilIface]) Z<|Q<|Ex (.int .u64 _) Z Z<|Q<|Ex (.nilIface) Z Z<|Q<|zao (v:=.int .u64 _) Z<|Q<|zao (v:=.nilIface) Z<|G<|SQ<|SR<|Q<|zad (v:=.nilIface) Z<|Q<|zqL zni Z Z<|G<|zas (Vb (Z:false = _))<|zaj<|SQ ?_
  refine RG<|Q<|zad (v:=.int .u64 _) Z<|Q<|zao (v:=.int .u64 _) Z<|Q<|zao (v:=.nilIface) Z<|G<|zah func86 Z (TP (v:=.int .u64 _) Z) (TP (v:=.nilIface) Z) ?_
  exact ⟨.inl ⟨n,hne,hn,Z⟩,V.pure⟩
 ·replace V := V.keepc hp
  refine Q<|zad (v:=.tuple #[.int .u64 _,.iface _ _]) Z<|Q<|Ex (.int .u64 _) Z Z<|Q<|Ex (.iface _ _) Z Z<|Q<|zao (v:=.int .u64 _) Z<|Q<|zao (v:=.iface _ _) Z<|G<|SQ<|SR<|Q<|zad (v:=.iface _ _) Z<|Q<|zqM zni Z Z<|G<|zat (Vb (Z:true = _))<|SQ<|RG ?_
  refine Q<|zad (v:=.int .u64 _) Z<|MS Z<|MI Z<|MI Z<|Q<|zad (v:=.iface _ _) Z<|Q (zqO (v1:=str _) (v2:=str _) (v3:=.int .i64 _) (v4:=.int .i64 _) (v5:=.iface _ _) ent145 Z Z Z Z Z Z ((lx_TE _ s _ (V.hD _ Q0) O).mono fun v w hp=>?_))
  obtain ⟨⟨N,rfl⟩,hp⟩:=hp
  replace V:=V.keepc hp
  refine Q<|zao (v:=.int .u64 _) Z<|Q<|zao (v:=.iface _ _) Z<|G<|zah func86 Z (TP (v:=.int .u64 _) Z) (TP (v:=.iface _ _) Z) ?_
  exact ⟨.inr ⟨hno,N,Z⟩,V.pure⟩
theorem zgy (s:Tx) (w:World) (hG:LxG.holds w) (hl:s.length ≤ 140737488355328):Ret prog 83 #[str s] w (fun v w'=>v = .tuple #[.int .u32 (puV s:Int),.bool (za6 s).isSome] ∧ St w NoM [] [] w'):=by
 refine zax (args:=[str s]) func83 Z Z Z ?_
 have V:St w NoM [] [LxG] w:=St.init_Ds (by simp only [List.forall_mem_cons]; exact ⟨hG,fun _ h=>absurd h List.not_mem_nil⟩)
 have hpv:=zsE s
 refine SR<|AU Z<|AB Z<|NSR<|MS Z<|Q (zbm (v1:=str _) (v2:=.int .i64 _) (v3:=.int .i64 _) ent86 Z Z Z Z ((ztA s _ (V.hD _ Q0) O).mono fun v w hp=>?_))
 replace hp:=or_and_right.1 hp
 rcases hp with ⟨⟨ho,rfl⟩,hp⟩ | ⟨⟨ho,N,rfl⟩,hp⟩
 ·replace V := V.keepc hp
  refine Q<|zad (v:=.tuple #[.int .u64 _,.nilIface]) Z<|Q<|Ex (.int .u64 _) Z Z<|Q<|Ex (.nilIface) Z Z<|Q<|zao (v:=.int .u64 _) Z<|Q<|zao (v:=.nilIface) Z<|NSR<|Q (zad (v:=.int .u64 _) Z ?_)
  first | refine Q (zaW zbX zbM rfl zqU ?_) | refine Q (za4 zbX zbM rfl ?_)
  refine Q<|zad (v:=.nilIface) Z<|Q<|zk0 zni Z Z<|MB Z<|TK (t:=15) Z (Vb (Z:true = _))<|zad (v:=.int .u64 _) Z<|TK (t:=15) Z (Vb (Z:true = _)) (zaK (v1:=.int .u64 _) (v2:=.int .i64 _) ent97 Z Z Z ((zt4 (puV s) O _ (V.hD _ Q0)).mono fun v w hp=>?_))
  obtain ⟨rfl,hp⟩:=hp
  replace V:=V.keepc hp
  refine TK (t:=15) Z (Vb (Z:true = _))<|zad (v:=str _) Z<|TK (t:=15) Z (Vb (Z:true = _))<|zdx Z Z<|Q<|zaE (u:=.bool _) (Vb (Z:true = _)) Z<|AU Z<|AB Z<|G<|zah func83 Z (TP (v:=.int .u32 _) Z) (TP (v:=.bool _) Z) ?_
  rw [zpl ho]
  exact ⟨Z,V.pure⟩
 ·replace V := V.keepc hp
  refine Q<|zad (v:=.tuple #[.int .u64 _,.iface _ _]) Z<|Q<|Ex (.int .u64 _) Z Z<|Q<|Ex (.iface _ _) Z Z<|Q<|zao (v:=.int .u64 _) Z<|Q<|zao (v:=.iface _ _) Z<|NSR<|Q (zad (v:=.int .u64 _) Z ?_)
  first | refine Q (zaW zbX zbM rfl zqU ?_) | refine Q (za4 zbX zbM rfl ?_)
  refine Q<|zad (v:=.iface _ _) Z<|Q<|zk1 zni Z Z<|MB Z<|OM (t:=15) Z (Vb (Z:false = _)) Z<|OM (t:=15) Z (Vb (Z:false = _)) Z<|OM (t:=15) Z (Vb (Z:false = _)) Z<|OM (t:=15) Z (Vb (Z:false = _)) Z<|Q<|zay (u:=.bool _) (Vb (Z:false = _)) Z<|AU Z<|AB Z<|G<|zah func83 Z (TP (v:=.int .u32 _) Z) (TP (v:=.bool _) Z) ?_
  rw [zrw ho]
  exact ⟨Z,V.pure⟩
theorem zdw (s:Tx) (w:World) (hG:LxG.holds w) (hl:s.length ≤ 140737488355328):Ret prog 40 #[str s] w (fun v w'=>v = .tuple #[.int .u32 (za3 s).1,.int .i64 (za3 s).2] ∧ St w NoM [] [] w'):=by
 refine zax (args:=[str s]) func40 Z Z Z ?_
 have V:St w NoM [] [LxG] w:=St.init_Ds (by simp only [List.forall_mem_cons]; exact ⟨hG,fun _ h=>absurd h List.not_mem_nil⟩)
 refine SR<|AU rfl<|AI rfl<|G<|SQ<|SR<|MS rfl<|Q<|zav (v1:=str _) ztM rfl rfl<|Ret.det (zgy _ _ (V.hD _ Q0) (by first | omega | (simp only [List.length_drop,List.length_take,List.length_append,List.length_cons,List.length_nil]; omega))) V fun w V=>Q<|zad (v:=.tuple #[.int .u32 _,.bool _]) rfl<|Q<|Ex (.int .u32 _) rfl rfl<|Q<|Ex (.bool _) rfl rfl<|AU rfl<|AB rfl ?_
 refine NSR<|MB Z<|G<|zaR Z (fun g1=>?_) (fun g1=>?_)
 ·obtain ⟨n0, hn0⟩ := zfU g1
  have hpr:=zfQ hn0
  refine SR<|MU Z<|AU Z<|AI Z<|G<|zah func40 Z (TP (v:=.int .u32 _) Z) (TP (v:=.int .i64 _) Z) ?_
  rw [zeS hn0,hpr.2.1]
  exact ⟨Z,V.pure⟩
 have hpn:=zkh g1
 refine zaj<|SQ<|SR<|MS Z<|Q (zaK (v1:=str _) (v2:=str _) zp2 Z Z Z ((zka s [45] _).mono fun v w hp=>?_))
 rcases hp with ⟨hm0,rfl,hp⟩ | ⟨hm0,rfl,hp⟩
 ·replace V := V.keepc hp
  have hm:=take1 hm0
  have hm45:(45:UInt8).toNat = 45:=rfl
  have hcl:([45]:Tx).length = 1:=rfl
  rw [hm45] at hm
  refine Q<|zad (v:=.tuple #[str _,.bool _]) rfl<|Q<|Ex (str _) rfl rfl<|Q<|Ex (.bool _) rfl rfl<|AS rfl<|AB rfl<|NSR<|MB rfl<|G<|zat (Vb (rfl:true = _))<|SR<|MS rfl<|Q<|zav (v1:=str _) ztM rfl rfl<|Ret.det (zgy _ _ (V.hD _ Q0) (by first | omega | (simp only [List.length_drop,List.length_take,List.length_append,List.length_cons,List.length_nil]; omega))) V fun w V=>?_
  refine Q<|zad (v:=.tuple #[.int .u32 _,.bool _]) Z<|Q<|Ex (.int .u32 _) Z Z<|Q<|Ex (.bool _) Z Z<|AU Z<|AB Z<|G<|zal [(0,str _),(8,.int .u32 _),(9,.bool _)] E3 fun f=>SR<|MB Z<|MB Z<|zcF (d:=33) Z (fun g2=>?_) (fun g2=>?_)
  ·obtain ⟨m, hm0m⟩ := zfU g2
   have hmm:za6 (s.drop 1) = some m:=hm0m
   have hpm:puV (s.drop ([45]:Tx).length) = m:=(zfQ hm0m).2.1
   refine TK (t:=33) Z (Vb g2)<|zad (v:=.int .u32 _) Z<|TK (t:=33) Z (Vb g2)<|zbh Z Z<|Q<|zaE (u:=.bool _) (Vb g2) Z<|MB Z<|zaz (d:=37) Z (fun g3=>?_) (fun g3=>?_)
   ·refine TK (t := 37) Z (Vb (Dt g3)) <| zad (v := .int .u32 _) Z <| TK (t := 37) Z (Vb (Dt g3)) <| zby Z Z <| Q <| zaE (u := .bool _) (Vb (Dt g3)) Z <| G <| zaa Z (fun g4 => ?_) (fun g4 => ?_)
    ·refine SR <| MU Z ?_
     first | refine Q (zst rfl rfl zqU ?_) | refine Q (zt6 rfl ?_)
     refine AU Z<|AI Z<|G<|zah func40 Z (TP (v:=.int .u32 _) Z) (TP (v:=.int .i64 _) Z) ?_
     have hq:(1:Int) ≤ (m:Int) ∧ (m:Int) ≤ 2147483648:=by omega
     rw [zlz hpn hm hmm (by omega)]
     have hw:=zrA (m:=m) O
     rw [hpm,hw]
     exact ⟨Z,V.pure⟩
    refine zaj<|SQ<|SR<|MS Z<|Q (zaK (v1:=str _) (v2:=str _) zp2 Z Z Z ((zka s [48,120] _).mono fun v w hp=>?_))
    rcases hp with ⟨hx0,rfl,hp⟩ | ⟨hx0,rfl,hp⟩
    ·have hx := zrg hx0
     have hx48:(48:UInt8).toNat = 48:=rfl
     have hx120:(120:UInt8).toNat = 120:=rfl
     rw [hx48,hx120] at hx
     exfalso; omega
    ·replace V := V.keepc hp
     have hx:=zg0 hx0
     have hx48:(48:UInt8).toNat = 48:=rfl
     have hx120:(120:UInt8).toNat = 120:=rfl
     rw [hx48,hx120] at hx
     refine Q<|zad (v:=.tuple #[str _,.bool _]) Z<|Q<|Ex (str _) Z Z<|Q<|Ex (.bool _) Z Z<|AS Z<|AB Z<|NSR<|MB Z<|MB Z<|OM (t:=49) Z (Vb (Z:false = _)) Z<|OM (t:=49) Z (Vb (Z:false = _)) Z<|OM (t:=49) Z (Vb (Z:false = _)) Z<|Q<|zay (u:=.bool _) (Vb (Z:false = _)) Z<|MB Z ?_
     refine OM (t:=54) Z (Vb (Z:false = _)) Z<|OM (t:=54) Z (Vb (Z:false = _)) Z<|OM (t:=54) Z (Vb (Z:false = _)) Z<|OM (t:=54) Z (Vb (Z:false = _)) Z<|Q<|zay (u:=.bool _) (Vb (Z:false = _)) Z<|G<|zal [(10,str _),(59,.bool _)] E2 fun f=>zas (Vb (Z:false = _))<|zaj<|SR<|AU Z<|AI Z<|G<|zah func40 Z (TP (v:=.int .u32 _) Z) (TP (v:=.int .i64 _) Z) ?_
     rw [zdy hpn hm (fun n hn=>by rw [hmm] at hn; cases hn; omega)]
     exact ⟨Z,V.pure⟩
   refine OM (t:=37) Z (Vb (Df g3)) Z<|OM (t:=37) Z (Vb (Df g3)) Z<|Q<|zay (u:=.bool _) (Vb (Df g3)) Z<|G<|zas (Vb (Z:false = _))<|zaj<|SQ<|SR<|MS Z<|Q (zaK (v1:=str _) (v2:=str _) zp2 Z Z Z ((zka s [48,120] _).mono fun v w hp=>?_))
   rcases hp with ⟨hx0,rfl,hp⟩ | ⟨hx0,rfl,hp⟩
   ·have hx := zrg hx0
    have hx48:(48:UInt8).toNat = 48:=rfl
    have hx120:(120:UInt8).toNat = 120:=rfl
    rw [hx48,hx120] at hx
    exfalso; omega
   ·replace V := V.keepc hp
    have hx:=zg0 hx0
    have hx48:(48:UInt8).toNat = 48:=rfl
    have hx120:(120:UInt8).toNat = 120:=rfl
    rw [hx48,hx120] at hx
    refine Q<|zad (v:=.tuple #[str _,.bool _]) Z<|Q<|Ex (str _) Z Z<|Q<|Ex (.bool _) Z Z<|AS Z<|AB Z<|NSR<|MB Z<|MB Z<|OM (t:=49) Z (Vb (Z:false = _)) Z<|OM (t:=49) Z (Vb (Z:false = _)) Z<|OM (t:=49) Z (Vb (Z:false = _)) Z<|Q<|zay (u:=.bool _) (Vb (Z:false = _)) Z<|MB Z ?_
    refine OM (t:=54) Z (Vb (Z:false = _)) Z<|OM (t:=54) Z (Vb (Z:false = _)) Z<|OM (t:=54) Z (Vb (Z:false = _)) Z<|OM (t:=54) Z (Vb (Z:false = _)) Z<|Q<|zay (u:=.bool _) (Vb (Z:false = _)) Z<|G<|zal [(10,str _),(59,.bool _)] E2 fun f=>zas (Vb (Z:false = _))<|zaj<|SR<|AU Z<|AI Z<|G<|zah func40 Z (TP (v:=.int .u32 _) Z) (TP (v:=.int .i64 _) Z) ?_
    rw [zdy hpn hm (fun n hn=>by rw [hmm] at hn; cases hn; omega)]
    exact ⟨Z,V.pure⟩
  have hmn:za6 (s.drop 1) = none:=zkh g2
  refine OM (t:=33) Z (Vb g2) Z<|OM (t:=33) Z (Vb g2) Z<|Q<|zay (u:=.bool _) (Vb g2) Z<|MB Z<|OM (t:=37) Z (Vb (Z:false = _)) Z<|OM (t:=37) Z (Vb (Z:false = _)) Z<|Q<|zay (u:=.bool _) (Vb (Z:false = _)) Z<|G<|zas (Vb (Z:false = _))<|zaj<|SQ<|SR<|MS Z<|Q (zaK (v1:=str _) (v2:=str _) zp2 Z Z Z ((zka s [48,120] _).mono fun v w hp=>?_))
  rcases hp with ⟨hx0,rfl,hp⟩ | ⟨hx0,rfl,hp⟩
  ·have hx := zrg hx0
   have hx48:(48:UInt8).toNat = 48:=rfl
   have hx120:(120:UInt8).toNat = 120:=rfl
   rw [hx48,hx120] at hx
   exfalso; omega
  ·replace V := V.keepc hp
   have hx:=zg0 hx0
   have hx48:(48:UInt8).toNat = 48:=rfl
   have hx120:(120:UInt8).toNat = 120:=rfl
   rw [hx48,hx120] at hx
   refine Q<|zad (v:=.tuple #[str _,.bool _]) Z<|Q<|Ex (str _) Z Z<|Q<|Ex (.bool _) Z Z<|AS Z<|AB Z<|NSR<|MB Z<|MB Z<|OM (t:=49) Z (Vb (Z:false = _)) Z<|OM (t:=49) Z (Vb (Z:false = _)) Z<|OM (t:=49) Z (Vb (Z:false = _)) Z<|Q<|zay (u:=.bool _) (Vb (Z:false = _)) Z<|MB Z ?_
   refine OM (t:=54) Z (Vb (Z:false = _)) Z<|OM (t:=54) Z (Vb (Z:false = _)) Z<|OM (t:=54) Z (Vb (Z:false = _)) Z<|OM (t:=54) Z (Vb (Z:false = _)) Z<|Q<|zay (u:=.bool _) (Vb (Z:false = _)) Z<|G<|zas (Vb (Z:false = _))<|zaj<|SR<|AU Z<|AI Z<|G<|zah func40 Z (TP (v:=.int .u32 _) Z) (TP (v:=.int .i64 _) Z) ?_
   rw [zdy hpn hm (fun n hn=>by rw [hmn] at hn; cases hn)]
   exact ⟨Z,V.pure⟩
 ·replace V := V.keepc hp
  have hm:=zrh hm0
  have hm45:(45:UInt8).toNat = 45:=rfl
  rw [hm45] at hm
  refine Q<|zad (v:=.tuple #[str _,.bool _]) Z<|Q<|Ex (str _) Z Z<|Q<|Ex (.bool _) Z Z<|AS Z<|AB Z<|NSR<|MB Z<|G<|zas (Vb (Z:false = _))<|zaj<|SQ<|SQ<|RG ?_
  refine MS Z<|Q (zaK (v1:=str _) (v2:=str _) zp2 Z Z Z ((zka s [48,120] _).mono fun v w hp=>?_))
  rcases hp with ⟨hx0,rfl,hp⟩ | ⟨hx0,rfl,hp⟩
  ·replace V := V.keepc hp
   have hx:=zrg hx0
   have hx48:(48:UInt8).toNat = 48:=rfl
   have hx120:(120:UInt8).toNat = 120:=rfl
   rw [hx48,hx120] at hx
   have hcl2:([48,120]:Tx).length = 2:=rfl
   refine Q<|zad (v:=.tuple #[str _,.bool _]) Z<|Q<|Ex (str _) Z Z<|Q<|Ex (.bool _) Z Z<|AS Z<|AB Z<|G<|zal [(10,str _),(11,.bool _)] E2 fun f=>SR<|MB Z<|MB Z<|TK (t:=49) Z (Vb (Z:true = _))<|zad (v:=str _) Z<|TK (t:=49) Z (Vb (Z:true = _))<|zaX (rest:=[]) ty9 Z<|TK (t:=49) Z (Vb (Z:true = _))<|zby Z Z<|Q (zaE (u:=.bool _) (Vb (Z:true = _)) Z ?_)
   refine MB Z<|zaz (d:=54) Z (fun g5=>?_) (fun g5=>?_)
   ·refine TK (t := 54) rfl (Vb (Dt g5)) <| zad (v := str _) rfl <| TK (t := 54) rfl (Vb (Dt g5)) (zav (v1 := str _) zp1 rfl rfl ((zf8 _ _ (by first | omega | (simp only [List.length_drop]; omega))).mono fun v w hp => ?_))
    obtain ⟨rfl,hp⟩:=hp
    replace V:=V.keepc hp
    refine TK (t:=54) Z (Vb (Dt g5))<|zad (v:=str _) Z<|TK (t:=54) Z (Vb (Dt g5))<|zdx Z Z<|Q<|zaE (u:=.bool _) (Vb (Dt g5)) Z<|G<|zaa Z (fun g6=>?_) (fun g6=>?_)
    ·have hd2 : (s.drop ([48, 120] : Tx).length).length = s.length - 2 := List.length_drop
     have hd3:(s.drop 2).length = s.length - 2:=List.length_drop
     have hl8:(s.drop 2).length ≤ 8:=by omega
     refine SR<|MS Z<|Q (zbm (v1:=str _) (v2:=.int .i64 _) (v3:=.int .i64 _) ent86 Z Z Z Z ((zqv (s.drop 2) hl8 _ (V.hD _ Q0)).mono fun v w hp=>?_))
     replace hp:=or_and_right.1 hp
     rcases hp with ⟨⟨n,hne,hn,rfl⟩,hp⟩ | ⟨⟨hno,N,rfl⟩,hp⟩
     ·replace V := V.keepc hp
      have hru:=zg7 _ _ _ hn
      have hnb:=zpK hn hl8
      refine Q<|zad (v:=.tuple #[.int .u64 _,.nilIface]) Z<|Q<|Ex (.int .u64 _) Z Z<|Q<|Ex (.nilIface) Z Z<|Q<|zao (v:=.int .u64 _) Z<|Q<|zao (v:=.nilIface) Z<|G<|zal [(10,str _),(12,.int .u64 _),(13,.nilIface)] E3 fun f=>SR<|Q<|zad (v:=.nilIface) Z<|Q<|zk0 zni Z Z<|MB Z<|TK (t:=67) Z (Vb (Z:true = _))<|zad (v:=str _) Z<|TK (t:=67) Z (Vb (Z:true = _)) (zaK (v1:=str _) (v2:=.int .u8 _) ent87 Z Z Z ((lx_IB (s.drop 2) 95 _).mono fun v w hp=>?_))
      obtain ⟨he,hp⟩:=hp
      replace he:=he.trans ((by rw [show (95:Int).toNat.toUInt8 = 95 from rfl,hru.2]:_ = Value.int .i64 (-1)))
      subst he
      replace V:=V.keepc hp
      refine TK (t:=67) Z (Vb (Z:true = _))<|zaY Z Z<|Q<|zaE (u:=.bool _) (Vb (Z:true = _)) Z<|G<|zaa Z (fun g7=>?_) (fun g7=>?_)
      ·refine SR <| Q (zad (v := .int .u64 _) Z ?_)
       first | refine Q (zaW zbX zbM rfl zqU ?_) | refine Q (za4 zbX zbM rfl ?_)
       refine AU Z<|AI Z<|G<|zah func40 Z (TP (v:=.int .u32 _) Z) (TP (v:=.int .i64 _) Z) ?_
       have hd2:(s.drop 2).length = s.length - 2:=List.length_drop
       rw [zmB hpn (by omega) (by omega) hn]
       exact ⟨Z,V.pure⟩
      exfalso
      omega
     ·replace V := V.keepc hp
      refine Q<|zad (v:=.tuple #[.int .u64 _,.iface _ _]) Z<|Q<|Ex (.int .u64 _) Z Z<|Q<|Ex (.iface _ _) Z Z<|Q<|zao (v:=.int .u64 _) Z<|Q<|zao (v:=.iface _ _) Z<|G<|zal [(10,str _),(12,.int .u64 _),(13,.iface _ _)] E3 fun f=>SR<|Q<|zad (v:=.iface _ _) Z<|Q<|zk1 zni Z Z<|MB Z<|OM (t:=67) Z (Vb (Z:false = _)) Z<|OM (t:=67) Z (Vb (Z:false = _)) Z<|OM (t:=67) Z (Vb (Z:false = _)) Z ?_
      refine Q<|zay (u:=.bool _) (Vb (Z:false = _)) Z<|G<|zas (Vb (Z:false = _))<|zaj<|SR<|AU Z<|AI Z<|G<|zah func40 Z (TP (v:=.int .u32 _) Z) (TP (v:=.int .i64 _) Z) ?_
      have hd2:(s.drop 2).length = s.length - 2:=List.length_drop
      rw [zer hpn hx (by rcases hno with h0 | h0; exact .inr (.inl (by omega)); exact .inr (.inr h0))]
      exact ⟨Z,V.pure⟩
    refine zaj<|SR<|AU Z<|AI Z<|G<|zah func40 Z (TP (v:=.int .u32 _) Z) (TP (v:=.int .i64 _) Z) ?_
    rw [zer hpn hx (.inr (.inr (by cases hq:zcn (s.drop 2) 0 with | none=>rfl | some n=>exact absurd (zg7 _ _ _ hq).1 g6)))]
    exact ⟨Z,V.pure⟩
   refine OM (t:=54) Z (Vb (Df g5)) Z<|OM (t:=54) Z (Vb (Df g5)) Z<|OM (t:=54) Z (Vb (Df g5)) Z<|OM (t:=54) Z (Vb (Df g5)) Z<|Q<|zay (u:=.bool _) (Vb (Df g5)) Z<|G<|zas (Vb (Z:false = _))<|zaj<|SR<|AU Z<|AI Z<|G<|zah func40 Z (TP (v:=.int .u32 _) Z) (TP (v:=.int .i64 _) Z) ?_
   have hd2:(s.drop ([48,120]:Tx).length).length = s.length - 2:=List.length_drop
   rw [zer hpn hx (.inl (by omega))]
   exact ⟨Z,V.pure⟩
  ·replace V := V.keepc hp
   have hx:=zg0 hx0
   have hx48:(48:UInt8).toNat = 48:=rfl
   have hx120:(120:UInt8).toNat = 120:=rfl
   rw [hx48,hx120] at hx
   refine Q<|zad (v:=.tuple #[str _,.bool _]) Z<|Q<|Ex (str _) Z Z<|Q<|Ex (.bool _) Z Z<|AS Z<|AB Z<|G<|zal [(10,str _),(11,.bool _)] E2 fun f=>SR<|MB Z<|MB Z<|OM (t:=49) Z (Vb (Z:false = _)) Z<|OM (t:=49) Z (Vb (Z:false = _)) Z<|OM (t:=49) Z (Vb (Z:false = _)) Z<|Q (zay (u:=.bool _) (Vb (Z:false = _)) Z ?_)
   refine MB Z<|OM (t:=54) Z (Vb (Z:false = _)) Z<|OM (t:=54) Z (Vb (Z:false = _)) Z<|OM (t:=54) Z (Vb (Z:false = _)) Z<|OM (t:=54) Z (Vb (Z:false = _)) Z<|Q<|zay (u:=.bool _) (Vb (Z:false = _)) Z<|G<|zas (Vb (Z:false = _))<|zaj<|SR<|AU Z<|AI Z<|G<|zah func40 Z (TP (v:=.int .u32 _) Z) (TP (v:=.int .i64 _) Z) ?_
   rw [zg4 hpn (by omega) (by omega)]
   exact ⟨Z,V.pure⟩
end Go.SK
namespace Go.SK
open Go Go.Proofs Go.Proofs.Tryz
theorem zrW:zaJ prog 40:=⟨f40,_,func40,Kr,rfl⟩
open Go.RowKit
theorem zkM (s:Tx) (w:World) (hG:LxG.holds w) (hl:s.length ≤ 140737488355327):Ret prog 184 #[str s] w (fun v w'=>v = ztt (zgV s) ∧ St w NoM [] [] w'):=by
 refine zax (args:=[str s]) func184 Z Z Z ?_
 have V:St w NoM [] [LxG] w:=St.init_Ds (by simp only [List.forall_mem_cons]; exact ⟨hG,fun _ h=>absurd h List.not_mem_nil⟩)
 have hidx0:(s.getD ((0:Int).toNat) 0).toNat = (s.getD 0 0).toNat:=rfl
 have h48:(za3 ([48] ++ s.take ((3:Int).toNat))).2 = (za3 ([48] ++ s.take 3)).2:=rfl
 refine SR<|AC Z<|AI Z<|G<|SQ<|zau<|SR<|MS Z<|Q<|zdx Z Z<|AB Z<|G<|zaa Z (fun g1=>?_) (fun g1=>?_)
 ·refine zaj <| zan <| SR <| AC Z <| AI Z <| G <| zah func184 Z (TP (v := .int .u8 _) Z) (TP (v := .int .i64 _) Z) ?_
  subst g1
  exact ⟨Z,V.pure⟩
 have hpos:0 < s.length:=by rcases Nat.eq_zero_or_pos s.length with h0 | h0; exact absurd (List.length_eq_zero_iff.1 h0) g1; exact h0
 refine SQ<|SR<|MS Z<|Q<|zaZ ty9 Z Z O O<|Q<|zai Z Z<|AB Z<|G<|zaa Z (fun g2=>?_) (fun g2=>?_)
 ·refine zaj <| zat (Vb (Dt g2)) <| SR <| MS Z <| Q <| zaZ ty9 Z Z O O <| AC Z <| AI Z <| G <| zah func184 Z (TP (v := .int .u8 _) Z) (TP (v := .int .i64 _) Z) ?_
  rw [zmQ (by omega) (by omega)]
  exact ⟨Z,V.pure⟩
 refine RG<|MS Z<|Q<|zaZ ty9 Z Z O O<|Q<|zai Z Z<|AB Z<|G<|zaa Z (fun g3=>?_) (fun g3=>?_)
 ·refine SR <| MS Z <| Q <| zaZ ty9 Z Z O O <| AC Z <| AI Z <| G <| zah func184 Z (TP (v := .int .u8 _) Z) (TP (v := .int .i64 _) Z) ?_
  rw [zmQ (by omega) (by omega)]
  exact ⟨Z,V.pure⟩
 refine SR<|MS Z<|Q<|zaZ ty9 Z Z O O<|Q<|zai Z Z<|MB Z<|zaz (d:=22) Z (fun g4=>?_) (fun g4=>?_)
 ·refine TK (t := 22) Z (Vb (Dt g4)) <| zad (v := str _) Z <| TK (t := 22) Z (Vb (Dt g4)) <| zaX (rest := []) ty9 Z <| TK (t := 22) Z (Vb (Dt g4)) <| zbh Z Z <| Q <| zaE (u := .bool _) (Vb (Dt g4)) Z <| AB Z <| G <| zal [(0, str _), (18, .bool _)] E2 fun f => zaa Z (fun g5 => ?_) (fun g5 => ?_)
  ·refine SR <| MS rfl <| Q <| zcG ty9 rfl rfl (by omega) (by omega) <| Q <| za2 rfl rfl (by first | omega | (simp only [List.length_cons, List.length_nil, List.length_append]; omega) | (simp; omega)) <| Q <| zav (v1 := str _) zrW rfl rfl <| Ret.det (zdw _ _ (V.hD _ Q0) (by simp only [List.length_append, List.length_take, List.length_singleton]; omega)) V fun w V => Q <| zad (v := .tuple #[.int .u32 _, .int .i64 _]) rfl <| Q <| Ex (.int .u32 _) rfl rfl <| Q <| Ex (.int .i64 _) rfl rfl <| AU rfl <| AI rfl <| NSR <| MI rfl ?_
   refine Q<|zai Z Z<|G<|zaa Z (fun g6=>?_) (fun g6=>?_)
   ·have hq0 : (za3 ([48] ++ s.take ((3 : Int).toNat))) = za3 ([48] ++ s.take 3) := rfl
    have hn0:(za3 ([48] ++ s.take 3)).2 = 0:=by have:=g6; omega
    have heb:=(zpY (r:=s) O O hn0).2
    have heb2:(za3 ([48] ++ s.take ((3:Int).toNat))).1 = (za3 ([48] ++ s.take 3)).1:=rfl
    refine SR<|MU Z ?_
    first | refine Q (zaW zbM ty5 rfl Wu8 ?_) | refine Q (za4 zbM ty5 rfl ?_)
    refine AC Z<|AI Z<|G<|zah func184 Z (TP (v:=.int .u8 _) Z) (TP (v:=.int .i64 _) Z) ?_
    have he:=zpY (r:=s) O O hn0
    rw [he.1]
    exact ⟨znA he.2,V.pure⟩
   have hq0:(za3 ([48] ++ s.take ((3:Int).toNat))) = za3 ([48] ++ s.take 3):=rfl
   refine zaj<|zan<|SR<|AC Z<|AI Z<|G<|zah func184 Z (TP (v:=.int .u8 _) Z) (TP (v:=.int .i64 _) Z) ?_
   rw [zpX (r:=s) (by omega) (by omega) (by omega)]
   exact ⟨Z,V.pure⟩
  refine zaj<|zan<|SR<|AC Z<|AI Z<|G<|zah func184 Z (TP (v:=.int .u8 _) Z) (TP (v:=.int .i64 _) Z) ?_
  rw [zsM (r:=s) (by omega) (by omega) (by omega)]
  exact ⟨Z,V.pure⟩
 refine OM (t:=22) Z (Vb (Df g4)) Z<|OM (t:=22) Z (Vb (Df g4)) Z<|OM (t:=22) Z (Vb (Df g4)) Z<|Q<|zay (u:=.bool _) (Vb (Df g4)) Z<|AB Z<|G<|zal [(0,str _),(18,.bool _)] E2 fun f=>zas (Vb (Z:false = _))<|zaj<|zan<|SR<|AC Z<|AI Z<|G ?_
 refine zah func184 Z (TP (v:=.int .u8 _) Z) (TP (v:=.int .i64 _) Z) ?_
 rw [zsM (r:=s) (by omega) (by omega) (by omega)]
 exact ⟨Z,V.pure⟩
end Go.SK
namespace Go.SK
open Go Go.Proofs Go.Proofs.Tryz
theorem ent184:zaJ prog 184:=⟨f184,_,func184,Kr,rfl⟩
open Go.RowKit
theorem zlX (s:Tx) (h0:0 < s.length) (w:World) (hG:LxG.holds w) (hl:s.length ≤ 1099511627776):Ret prog 141 #[str s] w (fun v w'=>v = .tuple #[str (zqT (zeR s 1)).1,.int .i64 ((zqT (zeR s 1)).2:Int)] ∧ St w NoM [] [] w'):=by
 refine zax (args:=[str s]) func141 Z Z Z ?_
 have V:St w NoM [] [LxG] w:=St.init_Ds (by simp only [List.forall_mem_cons]; exact ⟨hG,fun _ h=>absurd h List.not_mem_nil⟩)
 refine SR<|AS Z<|AI Z<|G<|zhs<|SR<|AL Z<|G<|SQ ?_
 replace V:=V.pushNil 5 1
 refine RG<|AI Z<|G<|SQ<|zfG<|za7 [(0,str _)] ⟨Z,trivial⟩ (fun (qq:Nat × Tx × Option Addr × Nat)=>[(4,.slice qq.2.2.1 qq.2.1.length qq.2.2.2),(5,.int .i64 (qq.1:Int))]) (fun (qq:Nat × Tx × Option Addr × Nat)=>[Res.sl qq.2.2.1 qq.2.1.length qq.2.2.2 5 1 (qq.2.1.flatMap byC)]) (fun (qq:Nat × Tx × Option Addr × Nat)=>ztr s 1 qq.1 qq.2.1) (fun (qq:Nat × Tx × Option Addr × Nat)=>s.length - qq.1) ((1,[],none,0)) V (znx O) E2 ?_
 intro ⟨i,b,aq,cq⟩ f w V hJ ih1
 replace V:St _ _ ([Res.sl aq b.length cq 5 1 (b.flatMap byC)] ++ []) _ _:=V
 replace hJ:ztr s 1 i b:=hJ
 refine zbj (sl:=[(4,.slice aq b.length cq),(5,.int .i64 (i:Int))]) E2 ?_
 have hidx:(s.getD ((i:Int).toNat) 0).toNat = (s.getD i 0).toNat:=rfl
 have hj2:=hJ.2.1
 have hj3:=hJ.2.2.1
 have hj1:=hJ.1
 refine SQ<|SR<|MI Z<|MS Z<|Q<|zaX (rest:=[]) ty9 Z<|Q<|zbh Z Z<|G<|zaa Z (fun g2=>?_) (fun g2=>?_)
 ·refine SR <| AS Z <| AI Z <| G <| zah func141 Z (TP (v := str _) Z) (TP (v := .int .i64 _) Z) ?_
  rw [zfO hJ (ztq (by omega))]
  exact ⟨Z,V.pure⟩
 refine zaj<|SQ<|SR<|MS Z<|MI Z<|Q<|zaZ ty9 Z Z O O<|AC Z<|G<|zau<|SR<|MC Z<|Q<|zai Z Z<|AB Z ?_
 refine G<|zaa Z (fun g3=>?_) (fun g3=>?_)
 ·refine SR <| ML Z <| Q <| zcZ (l := b) zgh ty5 ty9 Z Z (Res.rs_of_sl (V.hL _ Q0)) Z <| MI Z <| Q <| zaD Z Z Z zbS <| AS Z <| AI Z <| G <| zah func141 Z (TP (v := str _) Z) (TP (v := .int .i64 _) Z) ?_
  rw [zph hJ (by omega) (by omega)]
  unfold zqT; dsimp only
  refine ⟨?_,V.pure⟩
  congr 3; congr 1; have hj1:=hJ.1; congr 1; omega
 refine SR<|MC Z<|Q<|zaY Z Z<|MB Z<|zaz (d:=30) Z (fun g4=>?_) (fun g4=>?_)
 ·refine OM (t := 30) Z (Vb (Dt g4)) Z <| OM (t := 30) Z (Vb (Dt g4)) Z <| Q <| zaE (u := .bool _) (Vb (Dt g4)) Z <| AB Z <| G <| zat (Vb (Z : true = _)) <| SR <| AS Z <| AI Z <| G <| zah func141 Z (TP (v := str _) Z) (TP (v := .int .i64 _) Z) ?_
  rw [zfO hJ (zjb (by omega) (by omega) (zmy (by omega) (by omega)))]
  exact ⟨Z,V.pure⟩
 refine TK (t:=30) Z (Vb (Df g4))<|zad (v:=.int .u8 _) Z<|TK (t:=30) Z (Vb (Df g4))<|zbW Z Z<|Q<|zay (u:=.bool _) (Vb (Df g4)) Z<|AB Z<|G<|zaa Z (fun g5=>?_) (fun g5=>?_)
 ·refine SR <| AS Z <| AI Z <| G <| zah func141 Z (TP (v := str _) Z) (TP (v := .int .i64 _) Z) ?_
  rw [zfO hJ (zjb (by omega) (by omega) (zmy (by omega) (by omega)))]
  exact ⟨Z,V.pure⟩
 refine SR<|MC Z<|Q<|zai Z Z<|AB Z<|G<|zal [(0,str _),(4,.slice _ _ _),(5,.int .i64 _),(6,.int .u8 _),(34,.bool _)] E5 fun f=>zaa Z (fun g6=>?_) (fun g6=>?_)
 ·refine SR <| MS rfl <| MI rfl <| Q <| zaD rfl rfl rfl zbS <| Q <| zcd ty9 rfl rfl (by omega) (by omega) <| Q <| zav (v1 := str _) ent184 rfl rfl <| Ret.det (zkM _ _ (V.hD _ Q0) (by first | omega | (simp only [List.length_drop, List.length_take, List.length_append, List.length_cons, List.length_nil]; omega))) V fun w V => Q <| zad (v := .tuple #[.int .u8 _, .int .i64 _]) rfl <| Q <| Ex (.int .u8 _) rfl rfl <| Q <| Ex (.int .i64 _) rfl rfl <| AC rfl <| AI rfl <| G <| SQ <| SQ ?_
  refine RG<|MI Z<|Q<|zai Z Z<|G<|zaa Z (fun g7=>?_) (fun g7=>?_)
  ·have hpn : zb1 (s.drop i) = none := zpo O O (Int.ofNat_eq_zero.1 g7)
   refine SR<|AS Z<|AI Z<|G<|zah func141 Z (TP (v:=str _) Z) (TP (v:=.int .i64 _) Z) ?_
   rw [zfO hJ (zjb (by omega) (by omega) hpn)]
   exact ⟨Z,V.pure⟩
  have hpt:zb1 (s.drop i) = some (((zgV (s.drop (i + 1))).getD (0,0)).1,((zgV (s.drop (i + 1))).getD (0,0)).2 + 1):=zpn (by omega) (by omega) (fun e=>g7 (by rw [show ((zgV (s.drop (((i:Int) + 1).toNat))).getD (0,0)).2 = 0 from e]; rfl))
  have hpl:=zfS O hpt
  have hidE:((zgV (s.drop (((i:Int) + 1).toNat))).getD (0,0)).2 = ((zgV (s.drop (i + 1))).getD (0,0)).2:=rfl
  refine zaj<|SR<|ML Z<|MC Z<|Q (zaI (z0:=[.int .u8 0]) V zgh ty5 Z Z Kr (.c (v:=.int .u8 _) Z (h:=.nil)) fun w b49 V=>?_)
  refine Q (zaO (news:=byC ((zgV (s.drop (((i:Int) + 1).toNat))).getD (0,0)).1) V zgh ty5 Z Z .u1 Z Z Z (zab (n:=1) (V.objL Q0) _ Z) Z Z O fun w ao8 cp9 V=>?_)
  replace V:=V.drop .u1
  refine AL Z<|NR<|MI Z<|MI Z<|Q<|zaD Z Z Z zbS<|AI Z<|G<|zan<|zal [(0,str _),(4,.slice _ _ _),(5,.int .i64 _)] E3 fun f=>SR<|MI Z<|Q<|zaD Z Z Z zbS<|AI Z ?_
  refine G ?_
  have hI:=zj0 hJ O O hpt
  refine zg1 ?_ (SQ (zaj (ih1 ((i + (((zgV (s.drop (i + 1))).getD (0,0)).2 + 1),b ++ [((zgV (s.drop (i + 1))).getD (0,0)).1],ao8,cp9)) _ w ((by (try dsimp only); omega)) (by rw [List.length_append,List.flatMap_append]; exact V) (hI) ⟨rfl,trivial⟩ ⟨(by simp only [List.length_append]; rfl),(Vi (by (try dsimp only); omega)),trivial⟩)))
  rfl
 refine RG<|ML Z<|MC Z<|Q (zaI (z0:=[.int .u8 0]) V zgh ty5 Z Z Kr (.c (v:=.int .u8 _) Z (h:=.nil)) fun w b18 V=>?_)
 refine Q (zaO (news:=byC (s.getD ((i:Int).toNat) 0)) V zgh ty5 Z Z .u1 Z Z Z (zab (n:=1) (V.objL Q0) _ Z) Z Z O fun w ao10 cp11 V=>?_)
 replace V:=V.drop .u1
 refine AL Z<|G<|zan<|SR<|MI Z<|Q<|zaD Z Z Z zbS<|AI Z<|G ?_
 have hpt:zb1 (s.drop i) = some (s.getD i 0,1):=znz O O O O
 have hI:=zj0 hJ O O hpt
 refine zg1 ?_ (SQ (zaj (ih1 ((i + (1),b ++ [s.getD i 0],ao10,cp11)) _ w ((by (try dsimp only); omega)) (by rw [List.length_append,List.flatMap_append]; exact V) (hI) ⟨rfl,trivial⟩ ⟨(by simp only [List.length_append]; rfl),(Vi (by (try dsimp only); omega)),trivial⟩)))
 rfl
end Go.SK
namespace Go.SK
open Go Go.Proofs Go.Proofs.Tryz
theorem zbO:TyF prog 72 (.struct (zbk prog 72)) 3 32 [.int .u8 0,str [],.int .i64 0]:=zbw Kr Kr
theorem zhn:zcE prog 72 [(0,1),(1,1),(2,1)]:=⟨zbk prog 72,Kr,fun w=>Kr⟩
theorem ent141:zaJ prog 141:=⟨f141,_,func141,Kr,rfl⟩
theorem zbr:TyF prog 28 (.struct (zbk prog 28)) 2 16 [.int .i64 0,.int .i64 0]:=zbw Kr Kr
theorem ziU:TyF prog 65 (.slice 72) 1 24 [.slice none 0 0]:=zbw Kr Kr
theorem zc7:zcE prog 28 [(0,1),(1,1)]:=⟨zbk prog 28,Kr,fun w=>Kr⟩
theorem ent80:zaJ prog 80:=⟨f80,_,func80,Kr,rfl⟩
theorem zcD:FldF prog 72 2 2:=FldF.of (n:=0) Kr
open Go.RowKit
theorem zn7 (s:Tx) (h0:0 < s.length) (w:World) (hG:LxG.holds w) (hl:s.length ≤ 1099511627776):Ret prog 80 #[str s] w (fun v w'=>(∃ kd t m,zeh s = .ok (kd,t,m) ∧ v = .tuple #[.agg #[.int .u8 kd,str t,.int .i64 0],.int .i64 ((m:Nat):Int),.int .i64 0] ∧ St w NoM [] [] w') ∨ (∃ e kd t m,zeh s = .error e ∧ e ≠ 0 ∧ v = .tuple #[.agg #[.int .u8 kd,str t,.int .i64 0],.int .i64 m,.int .i64 e] ∧ St w NoM [] [] w')):=by
 refine zax (args:=[str s]) func80 Z Z Z ?_
 have V:St w NoM [] [LxG] w:=St.init_Ds (by simp only [List.forall_mem_cons]; exact ⟨hG,fun _ h=>absurd h List.not_mem_nil⟩)
 have hidx:(s.getD ((0:Int).toNat) 0).toNat = (s.getD 0 0).toNat:=rfl
 have hru:=zi6 (s.drop (0 + 1))
 rw [List.length_drop] at hru
 have hru1:=zi6 (s.drop ((1:Int).toNat))
 rw [List.length_drop] at hru1
 have h1t:(1:Int).toNat = 1:=rfl
 have hqq:(zqT (zeR s 1)).2 = (zqT (zeR s (0 + 1))).2:=rfl
 have hrr:(zbU (s.drop ((1:Int).toNat))).length = (zbU (s.drop (0 + 1))).length:=rfl
 refine SR<|Q<|zaw V zbO fun w b2 V=>AI Z<|AI Z<|NSR<|MS Z<|Q<|zaZ ty9 Z Z O O<|AC Z<|G<|SQ<|zau<|SQ ?_
 refine zau<|zau<|SQ<|zau<|SQ<|zau<|SQ<|zau<|SQ<|zau<|SQ<|SQ<|SR<|MC Z ?_
 refine Q<|zai Z Z<|AB Z<|G<|zaa Z (fun g1=>?_) (fun g1=>?_)
 ·refine zaU (id := 1) rfl <| SQ <| SR <| MS rfl <| Q <| zav (v1 := str _) ent141 rfl rfl <| Ret.det (zlX _ (by omega) _ (V.hD _ Q0) (by first | omega | (simp only [List.length_drop, List.length_take, List.length_append, List.length_cons, List.length_nil]; omega))) V fun w V => Q <| zad (v := .tuple #[str _, .int .i64 _]) rfl <| Q <| Ex (str _) rfl rfl <| Q <| Ex (.int .i64 _) rfl rfl <| AS rfl <| AI rfl <| G <| SQ <| SQ <| RG ?_
  refine MI Z<|Q<|zai Z Z<|G<|zaa Z (fun g2=>?_) (fun g2=>?_)
  ·refine SR <| Q (zaf zbO zhn .nil ?_)
   refine Q (SO (v:=zb2 _ _ _) V zbO Z Z .u0 fun w V=>?_)
   refine AI Z<|AI Z<|G<|zbP func80 Z (zak (vs:=zlG _ _ _) Z zbO Z Z (zab (n:=3) (V.objL Q0) _ Z)) (TP (v:=.int .i64 _) Z) (TP (v:=.int .i64 _) Z) ?_
   exact .inr ⟨_,_,_,_,zo2 (a:=0) O O,by decide,Z,V.pure⟩
  refine zaj<|SR<|MS Z<|Q (zaf zbO zhn (.c (v:=.int .u8 _) Z (h:=(.c (v:=str _) Z (h:=.nil)))) ?_)
  refine MI Z<|Q (SO (v:=zb2 _ _ _) V zbO Z Z .u0 fun w V=>?_)
  refine AI Z<|AI Z<|G<|zbP func80 Z (zak (vs:=zlG _ _ _) Z zbO Z Z (zab (n:=3) (V.objL Q0) _ Z)) (TP (v:=.int .i64 _) Z) (TP (v:=.int .i64 _) Z) ?_
  exact .inl ⟨_,_,_,zhk (a:=0) O O,Z,V.pure⟩
 refine zaj<|SQ<|SR<|MC Z<|Q<|zai Z Z<|AB Z<|G<|zaa Z (fun g3=>?_) (fun g3=>?_)
 ·refine zaU (id := 2) Z <| SQ <| SR <| Q (zaf zbO zhn (.c (v := .int .u8 _) Z (h := (.c (v := str _) Z (h := .nil)))) ?_)
  refine Q (SO (v:=zb2 _ _ _) V zbO Z Z .u0 fun w V=>?_)
  refine AI Z<|AI Z<|G<|zbP func80 Z (zak (vs:=zlG _ _ _) Z zbO Z Z (zab (n:=3) (V.objL Q0) _ Z)) (TP (v:=.int .i64 _) Z) (TP (v:=.int .i64 _) Z) ?_
  exact .inl ⟨_,_,_,zmi (a:=0) O,Z,V.pure⟩
 refine zaj<|SQ<|SR<|MC Z<|Q<|zai Z Z<|AB Z<|G<|zaa Z (fun g4=>?_) (fun g4=>?_)
 ·refine zaU (id := 3) rfl <| SQ <| SR <| MS rfl <| Q <| zcd ty9 rfl rfl (by omega) (by omega) <| Q <| zav (v1 := str _) zp1 rfl rfl <| Ret.det (zf8 _ _ (by first | omega | (simp only [List.length_drop]; omega))) V fun w V => AS rfl <| G <| zal [(2, Pp _ _), (8, str _)] E2 fun f => SQ <| SR <| MS rfl <| Q <| zav (v1 := str _) ztM rfl rfl <| Ret.det (zgy _ _ (V.hD _ Q0) (by first | omega | (simp only [List.length_drop, List.length_take, List.length_append, List.length_cons, List.length_nil]; omega))) V fun w V => ?_
  refine Q<|zad (v:=.tuple #[.int .u32 _,.bool _]) Z<|Q<|Ex (.int .u32 _) Z Z<|Q<|Ex (.bool _) Z Z<|AU Z<|AB Z<|NSR<|MB Z<|Q<|zaT Z<|G<|zaR Z (fun g5=>?_) (fun g5=>?_)
  ·refine SR <| Q (zaf zbO zhn .nil ?_)
   refine Q (SO (v:=zb2 _ _ _) V zbO Z Z .u0 fun w V=>?_)
   refine AI Z<|AI Z<|G<|zbP func80 Z (zak (vs:=zlG _ _ _) Z zbO Z Z (zab (n:=3) (V.objL Q0) _ Z)) (TP (v:=.int .i64 _) Z) (TP (v:=.int .i64 _) Z) ?_
   exact .inr ⟨_,_,_,_,zrd (a:=0) O (not_t g5),by decide,Z,V.pure⟩
  refine zaj<|SR<|MS Z<|Q (zaf zbO zhn (.c (v:=.int .u8 _) Z (h:=(.c (v:=str _) Z (h:=.nil)))) ?_)
  refine MS Z<|Q<|zaX (rest:=[]) ty9 Z<|Q<|zaD Z Z Z zbS<|Q (SO (v:=zb2 _ _ _) V zbO Z Z .u0 fun w V=>?_)
  refine AI Z<|AI Z<|G<|zbP func80 Z (zak (vs:=zlG _ _ _) Z zbO Z Z (zab (n:=3) (V.objL Q0) _ Z)) (TP (v:=.int .i64 _) Z) (TP (v:=.int .i64 _) Z) ?_
  exact .inl ⟨_,_,_,zmg (a:=0) (by omega) (not_f g5),by rw [show (1:Int) + ((zbU (s.drop ((1:Int).toNat))).length:Int) = (((zbU (s.drop (0 + 1))).length + 1:Nat):Int) by omega]; rfl,V.pure⟩
 refine zaj<|SQ<|SR<|MC Z<|Q<|zav (v1:=.int .u8 _) zrU Z Z<|Ret.det (zed _ _) V fun w V=>Q<|zai Z Z<|AB Z<|G<|zal [(0,str _),(2,Pp _ _),(5,.int .u8 _),(26,.bool _)] E4 fun f=>zaa Z (fun g6=>?_) (fun g6=>?_)
 ·refine zaU (id := 4) rfl <| SQ <| SR <| MS rfl <| Q <| zav (v1 := str _) zp1 rfl rfl <| Ret.det (zf8 _ _ (by first | omega | (simp only [List.length_drop]; omega))) V fun w V => AS rfl <| NSR <| MS rfl <| Q (zaf zbO zhn (.c (v := .int .u8 _) rfl (h := (.c (v := str _) rfl (h := .nil)))) ?_)
  refine MS Z<|Q<|zaX (rest:=[]) ty9 Z<|Q (SO (v:=zb2 _ _ _) V zbO Z Z .u0 fun w V=>?_)
  refine AI Z<|AI Z<|G<|zbP func80 Z (zak (vs:=zlG _ _ _) Z zbO Z Z (zab (n:=3) (V.objL Q0) _ Z)) (TP (v:=.int .i64 _) Z) (TP (v:=.int .i64 _) Z) ?_
  exact .inl ⟨_,_,_,zgZ (a:=0) ((zmH _).1 g6),Z,V.pure⟩
 refine zaj<|SQ<|SR<|MC Z<|Q<|zai Z Z<|AB Z<|G<|zaa Z (fun g7=>?_) (fun g7=>?_)
 ·refine zaU (id := 5) rfl <| zan <| SQ <| SR <| MS rfl <| MS rfl <| Q <| zcd ty9 rfl rfl (by omega) (by omega) <| Q <| zav (v1 := str _) zp1 rfl rfl <| Ret.det (zf8 _ _ (by first | omega | (simp only [List.length_drop]; omega))) V fun w V => Q <| zaX (rest := []) ty9 rfl <| Q <| zaD rfl rfl rfl zbS <| Q <| zcG ty9 rfl rfl (by omega) (by omega) <| AS rfl <| G <| SQ ?_
  refine RG<|MS rfl<|Q<|zav (v1:=str _) zrW rfl rfl<|Ret.det (zdw _ _ (V.hD _ Q0) (by first | omega | (simp only [List.length_drop,List.length_take,List.length_append,List.length_cons,List.length_nil]; omega))) V fun w V=>Q<|zad (v:=.tuple #[.int .u32 _,.int .i64 _]) rfl<|Q<|Ex (.int .u32 _) rfl rfl<|Q<|Ex (.int .i64 _) rfl rfl<|AU rfl<|AI rfl<|NSR<|MS rfl<|Q (zaf zbO zhn (.c (v:=.int .u8 _) rfl (h:=(.c (v:=str _) rfl (h:=.nil)))) ?_)
  refine MS Z<|Q<|zaX (rest:=[]) ty9 Z<|MI Z<|Q (SO (v:=zb2 _ _ _) V zbO Z Z .u0 fun w V=>?_)
  refine AI Z<|AI Z<|G<|zbP func80 Z (zak (vs:=zlG _ _ _) Z zbO Z Z (zab (n:=3) (V.objL Q0) _ Z)) (TP (v:=.int .i64 _) Z) (TP (v:=.int .i64 _) Z) ?_
  have hta:(s.drop 0).take (1 + (zbU (s.drop (0 + 1))).length) = s.take ((1 + ((zbU (s.drop (0 + 1))).length:Int)).toNat):=by rw [List.drop_zero,show (1 + ((zbU (s.drop (0 + 1))).length:Int)).toNat = 1 + (zbU (s.drop (0 + 1))).length by omega]
  by_cases hz:(za3 (s.take ((1 + ((zbU (s.drop (0 + 1))).length:Int)).toNat))).2 = 0
  ·rw [show (za3 (s.take ((1 + ((zbU (s.drop ((1 : Int).toNat))).length : Int)).toNat))).2 = 0 from hz]
   exact .inl ⟨_,_,_,zhl (a:=0) (.inr O) hta hz,Z,V.pure⟩
  ·have h62 := (zmC (s.take ((1 + ((zbU (s.drop (0 + 1))).length : Int)).toNat))).resolve_left hz
   rw [show (za3 (s.take ((1 + ((zbU (s.drop ((1:Int).toNat))).length:Int)).toNat))).2 = 62 from h62]
   exact .inr ⟨_,_,_,_,zjM (a:=0) (.inr O) hta hz,by decide,Z,V.pure⟩
 refine zaj<|SR<|MC Z<|Q<|zav (v1:=.int .u8 _) zrU Z Z<|Ret.det (zed _ _) V fun w V=>Q<|zai Z Z<|AB Z<|G<|zaa Z (fun g8=>?_) (fun g8=>?_)
 ·refine zaU (id := 6) rfl <| SQ <| SR <| MS rfl <| MS rfl <| Q <| zcd ty9 rfl rfl (by omega) (by omega) <| Q <| zav (v1 := str _) zp1 rfl rfl <| Ret.det (zf8 _ _ (by first | omega | (simp only [List.length_drop]; omega))) V fun w V => Q <| zaX (rest := []) ty9 rfl <| Q <| zaD rfl rfl rfl zbS <| Q <| zcG ty9 rfl rfl (by omega) (by omega) <| AS rfl <| G <| SQ <| RG ?_
  refine MS rfl<|Q<|zav (v1:=str _) zrW rfl rfl<|Ret.det (zdw _ _ (V.hD _ Q0) (by first | omega | (simp only [List.length_drop,List.length_take,List.length_append,List.length_cons,List.length_nil]; omega))) V fun w V=>Q<|zad (v:=.tuple #[.int .u32 _,.int .i64 _]) rfl<|Q<|Ex (.int .u32 _) rfl rfl<|Q<|Ex (.int .i64 _) rfl rfl<|AU rfl<|AI rfl<|G<|zal [(2,Pp _ _),(12,str _),(14,.int .i64 _)] E3 fun f=>SR<|MS rfl<|Q (zaf zbO zhn (.c (v:=.int .u8 _) rfl (h:=(.c (v:=str _) rfl (h:=.nil)))) ?_)
  refine MS Z<|Q<|zaX (rest:=[]) ty9 Z<|MI Z<|Q (SO (v:=zb2 _ _ _) V zbO Z Z .u0 fun w V=>?_)
  refine AI Z<|AI Z<|G<|zbP func80 Z (zak (vs:=zlG _ _ _) Z zbO Z Z (zab (n:=3) (V.objL Q0) _ Z)) (TP (v:=.int .i64 _) Z) (TP (v:=.int .i64 _) Z) ?_
  have hta:(s.drop 0).take (1 + (zbU (s.drop (0 + 1))).length) = s.take ((1 + ((zbU (s.drop (0 + 1))).length:Int)).toNat):=by rw [List.drop_zero,show (1 + ((zbU (s.drop (0 + 1))).length:Int)).toNat = 1 + (zbU (s.drop (0 + 1))).length by omega]
  by_cases hz:(za3 (s.take ((1 + ((zbU (s.drop (0 + 1))).length:Int)).toNat))).2 = 0
  ·rw [show (za3 (s.take ((1 + ((zbU (s.drop ((1 : Int).toNat))).length : Int)).toNat))).2 = 0 from hz]
   exact .inl ⟨_,_,_,zhl (a:=0) (.inl ((zjj _).1 g8)) hta hz,Z,V.pure⟩
  ·have h62 := (zmC (s.take ((1 + ((zbU (s.drop (0 + 1))).length : Int)).toNat))).resolve_left hz
   rw [show (za3 (s.take ((1 + ((zbU (s.drop ((1:Int).toNat))).length:Int)).toNat))).2 = 62 from h62]
   exact .inr ⟨_,_,_,_,zjM (a:=0) (.inl ((zjj _).1 g8)) hta hz,by decide,Z,V.pure⟩
 refine zaj<|zaU (id:=0) Z<|SR<|Q (zaf zbO zhn .nil ?_)
 refine Q (SO (v:=zb2 _ _ _) V zbO Z Z .u0 fun w V=>?_)
 refine AI Z<|AI Z<|G<|zbP func80 Z (zak (vs:=zlG _ _ _) Z zbO Z Z (zab (n:=3) (V.objL Q0) _ Z)) (TP (v:=.int .i64 _) Z) (TP (v:=.int .i64 _) Z) ?_
 exact .inr ⟨_,_,_,_,zlm (a:=0) (fun q=>g6 ((zmH _).2 q)) O (fun q=>g8 ((zjj _).2 q)) O O O,by decide,Z,V.pure⟩
theorem zgP (s:Tx) (w:World) (hG:LxG.holds w) (hl:s.length ≤ 1099511627776):Ret prog 38 #[str s] w (fun v w'=>∃ ao cp,v = .tuple #[.slice ao (zbf s).1.length cp,.agg #[.int .i64 (zbf s).2.1,.int .i64 (zbf s).2.2]] ∧ St w NoM [Res.sl ao (zbf s).1.length cp 72 3 ((zbf s).1.flatMap zmj)] [] w'):=by
 refine zax (args:=[str s]) func38 Z Z Z ?_
 have V:St w NoM [] [LxG] w:=St.init_Ds (by simp only [List.forall_mem_cons]; exact ⟨hG,fun _ h=>absurd h List.not_mem_nil⟩)
 refine SR<|AL Z<|Q<|zaw V zbr fun w b3 V=>G<|zhs<|SR<|AL Z<|G<|SQ<|zfG<|SQ<|SQ<|RG ?_
 refine AI Z<|G<|zau<|zba ?_
 replace V:=V.pushNil 72 3
 refine za7 [(0,str _),(3,Pp _ _)] E2 (fun (qq:Nat × List TokL × Option Addr × Nat)=>[(4,.slice qq.2.2.1 qq.2.1.length qq.2.2.2),(5,.int .i64 (qq.1:Int))]) (fun (qq:Nat × List TokL × Option Addr × Nat)=>[Res.sl qq.2.2.1 qq.2.1.length qq.2.2.2 72 3 (qq.2.1.flatMap zmj)]) (fun (qq:Nat × List TokL × Option Addr × Nat)=>ziY s qq.1 qq.2.1) (fun (qq:Nat × List TokL × Option Addr × Nat)=>s.length - qq.1) ((0,[],none,0)) V (zlj s) E2 ?_
 intro ⟨i,l,aq,cq⟩ f w V hJ ih1
 replace V:St _ _ ([Res.sl aq l.length cq 72 3 (l.flatMap zmj)] ++ [_]) _ _:=V
 replace hJ:ziY s i l:=hJ
 refine zbj (sl:=[(4,.slice aq l.length cq),(5,.int .i64 (i:Int))]) E2 ?_
 have hidx:(s.getD ((i:Int).toNat) 0).toNat = (s.getD i 0).toNat:=rfl
 have hj2:=hJ.2.1
 have hj1:=hJ.1
 refine SQ<|SR<|MI Z<|MS Z<|Q<|zaX (rest:=[]) ty9 Z<|Q<|zaY Z Z<|G<|zaa Z (fun g2=>?_) (fun g2=>?_)
 ·refine zaj <| zau <| SQ <| zau <| SR <| MS Z <| MI Z <| Q <| zaZ ty9 Z Z O O <| Q <| zai Z Z <| AB Z <| G <| zaa Z (fun g3 => ?_) (fun g3 => ?_)
  ·refine zaU (id := 0) Z <| SR <| ML Z <| Q (zaf zbr zc7 .nil ?_)
   refine AL Z<|Q (SO (v:=gII _ _) V zbr Z Z .u1 fun w V=>?_)
   refine G<|zah func38 Z (TP (v:=.slice _ _ _) Z) (zak (vs:=lII _ _) Z zbr Z Z (zab (n:=2) (V.objL Q1) _ Z)) ?_
   rw [zjJ hJ (by omega)]
   replace V:=V.pick (.k1 .nil)
   exact ⟨aq,cq,Z,V.noD⟩
  refine SR<|MS Z<|MI Z<|Q<|zaZ ty9 Z Z O O<|Q<|zav (v1:=.int .u8 _) zrU Z Z<|Ret.det (zed _ _) V fun w V=>Q<|zai Z Z<|AB Z<|G<|zaa Z (fun g4=>?_) (fun g4=>?_)
  ·refine SR <| MI Z <| Q <| zaD Z Z Z zbS <| AI Z <| G <| zaU (id := 1) Z <| zaG ?_
   have hI:=zlk hJ O O ((zgr _).1 g4)
   exact ih1 ((i + 1,l,aq,cq)) _ w (Od) V (hI) E2 ⟨Z,(Vi Od),trivial⟩
  refine zaj<|zan<|SR<|MS rfl<|MI rfl<|Q<|zcd ty9 rfl rfl (by omega) (by omega)<|Q (zav (v1:=str _) ent80 rfl rfl ((zn7 (s.drop i) (by rw [List.length_drop]; omega) _ (V.hD _ Q0) (by rw [List.length_drop]; omega)).mono fun v w hp=>?_))
  rcases hp with ⟨kd,t,m,htk,rfl,hp⟩ | ⟨e,kd,t,m,htk,hne,rfl,hp⟩
  ·replace V := V.keepc hp
   have hm:=zfB (by rw [List.length_drop]; omega) htk
   rw [List.length_drop] at hm
   refine Q<|zad (v:=.tuple #[zb2 _ _ _,.int .i64 _,.int .i64 _]) Z<|Q<|Ex (zb2 _ _ _) Z Z<|Q<|Ex (.int .i64 _) Z Z<|Q<|Ex (.int .i64 _) Z Z<|Q<|zaw V zbO fun w b6 V=>Q (SO (v:=zb2 _ _ _) V zbO Z Z .u0 fun w V=>?_)
   refine AI Z<|AI Z<|G<|zal [(0,str _),(3,Pp _ _),(4,.slice _ _ _),(5,.int .i64 _),(6,Pp _ _),(7,.int .i64 _),(8,.int .i64 _)] E7 fun f=>SQ<|SR<|MI Z<|Q<|za8 Z Z<|G<|zaa Z (fun g5=>?_) (fun g5=>?_)
   ·exfalso
    exact g5 Z
   refine zaj<|SR<|MI Z<|Q<|zac zcD Z<|Q (SO (v:=.int .i64 _) V ty3 Z Z .u0 fun w V=>?_)
   refine NSR<|ML Z<|Q<|zaC (vs:=zlG _ _ _) zbO Z Z Z (zab (n:=3) (V.objL Q0) _ Z)<|Q (zaI (z0:=[.int .u8 0,str [],.int .i64 0]) V ziU zbO Z Z Kr (.c (v:=zb2 _ _ _) Z (h:=.nil)) fun w b43 V=>?_)
   refine Q (zaO (news:=zmj ⟨kd,t,(i:Int)⟩) V ziU zbO Z Z .u2 Z Z Z (zab (n:=3) (V.objL Q0) _ Z) Z Z O fun w ao6 cp7 V=>?_)
   replace V:=V.drop .u1
   refine AL Z<|NR<|MI Z<|MI Z<|Q<|zaD Z Z Z zbS<|AI Z<|G<|zan<|zaG ?_
   have hI:=zrb hJ O O (fun q=>g4 ((zgr _).2 q)) htk
   replace V:=V.pick (.k1 (.c .u1 .nil))
   exact ih1 ((i + m,l ++ [⟨kd,t,(i:Int)⟩],ao6,cp7)) _ w ((by (try dsimp only); omega)) (by rw [List.length_append,List.flatMap_append]; exact V) (hI) E2 ⟨(by simp only [List.length_append]; rfl),(Vi (by (try dsimp only); omega)),trivial⟩
  ·replace V := V.keepc hp
   refine Q<|zad (v:=.tuple #[zb2 _ _ _,.int .i64 _,.int .i64 _]) Z<|Q<|Ex (zb2 _ _ _) Z Z<|Q<|Ex (.int .i64 _) Z Z<|Q<|Ex (.int .i64 _) Z Z<|Q<|zaw V zbO fun w b6 V=>Q (SO (v:=zb2 _ _ _) V zbO Z Z .u0 fun w V=>?_)
   refine AI Z<|AI Z<|G<|zal [(0,str _),(3,Pp _ _),(4,.slice _ _ _),(5,.int .i64 _),(6,Pp _ _),(7,.int .i64 _),(8,.int .i64 _)] E7 fun f=>SQ<|SR<|MI Z<|Q<|za8 Z Z<|G<|zaa Z (fun g8=>?_) (fun g8=>?_)
   ·refine SR <| MI Z <| MI Z <| Q (zaf zbr zc7 (.c (v := .int .i64 _) Z (h := (.c (v := .int .i64 _) Z (h := .nil)))) ?_)
    refine AL Z<|Q (SO (v:=gII _ _) V zbr Z Z .u2 fun w V=>?_)
    refine G<|zah func38 Z (TP (v:=.slice _ _ _) Z) (zak (vs:=lII _ _) Z zbr Z Z (zab (n:=2) (V.objL Q2) _ Z)) ?_
    rw [zo1 hJ (by omega) (by omega) (fun q=>g4 ((zgr _).2 q)) htk]
    replace V:=V.pushNil 72 3
    replace V:=V.pick (.k1 .nil)
    exact ⟨none,0,Z,V.noD⟩
   exfalso
   exact g8 hne
 refine zaU (id:=0) Z<|SR<|ML Z<|Q (zaf zbr zc7 .nil ?_)
 refine AL Z<|Q (SO (v:=gII _ _) V zbr Z Z .u1 fun w V=>?_)
 refine G<|zah func38 Z (TP (v:=.slice _ _ _) Z) (zak (vs:=lII _ _) Z zbr Z Z (zab (n:=2) (V.objL Q1) _ Z)) ?_
 rw [zjJ hJ (by omega)]
 replace V:=V.pick (.k1 .nil)
 exact ⟨aq,cq,Z,V.noD⟩
end Go.SK
namespace Go.SK
open Go Go.Proofs Go.Proofs.Tryz
theorem zpR:FldF prog 72 0 0:=FldF.of (n:=0) Kr
theorem zdb:FldF prog 72 1 1:=FldF.of (n:=0) Kr
theorem ent185:zaJ prog 185:=⟨f185,_,func185,Kr,rfl⟩
theorem ent142:zaJ prog 142:=⟨f142,_,func142,Kr,rfl⟩
theorem ent82:zaJ prog 82:=⟨f82,_,func82,Kr,rfl⟩
theorem zjl:FldF prog 130 4 4:=FldF.of (n:=1) Kr
theorem zcs:FldF prog 130 2 2:=FldF.of (n:=0) Kr
theorem zds:FldF prog 130 1 1:=FldF.of (n:=0) Kr
theorem zp3:zaJ prog 73:=⟨f73,_,func73,Kr,rfl⟩
theorem zjm:FldF prog 130 0 0:=FldF.of (n:=0) Kr
theorem zcW:zaJ prog 128:=⟨f128,_,func128,Kr,rfl⟩
theorem zhS:zaJ prog 126:=⟨f126,_,func126,Kr,rfl⟩
theorem zcx:TyF prog 81 (.struct (zbk prog 81)) 2 8 [.int .u32 0,.int .u32 0]:=zbw Kr Kr
theorem zfg:zcE prog 81 [(0,1),(1,1)]:=⟨zbk prog 81,Kr,fun w=>Kr⟩
theorem zmT:zaJ prog 149:=⟨f149,_,func149,Kr,rfl⟩
theorem ent38:zaJ prog 38:=⟨f38,_,func38,Kr,rfl⟩
theorem ty130:TyF prog 130 (.struct (zbk prog 130)) 6 72 [str [],.slice none 0 0,.int .i64 0,.int .u32 0,.int .i64 0,.int .i64 0]:=zbw Kr Kr
theorem stf130:zcE prog 130 [(0,1),(1,1),(2,1),(3,1),(4,2)]:=⟨zbk prog 130,Kr,fun w=>Kr⟩
theorem ent72:zaJ prog 72:=⟨f72,_,func72,Kr,rfl⟩
theorem zco:FldF prog 28 0 0:=FldF.of (n:=0) Kr
theorem zhj:TyF prog 26 (.int .i64) 1 8 [.int .i64 0]:=zbw Kr Kr
theorem ent93:zaJ prog 93:=⟨f93,_,func93,Kr,rfl⟩
theorem zpQ:FldF prog 81 0 0:=FldF.of (n:=0) Kr
theorem zpP:FldF prog 81 1 1:=FldF.of (n:=0) Kr
theorem zmO:FldF prog 130 3 3:=FldF.of (n:=0) Kr
theorem zsX:zaJ prog 129:=⟨f129,_,func129,Kr,rfl⟩
theorem zbc:TyF prog 110 (.struct (zbk prog 110)) 3 24 [.int .u8 0,.int .u32 0,str []]:=zbw Kr Kr
theorem zsW:zaJ prog 130:=⟨f130,_,func130,Kr,rfl⟩
theorem zei:zcE prog 110 [(0,1),(1,1),(2,1)]:=⟨zbk prog 110,Kr,fun w=>Kr⟩
theorem ent209:zaJ prog 209:=⟨f209,_,func209,Kr,rfl⟩
theorem zq8:TyF prog 124 (.pointer 130) 1 8 [.pointer none]:=zbw Kr Kr
theorem ent177:zaJ prog 177:=⟨f177,_,func177,Kr,rfl⟩
theorem ent176:zaJ prog 176:=⟨f176,_,func176,Kr,rfl⟩
theorem ent173:zaJ prog 173:=⟨f173,_,func173,Kr,rfl⟩
theorem ent174:zaJ prog 174:=⟨f174,_,func174,Kr,rfl⟩
theorem ent175:zaJ prog 175:=⟨f175,_,func175,Kr,rfl⟩
theorem zfA:TyF prog 62 (.struct (zbk prog 62)) 2 32 [.int .u16 0,.slice none 0 0]:=zbw Kr Kr
theorem zbB:TyF prog 44 (.struct (zbk prog 44)) 4 40 [.int .u16 0,.int .u32 0,.int .u32 0,.slice none 0 0]:=zbw Kr Kr
theorem zaA:TyF prog 113 (.struct (zbk prog 113)) 8 80 [.int .u16 0,str [],.bool false,.bool false,str [],str [],.int .i64 0,.int .u8 0]:=zbw Kr Kr
theorem ent127:zaJ prog 127:=⟨f127,_,func127,Kr,rfl⟩
theorem zcY:FldF prog 113 3 3:=FldF.of (n:=0) Kr
theorem ty4:TyF prog 4 .bool 1 1 [.bool false]:=zbw Kr Kr
theorem zfZ:FldF prog 113 0 0:=FldF.of (n:=0) Kr
theorem zov:TyF prog 41 (.int .u16) 1 2 [.int .u16 0]:=zbw Kr Kr
theorem zfp:FldF prog 44 0 0:=FldF.of (n:=0) Kr
theorem zcg:FldF prog 44 3 3:=FldF.of (n:=0) Kr
theorem zeo:TyF prog 42 (.slice 110) 1 24 [.slice none 0 0]:=zbw Kr Kr
theorem zsV:zaJ prog 131:=⟨f131,_,func131,Kr,rfl⟩
theorem ent132:zaJ prog 132:=⟨f132,_,func132,Kr,rfl⟩
theorem zdt:FldF prog 110 0 0:=FldF.of (n:=0) Kr
theorem zsU:zaJ prog 133:=⟨f133,_,func133,Kr,rfl⟩
theorem ztN:zaJ prog 37:=⟨f37,_,func37,Kr,rfl⟩
theorem zeY:FldF prog 113 2 2:=FldF.of (n:=0) Kr
theorem zey:FldF prog 44 1 1:=FldF.of (n:=0) Kr
theorem zgt:FldF prog 44 2 2:=FldF.of (n:=0) Kr
theorem ztj:zcE prog 44 [(0,1),(1,1),(2,1),(3,1)]:=⟨zbk prog 44,Kr,fun w=>Kr⟩
theorem ent74:zaJ prog 74:=⟨f74,_,func74,Kr,rfl⟩
theorem ent69:zaJ prog 69:=⟨f69,_,func69,Kr,rfl⟩
theorem zd8:FldF prog 110 1 1:=FldF.of (n:=0) Kr
theorem ent36:zaJ prog 36:=⟨f36,_,func36,Kr,rfl⟩
theorem zjk:FldF prog 62 1 1:=FldF.of (n:=0) Kr
theorem zis:TyF prog 60 (.slice 22) 1 24 [.slice none 0 0]:=zbw Kr Kr
theorem zem:TyF prog 25 (.struct (zbk prog 25)) 3 32 [.int .u32 0,.int .u32 0,.slice none 0 0]:=zbw Kr Kr
theorem zno:zcE prog 25 [(0,1),(1,1),(2,1)]:=⟨zbk prog 25,Kr,fun w=>Kr⟩
theorem ent39:zaJ prog 39:=⟨f39,_,func39,Kr,rfl⟩
theorem ent81:zaJ prog 81:=⟨f81,_,func81,Kr,rfl⟩
theorem ent44:zaJ prog 44:=⟨f44,_,func44,Kr,rfl⟩
theorem zfq:FldF prog 25 0 0:=FldF.of (n:=0) Kr
theorem zcU:FldF prog 25 1 1:=FldF.of (n:=0) Kr
theorem ent45:zaJ prog 45:=⟨f45,_,func45,Kr,rfl⟩
theorem zbR:FldF prog 25 2 2:=FldF.of (n:=0) Kr
theorem zdD:TyF prog 23 (.slice 44) 1 24 [.slice none 0 0]:=zbw Kr Kr
theorem ent90:zaJ prog 90:=⟨f90,_,func90,Kr,rfl⟩
theorem ztO:zaJ prog 17:=⟨f17,_,func17,Kr,rfl⟩
theorem ent19:zaJ prog 19:=⟨f19,_,func19,Kr,rfl⟩
theorem ent178:zaJ prog 178:=⟨f178,_,func178,Kr,rfl⟩
theorem ent179:zaJ prog 179:=⟨f179,_,func179,Kr,rfl⟩
theorem ent180:zaJ prog 180:=⟨f180,_,func180,Kr,rfl⟩
theorem ze6:TyF prog 211 (.array 6 9) 6 96 [str [],str [],str [],str [],str [],str []]:=zbw Kr Kr
theorem ty21:TyF prog 21 (.int .i32) 1 4 [.int .i32 0]:=zbw Kr Kr
open Go.RowKit
theorem zoc (op:Int) (w:World):Ret prog 178 #[.int .u16 op] w (fun v w'=>v = str (zig zpT op) ∧ St w NoM [] [] w'):=by
 refine zax (args:=[.int .u16 op]) func178 Z Z Z ?_
 have V:=St.init w
 refine SR<|AS Z<|G<|SQ<|SR<|MH Z<|G<|zau<|SR<|Q<|zai Z Z<|AB Z<|G ?_
 refine zaa Z (fun g1=>?_) (fun g1=>?_)
 ·refine SR <| AS Z <| G <| zag func178 Z (TP (v := str _) Z) ?_
  subst g1
  exact ⟨congrArg str (by decide +kernel),V.pure⟩
 refine SR<|Q<|zai Z Z<|AB Z<|G<|zaa Z (fun g2=>?_) (fun g2=>?_)
 ·refine SR <| AS Z <| G <| zag func178 Z (TP (v := str _) Z) ?_
  subst g2
  exact ⟨congrArg str (by decide +kernel),V.pure⟩
 refine SR<|Q<|zai Z Z<|AB Z<|G<|zaa Z (fun g3=>?_) (fun g3=>?_)
 ·refine SR <| AS Z <| G <| zag func178 Z (TP (v := str _) Z) ?_
  subst g3
  exact ⟨congrArg str (by decide +kernel),V.pure⟩
 refine SR<|Q<|zai Z Z<|AB Z<|G<|zaa Z (fun g4=>?_) (fun g4=>?_)
 ·refine SR <| AS Z <| G <| zag func178 Z (TP (v := str _) Z) ?_
  subst g4
  exact ⟨congrArg str (by decide +kernel),V.pure⟩
 refine SR<|Q<|zai Z Z<|AB Z<|G<|zaa Z (fun g5=>?_) (fun g5=>?_)
 ·refine SR <| AS Z <| G <| zag func178 Z (TP (v := str _) Z) ?_
  subst g5
  exact ⟨congrArg str (by decide +kernel),V.pure⟩
 refine SR<|Q<|zai Z Z<|AB Z<|G<|zaa Z (fun g6=>?_) (fun g6=>?_)
 ·refine SR <| AS Z <| G <| zag func178 Z (TP (v := str _) Z) ?_
  subst g6
  exact ⟨congrArg str (by decide +kernel),V.pure⟩
 refine SR<|Q<|zai Z Z<|AB Z<|G<|zaa Z (fun g7=>?_) (fun g7=>?_)
 ·refine SR <| AS Z <| G <| zag func178 Z (TP (v := str _) Z) ?_
  subst g7
  exact ⟨congrArg str (by decide +kernel),V.pure⟩
 refine SR<|Q<|zai Z Z<|AB Z<|G<|zaa Z (fun g8=>?_) (fun g8=>?_)
 ·refine SR <| AS Z <| G <| zag func178 Z (TP (v := str _) Z) ?_
  subst g8
  exact ⟨congrArg str (by decide +kernel),V.pure⟩
 refine SR<|Q<|zai Z Z<|AB Z<|G<|zal [(3,.int .u16 _),(20,.bool _)] E2 fun f=>zaa Z (fun g9=>?_) (fun g9=>?_)
 ·refine SR <| AS Z <| G <| zag func178 Z (TP (v := str _) Z) ?_
  subst g9
  exact ⟨congrArg str (by decide +kernel),V.pure⟩
 refine SR<|Q<|zai Z Z<|AB Z<|G<|zaa Z (fun g10=>?_) (fun g10=>?_)
 ·refine SR <| AS Z <| G <| zag func178 Z (TP (v := str _) Z) ?_
  subst g10
  exact ⟨congrArg str (by decide +kernel),V.pure⟩
 refine SR<|Q<|zai Z Z<|AB Z<|G<|zaa Z (fun g11=>?_) (fun g11=>?_)
 ·refine SR <| AS Z <| G <| zag func178 Z (TP (v := str _) Z) ?_
  subst g11
  exact ⟨congrArg str (by decide +kernel),V.pure⟩
 refine SR<|Q<|zai Z Z<|AB Z<|G<|zaa Z (fun g12=>?_) (fun g12=>?_)
 ·refine SR <| AS Z <| G <| zag func178 Z (TP (v := str _) Z) ?_
  subst g12
  exact ⟨congrArg str (by decide +kernel),V.pure⟩
 refine SR<|Q<|zai Z Z<|AB Z<|G<|zaa Z (fun g13=>?_) (fun g13=>?_)
 ·refine SR <| AS Z <| G <| zag func178 Z (TP (v := str _) Z) ?_
  subst g13
  exact ⟨congrArg str (by decide +kernel),V.pure⟩
 refine SR<|Q<|zai Z Z<|AB Z<|G<|zaa Z (fun g14=>?_) (fun g14=>?_)
 ·refine SR <| AS Z <| G <| zag func178 Z (TP (v := str _) Z) ?_
  subst g14
  exact ⟨congrArg str (by decide +kernel),V.pure⟩
 refine SR<|Q<|zai Z Z<|AB Z<|G<|zaa Z (fun g15=>?_) (fun g15=>?_)
 ·refine SR <| AS Z <| G <| zag func178 Z (TP (v := str _) Z) ?_
  subst g15
  exact ⟨congrArg str (by decide +kernel),V.pure⟩
 refine SR<|Q<|zai Z Z<|AB Z<|G<|zaa Z (fun g16=>?_) (fun g16=>?_)
 ·refine SR <| AS Z <| G <| zag func178 Z (TP (v := str _) Z) ?_
  subst g16
  exact ⟨congrArg str (by decide +kernel),V.pure⟩
 refine SR<|Q<|zai Z Z<|AB Z<|G<|zaa Z (fun g17=>?_) (fun g17=>?_)
 ·refine SR <| AS Z <| G <| zag func178 Z (TP (v := str _) Z) ?_
  subst g17
  exact ⟨congrArg str (by decide +kernel),V.pure⟩
 refine SR<|Q<|zai Z Z<|AB Z<|G<|zaa Z (fun g18=>?_) (fun g18=>?_)
 ·refine SR <| AS Z <| G <| zag func178 Z (TP (v := str _) Z) ?_
  subst g18
  exact ⟨congrArg str (by decide +kernel),V.pure⟩
 refine SR<|Q<|zai Z Z<|AB Z<|G<|zal [(3,.int .u16 _),(40,.bool _)] E2 fun f=>zaa Z (fun g19=>?_) (fun g19=>?_)
 ·refine SR <| AS Z <| G <| zag func178 Z (TP (v := str _) Z) ?_
  subst g19
  exact ⟨congrArg str (by decide +kernel),V.pure⟩
 refine SR<|Q<|zai Z Z<|AB Z<|G<|zaa Z (fun g20=>?_) (fun g20=>?_)
 ·refine SR <| AS Z <| G <| zag func178 Z (TP (v := str _) Z) ?_
  subst g20
  exact ⟨congrArg str (by decide +kernel),V.pure⟩
 refine SR<|Q<|zai Z Z<|AB Z<|G<|zaa Z (fun g21=>?_) (fun g21=>?_)
 ·refine SR <| AS Z <| G <| zag func178 Z (TP (v := str _) Z) ?_
  subst g21
  exact ⟨congrArg str (by decide +kernel),V.pure⟩
 refine SR<|Q<|zai Z Z<|AB Z<|G<|zaa Z (fun g22=>?_) (fun g22=>?_)
 ·refine SR <| AS Z <| G <| zag func178 Z (TP (v := str _) Z) ?_
  subst g22
  exact ⟨congrArg str (by decide +kernel),V.pure⟩
 refine SR<|Q<|zai Z Z<|AB Z<|G<|zaa Z (fun g23=>?_) (fun g23=>?_)
 ·refine SR <| AS Z <| G <| zag func178 Z (TP (v := str _) Z) ?_
  subst g23
  exact ⟨congrArg str (by decide +kernel),V.pure⟩
 refine SR<|Q<|zai Z Z<|AB Z<|G<|zaa Z (fun g24=>?_) (fun g24=>?_)
 ·refine SR <| AS Z <| G <| zag func178 Z (TP (v := str _) Z) ?_
  subst g24
  exact ⟨congrArg str (by decide +kernel),V.pure⟩
 refine SR<|Q<|zai Z Z<|AB Z<|G<|zaa Z (fun g25=>?_) (fun g25=>?_)
 ·refine SR <| AS Z <| G <| zag func178 Z (TP (v := str _) Z) ?_
  subst g25
  exact ⟨congrArg str (by decide +kernel),V.pure⟩
 refine SR<|Q<|zai Z Z<|AB Z<|G<|zaa Z (fun g26=>?_) (fun g26=>?_)
 ·refine SR <| AS Z <| G <| zag func178 Z (TP (v := str _) Z) ?_
  subst g26
  exact ⟨congrArg str (by decide +kernel),V.pure⟩
 refine SR<|Q<|zai Z Z<|AB Z<|G<|zaa Z (fun g27=>?_) (fun g27=>?_)
 ·refine SR <| AS Z <| G <| zag func178 Z (TP (v := str _) Z) ?_
  subst g27
  exact ⟨congrArg str (by decide +kernel),V.pure⟩
 refine SR<|Q<|zai Z Z<|AB Z<|G<|zaa Z (fun g28=>?_) (fun g28=>?_)
 ·refine SR <| AS Z <| G <| zag func178 Z (TP (v := str _) Z) ?_
  subst g28
  exact ⟨congrArg str (by decide +kernel),V.pure⟩
 refine SR<|Q<|zai Z Z<|AB Z<|G<|zal [(3,.int .u16 _),(60,.bool _)] E2 fun f=>zaa Z (fun g29=>?_) (fun g29=>?_)
 ·refine SR <| AS Z <| G <| zag func178 Z (TP (v := str _) Z) ?_
  subst g29
  exact ⟨congrArg str (by decide +kernel),V.pure⟩
 refine SR<|Q<|zai Z Z<|AB Z<|G<|zaa Z (fun g30=>?_) (fun g30=>?_)
 ·refine SR <| AS Z <| G <| zag func178 Z (TP (v := str _) Z) ?_
  subst g30
  exact ⟨congrArg str (by decide +kernel),V.pure⟩
 refine SR<|Q<|zai Z Z<|AB Z<|G<|zaa Z (fun g31=>?_) (fun g31=>?_)
 ·refine SR <| AS Z <| G <| zag func178 Z (TP (v := str _) Z) ?_
  subst g31
  exact ⟨congrArg str (by decide +kernel),V.pure⟩
 refine zaj<|zan<|SR<|AS Z<|G<|zag func178 Z (TP (v:=str _) Z) ?_
 exact ⟨congrArg str (zdK (by simp only [zpT,List.forall_mem_cons]; exact ⟨g1,g2,g3,g4,g5,g6,g7,g8,g9,g10,g11,g12,g13,g14,g15,g16,g17,g18,g19,g20,g21,g22,g23,g24,g25,g26,g27,g28,g29,g30,g31,fun _ h=>absurd h List.not_mem_nil⟩)).symm,V.pure⟩
theorem zlZ (op:Int) (w:World):Ret prog 179 #[.int .u16 op] w (fun v w'=>v = str (zig zlr op) ∧ St w NoM [] [] w'):=by
 refine zax (args:=[.int .u16 op]) func179 Z Z Z ?_
 have V:=St.init w
 refine SR<|AS Z<|G<|SQ<|SR<|MH Z<|G<|zau<|SR<|Q<|zai Z Z<|AB Z<|G ?_
 refine zaa Z (fun g1=>?_) (fun g1=>?_)
 ·refine SR <| AS Z <| G <| zag func179 Z (TP (v := str _) Z) ?_
  subst g1
  exact ⟨congrArg str (by decide +kernel),V.pure⟩
 refine SR<|Q<|zai Z Z<|AB Z<|G<|zaa Z (fun g2=>?_) (fun g2=>?_)
 ·refine SR <| AS Z <| G <| zag func179 Z (TP (v := str _) Z) ?_
  subst g2
  exact ⟨congrArg str (by decide +kernel),V.pure⟩
 refine SR<|Q<|zai Z Z<|AB Z<|G<|zaa Z (fun g3=>?_) (fun g3=>?_)
 ·refine SR <| AS Z <| G <| zag func179 Z (TP (v := str _) Z) ?_
  subst g3
  exact ⟨congrArg str (by decide +kernel),V.pure⟩
 refine SR<|Q<|zai Z Z<|AB Z<|G<|zaa Z (fun g4=>?_) (fun g4=>?_)
 ·refine SR <| AS Z <| G <| zag func179 Z (TP (v := str _) Z) ?_
  subst g4
  exact ⟨congrArg str (by decide +kernel),V.pure⟩
 refine SR<|Q<|zai Z Z<|AB Z<|G<|zaa Z (fun g5=>?_) (fun g5=>?_)
 ·refine SR <| AS Z <| G <| zag func179 Z (TP (v := str _) Z) ?_
  subst g5
  exact ⟨congrArg str (by decide +kernel),V.pure⟩
 refine SR<|Q<|zai Z Z<|AB Z<|G<|zaa Z (fun g6=>?_) (fun g6=>?_)
 ·refine SR <| AS Z <| G <| zag func179 Z (TP (v := str _) Z) ?_
  subst g6
  exact ⟨congrArg str (by decide +kernel),V.pure⟩
 refine SR<|Q<|zai Z Z<|AB Z<|G<|zaa Z (fun g7=>?_) (fun g7=>?_)
 ·refine SR <| AS Z <| G <| zag func179 Z (TP (v := str _) Z) ?_
  subst g7
  exact ⟨congrArg str (by decide +kernel),V.pure⟩
 refine SR<|Q<|zai Z Z<|AB Z<|G<|zaa Z (fun g8=>?_) (fun g8=>?_)
 ·refine SR <| AS Z <| G <| zag func179 Z (TP (v := str _) Z) ?_
  subst g8
  exact ⟨congrArg str (by decide +kernel),V.pure⟩
 refine SR<|Q<|zai Z Z<|AB Z<|G<|zal [(3,.int .u16 _),(20,.bool _)] E2 fun f=>zaa Z (fun g9=>?_) (fun g9=>?_)
 ·refine SR <| AS Z <| G <| zag func179 Z (TP (v := str _) Z) ?_
  subst g9
  exact ⟨congrArg str (by decide +kernel),V.pure⟩
 refine SR<|Q<|zai Z Z<|AB Z<|G<|zaa Z (fun g10=>?_) (fun g10=>?_)
 ·refine SR <| AS Z <| G <| zag func179 Z (TP (v := str _) Z) ?_
  subst g10
  exact ⟨congrArg str (by decide +kernel),V.pure⟩
 refine SR<|Q<|zai Z Z<|AB Z<|G<|zaa Z (fun g11=>?_) (fun g11=>?_)
 ·refine SR <| AS Z <| G <| zag func179 Z (TP (v := str _) Z) ?_
  subst g11
  exact ⟨congrArg str (by decide +kernel),V.pure⟩
 refine SR<|Q<|zai Z Z<|AB Z<|G<|zaa Z (fun g12=>?_) (fun g12=>?_)
 ·refine SR <| AS Z <| G <| zag func179 Z (TP (v := str _) Z) ?_
  subst g12
  exact ⟨congrArg str (by decide +kernel),V.pure⟩
 refine SR<|Q<|zai Z Z<|AB Z<|G<|zaa Z (fun g13=>?_) (fun g13=>?_)
 ·refine SR <| AS Z <| G <| zag func179 Z (TP (v := str _) Z) ?_
  subst g13
  exact ⟨congrArg str (by decide +kernel),V.pure⟩
 refine SR<|Q<|zai Z Z<|AB Z<|G<|zaa Z (fun g14=>?_) (fun g14=>?_)
 ·refine SR <| AS Z <| G <| zag func179 Z (TP (v := str _) Z) ?_
  subst g14
  exact ⟨congrArg str (by decide +kernel),V.pure⟩
 refine SR<|Q<|zai Z Z<|AB Z<|G<|zaa Z (fun g15=>?_) (fun g15=>?_)
 ·refine SR <| AS Z <| G <| zag func179 Z (TP (v := str _) Z) ?_
  subst g15
  exact ⟨congrArg str (by decide +kernel),V.pure⟩
 refine SR<|Q<|zai Z Z<|AB Z<|G<|zaa Z (fun g16=>?_) (fun g16=>?_)
 ·refine SR <| AS Z <| G <| zag func179 Z (TP (v := str _) Z) ?_
  subst g16
  exact ⟨congrArg str (by decide +kernel),V.pure⟩
 refine SR<|Q<|zai Z Z<|AB Z<|G<|zaa Z (fun g17=>?_) (fun g17=>?_)
 ·refine SR <| AS Z <| G <| zag func179 Z (TP (v := str _) Z) ?_
  subst g17
  exact ⟨congrArg str (by decide +kernel),V.pure⟩
 refine SR<|Q<|zai Z Z<|AB Z<|G<|zaa Z (fun g18=>?_) (fun g18=>?_)
 ·refine SR <| AS Z <| G <| zag func179 Z (TP (v := str _) Z) ?_
  subst g18
  exact ⟨congrArg str (by decide +kernel),V.pure⟩
 refine SR<|Q<|zai Z Z<|AB Z<|G<|zal [(3,.int .u16 _),(40,.bool _)] E2 fun f=>zaa Z (fun g19=>?_) (fun g19=>?_)
 ·refine SR <| AS Z <| G <| zag func179 Z (TP (v := str _) Z) ?_
  subst g19
  exact ⟨congrArg str (by decide +kernel),V.pure⟩
 refine SR<|Q<|zai Z Z<|AB Z<|G<|zaa Z (fun g20=>?_) (fun g20=>?_)
 ·refine SR <| AS Z <| G <| zag func179 Z (TP (v := str _) Z) ?_
  subst g20
  exact ⟨congrArg str (by decide +kernel),V.pure⟩
 refine SR<|Q<|zai Z Z<|AB Z<|G<|zaa Z (fun g21=>?_) (fun g21=>?_)
 ·refine SR <| AS Z <| G <| zag func179 Z (TP (v := str _) Z) ?_
  subst g21
  exact ⟨congrArg str (by decide +kernel),V.pure⟩
 refine SR<|Q<|zai Z Z<|AB Z<|G<|zaa Z (fun g22=>?_) (fun g22=>?_)
 ·refine SR <| AS Z <| G <| zag func179 Z (TP (v := str _) Z) ?_
  subst g22
  exact ⟨congrArg str (by decide +kernel),V.pure⟩
 refine SR<|Q<|zai Z Z<|AB Z<|G<|zaa Z (fun g23=>?_) (fun g23=>?_)
 ·refine SR <| AS Z <| G <| zag func179 Z (TP (v := str _) Z) ?_
  subst g23
  exact ⟨congrArg str (by decide +kernel),V.pure⟩
 refine SR<|Q<|zai Z Z<|AB Z<|G<|zaa Z (fun g24=>?_) (fun g24=>?_)
 ·refine SR <| AS Z <| G <| zag func179 Z (TP (v := str _) Z) ?_
  subst g24
  exact ⟨congrArg str (by decide +kernel),V.pure⟩
 refine SR<|Q<|zai Z Z<|AB Z<|G<|zaa Z (fun g25=>?_) (fun g25=>?_)
 ·refine SR <| AS Z <| G <| zag func179 Z (TP (v := str _) Z) ?_
  subst g25
  exact ⟨congrArg str (by decide +kernel),V.pure⟩
 refine SR<|Q<|zai Z Z<|AB Z<|G<|zaa Z (fun g26=>?_) (fun g26=>?_)
 ·refine SR <| AS Z <| G <| zag func179 Z (TP (v := str _) Z) ?_
  subst g26
  exact ⟨congrArg str (by decide +kernel),V.pure⟩
 refine SR<|Q<|zai Z Z<|AB Z<|G<|zaa Z (fun g27=>?_) (fun g27=>?_)
 ·refine SR <| AS Z <| G <| zag func179 Z (TP (v := str _) Z) ?_
  subst g27
  exact ⟨congrArg str (by decide +kernel),V.pure⟩
 refine SR<|Q<|zai Z Z<|AB Z<|G<|zaa Z (fun g28=>?_) (fun g28=>?_)
 ·refine SR <| AS Z <| G <| zag func179 Z (TP (v := str _) Z) ?_
  subst g28
  exact ⟨congrArg str (by decide +kernel),V.pure⟩
 refine SR<|Q<|zai Z Z<|AB Z<|G<|zal [(3,.int .u16 _),(60,.bool _)] E2 fun f=>zaa Z (fun g29=>?_) (fun g29=>?_)
 ·refine SR <| AS Z <| G <| zag func179 Z (TP (v := str _) Z) ?_
  subst g29
  exact ⟨congrArg str (by decide +kernel),V.pure⟩
 refine SR<|Q<|zai Z Z<|AB Z<|G<|zaa Z (fun g30=>?_) (fun g30=>?_)
 ·refine SR <| AS Z <| G <| zag func179 Z (TP (v := str _) Z) ?_
  subst g30
  exact ⟨congrArg str (by decide +kernel),V.pure⟩
 refine SR<|Q<|zai Z Z<|AB Z<|G<|zaa Z (fun g31=>?_) (fun g31=>?_)
 ·refine SR <| AS Z <| G <| zag func179 Z (TP (v := str _) Z) ?_
  subst g31
  exact ⟨congrArg str (by decide +kernel),V.pure⟩
 refine zaj<|zan<|SR<|AS Z<|G<|zag func179 Z (TP (v:=str _) Z) ?_
 exact ⟨congrArg str (zdK (by simp only [zlr,List.forall_mem_cons]; exact ⟨g1,g2,g3,g4,g5,g6,g7,g8,g9,g10,g11,g12,g13,g14,g15,g16,g17,g18,g19,g20,g21,g22,g23,g24,g25,g26,g27,g28,g29,g30,g31,fun _ h=>absurd h List.not_mem_nil⟩)).symm,V.pure⟩
theorem zoa (op:Int) (w:World):Ret prog 180 #[.int .u16 op] w (fun v w'=>v = str (zig thirdT op) ∧ St w NoM [] [] w'):=by
 refine zax (args:=[.int .u16 op]) func180 Z Z Z ?_
 have V:=St.init w
 refine SR<|AS Z<|G<|SQ<|SR<|MH Z<|G<|zau<|SR<|Q<|zai Z Z<|AB Z<|G ?_
 refine zaa Z (fun g1=>?_) (fun g1=>?_)
 ·refine SR <| AS Z <| G <| zag func180 Z (TP (v := str _) Z) ?_
  subst g1
  exact ⟨congrArg str (by decide +kernel),V.pure⟩
 refine SR<|Q<|zai Z Z<|AB Z<|G<|zaa Z (fun g2=>?_) (fun g2=>?_)
 ·refine SR <| AS Z <| G <| zag func180 Z (TP (v := str _) Z) ?_
  subst g2
  exact ⟨congrArg str (by decide +kernel),V.pure⟩
 refine SR<|Q<|zai Z Z<|AB Z<|G<|zaa Z (fun g3=>?_) (fun g3=>?_)
 ·refine SR <| AS Z <| G <| zag func180 Z (TP (v := str _) Z) ?_
  subst g3
  exact ⟨congrArg str (by decide +kernel),V.pure⟩
 refine SR<|Q<|zai Z Z<|AB Z<|G<|zaa Z (fun g4=>?_) (fun g4=>?_)
 ·refine SR <| AS Z <| G <| zag func180 Z (TP (v := str _) Z) ?_
  subst g4
  exact ⟨congrArg str (by decide +kernel),V.pure⟩
 refine SR<|Q<|zai Z Z<|AB Z<|G<|zaa Z (fun g5=>?_) (fun g5=>?_)
 ·refine SR <| AS Z <| G <| zag func180 Z (TP (v := str _) Z) ?_
  subst g5
  exact ⟨congrArg str (by decide +kernel),V.pure⟩
 refine SR<|Q<|zai Z Z<|AB Z<|G<|zaa Z (fun g6=>?_) (fun g6=>?_)
 ·refine SR <| AS Z <| G <| zag func180 Z (TP (v := str _) Z) ?_
  subst g6
  exact ⟨congrArg str (by decide +kernel),V.pure⟩
 refine SR<|Q<|zai Z Z<|AB Z<|G<|zaa Z (fun g7=>?_) (fun g7=>?_)
 ·refine SR <| AS Z <| G <| zag func180 Z (TP (v := str _) Z) ?_
  subst g7
  exact ⟨congrArg str (by decide +kernel),V.pure⟩
 refine SR<|Q<|zai Z Z<|AB Z<|G<|zaa Z (fun g8=>?_) (fun g8=>?_)
 ·refine SR <| AS Z <| G <| zag func180 Z (TP (v := str _) Z) ?_
  subst g8
  exact ⟨congrArg str (by decide +kernel),V.pure⟩
 refine SR<|Q<|zai Z Z<|AB Z<|G<|zal [(3,.int .u16 _),(20,.bool _)] E2 fun f=>zaa Z (fun g9=>?_) (fun g9=>?_)
 ·refine SR <| AS Z <| G <| zag func180 Z (TP (v := str _) Z) ?_
  subst g9
  exact ⟨congrArg str (by decide +kernel),V.pure⟩
 refine SR<|Q<|zai Z Z<|AB Z<|G<|zaa Z (fun g10=>?_) (fun g10=>?_)
 ·refine SR <| AS Z <| G <| zag func180 Z (TP (v := str _) Z) ?_
  subst g10
  exact ⟨congrArg str (by decide +kernel),V.pure⟩
 refine SR<|Q<|zai Z Z<|AB Z<|G<|zaa Z (fun g11=>?_) (fun g11=>?_)
 ·refine SR <| AS Z <| G <| zag func180 Z (TP (v := str _) Z) ?_
  subst g11
  exact ⟨congrArg str (by decide +kernel),V.pure⟩
 refine SR<|Q<|zai Z Z<|AB Z<|G<|zaa Z (fun g12=>?_) (fun g12=>?_)
 ·refine SR <| AS Z <| G <| zag func180 Z (TP (v := str _) Z) ?_
  subst g12
  exact ⟨congrArg str (by decide +kernel),V.pure⟩
 refine SR<|Q<|zai Z Z<|AB Z<|G<|zaa Z (fun g13=>?_) (fun g13=>?_)
 ·refine SR <| AS Z <| G <| zag func180 Z (TP (v := str _) Z) ?_
  subst g13
  exact ⟨congrArg str (by decide +kernel),V.pure⟩
 refine SR<|Q<|zai Z Z<|AB Z<|G<|zaa Z (fun g14=>?_) (fun g14=>?_)
 ·refine SR <| AS Z <| G <| zag func180 Z (TP (v := str _) Z) ?_
  subst g14
  exact ⟨congrArg str (by decide +kernel),V.pure⟩
 refine SR<|Q<|zai Z Z<|AB Z<|G<|zaa Z (fun g15=>?_) (fun g15=>?_)
 ·refine SR <| AS Z <| G <| zag func180 Z (TP (v := str _) Z) ?_
  subst g15
  exact ⟨congrArg str (by decide +kernel),V.pure⟩
 refine SR<|Q<|zai Z Z<|AB Z<|G<|zaa Z (fun g16=>?_) (fun g16=>?_)
 ·refine SR <| AS Z <| G <| zag func180 Z (TP (v := str _) Z) ?_
  subst g16
  exact ⟨congrArg str (by decide +kernel),V.pure⟩
 refine SR<|Q<|zai Z Z<|AB Z<|G<|zaa Z (fun g17=>?_) (fun g17=>?_)
 ·refine SR <| AS Z <| G <| zag func180 Z (TP (v := str _) Z) ?_
  subst g17
  exact ⟨congrArg str (by decide +kernel),V.pure⟩
 refine SR<|Q<|zai Z Z<|AB Z<|G<|zaa Z (fun g18=>?_) (fun g18=>?_)
 ·refine SR <| AS Z <| G <| zag func180 Z (TP (v := str _) Z) ?_
  subst g18
  exact ⟨congrArg str (by decide +kernel),V.pure⟩
 refine SR<|Q<|zai Z Z<|AB Z<|G<|zal [(3,.int .u16 _),(40,.bool _)] E2 fun f=>zaa Z (fun g19=>?_) (fun g19=>?_)
 ·refine SR <| AS Z <| G <| zag func180 Z (TP (v := str _) Z) ?_
  subst g19
  exact ⟨congrArg str (by decide +kernel),V.pure⟩
 refine SR<|Q<|zai Z Z<|AB Z<|G<|zaa Z (fun g20=>?_) (fun g20=>?_)
 ·refine SR <| AS Z <| G <| zag func180 Z (TP (v := str _) Z) ?_
  subst g20
  exact ⟨congrArg str (by decide +kernel),V.pure⟩
 refine SR<|Q<|zai Z Z<|AB Z<|G<|zaa Z (fun g21=>?_) (fun g21=>?_)
 ·refine SR <| AS Z <| G <| zag func180 Z (TP (v := str _) Z) ?_
  subst g21
  exact ⟨congrArg str (by decide +kernel),V.pure⟩
 refine SR<|Q<|zai Z Z<|AB Z<|G<|zaa Z (fun g22=>?_) (fun g22=>?_)
 ·refine SR <| AS Z <| G <| zag func180 Z (TP (v := str _) Z) ?_
  subst g22
  exact ⟨congrArg str (by decide +kernel),V.pure⟩
 refine SR<|Q<|zai Z Z<|AB Z<|G<|zaa Z (fun g23=>?_) (fun g23=>?_)
 ·refine SR <| AS Z <| G <| zag func180 Z (TP (v := str _) Z) ?_
  subst g23
  exact ⟨congrArg str (by decide +kernel),V.pure⟩
 refine SR<|Q<|zai Z Z<|AB Z<|G<|zaa Z (fun g24=>?_) (fun g24=>?_)
 ·refine SR <| AS Z <| G <| zag func180 Z (TP (v := str _) Z) ?_
  subst g24
  exact ⟨congrArg str (by decide +kernel),V.pure⟩
 refine SR<|Q<|zai Z Z<|AB Z<|G<|zaa Z (fun g25=>?_) (fun g25=>?_)
 ·refine SR <| AS Z <| G <| zag func180 Z (TP (v := str _) Z) ?_
  subst g25
  exact ⟨congrArg str (by decide +kernel),V.pure⟩
 refine SR<|Q<|zai Z Z<|AB Z<|G<|zaa Z (fun g26=>?_) (fun g26=>?_)
 ·refine SR <| AS Z <| G <| zag func180 Z (TP (v := str _) Z) ?_
  subst g26
  exact ⟨congrArg str (by decide +kernel),V.pure⟩
 refine SR<|Q<|zai Z Z<|AB Z<|G<|zaa Z (fun g27=>?_) (fun g27=>?_)
 ·refine SR <| AS Z <| G <| zag func180 Z (TP (v := str _) Z) ?_
  subst g27
  exact ⟨congrArg str (by decide +kernel),V.pure⟩
 refine SR<|Q<|zai Z Z<|AB Z<|G<|zaa Z (fun g28=>?_) (fun g28=>?_)
 ·refine SR <| AS Z <| G <| zag func180 Z (TP (v := str _) Z) ?_
  subst g28
  exact ⟨congrArg str (by decide +kernel),V.pure⟩
 refine SR<|Q<|zai Z Z<|AB Z<|G<|zal [(3,.int .u16 _),(60,.bool _)] E2 fun f=>zaa Z (fun g29=>?_) (fun g29=>?_)
 ·refine SR <| AS Z <| G <| zag func180 Z (TP (v := str _) Z) ?_
  subst g29
  exact ⟨congrArg str (by decide +kernel),V.pure⟩
 refine SR<|Q<|zai Z Z<|AB Z<|G<|zaa Z (fun g30=>?_) (fun g30=>?_)
 ·refine SR <| AS Z <| G <| zag func180 Z (TP (v := str _) Z) ?_
  subst g30
  exact ⟨congrArg str (by decide +kernel),V.pure⟩
 refine SR<|Q<|zai Z Z<|AB Z<|G<|zaa Z (fun g31=>?_) (fun g31=>?_)
 ·refine SR <| AS Z <| G <| zag func180 Z (TP (v := str _) Z) ?_
  subst g31
  exact ⟨congrArg str (by decide +kernel),V.pure⟩
 refine zaj<|zan<|SR<|AS Z<|G<|zag func180 Z (TP (v:=str _) Z) ?_
 exact ⟨congrArg str (zdK (by simp only [thirdT,List.forall_mem_cons]; exact ⟨g1,g2,g3,g4,g5,g6,g7,g8,g9,g10,g11,g12,g13,g14,g15,g16,g17,g18,g19,g20,g21,g22,g23,g24,g25,g26,g27,g28,g29,g30,g31,fun _ h=>absurd h List.not_mem_nil⟩)).symm,V.pure⟩
theorem zsp (op:Int) (w:World):Ret prog 134 #[.int .u16 op] w (fun v w'=>v = str (zi8 op) ∧ St w NoM [] [] w'):=by
 refine zax (args:=[.int .u16 op]) func134 Z Z Z ?_
 have V:=St.init w
 refine SR<|AS Z<|G<|SQ<|zau<|SR<|MH Z<|Q<|zby Z Z<|AB Z<|G<|zaa Z (fun g1=>?_) (fun g1=>?_)
 ·refine SR <| MH Z <| Q <| zav (v1 := .int .u16 _) ent178 Z Z <| Ret.det (zoc _ _) V fun w V => AS Z <| G <| zag func134 Z (TP (v := str _) Z) <| ⟨congrArg str ?_, V.pure⟩
  unfold zi8
  rw [if_pos g1]
 refine SR<|MH Z<|Q<|zby Z Z<|AB Z<|G<|zaa Z (fun g2=>?_) (fun g2=>?_)
 ·refine SR <| MH Z <| Q <| zav (v1 := .int .u16 _) ent179 Z Z <| Ret.det (zlZ _ _) V fun w V => AS Z <| G <| zag func134 Z (TP (v := str _) Z) <| ⟨congrArg str ?_, V.pure⟩
  unfold zi8
  rw [if_neg g1,if_pos g2]
 refine zaj<|zan<|SR<|MH Z<|Q<|zav (v1:=.int .u16 _) ent180 Z Z<|Ret.det (zoa _ _) V fun w V=>AS Z<|G<|zag func134 Z (TP (v:=str _) Z)<|⟨congrArg str ?_,V.pure⟩
 unfold zi8
 rw [if_neg g1,if_neg g2]
theorem ziM (c:Int) (w:World):Ret prog 181 #[.int .u8 c] w (fun v w'=>v = str (zig zdI c) ∧ St w NoM [] [] w'):=by
 refine zax (args:=[.int .u8 c]) func181 Z Z Z ?_
 have V:=St.init w
 refine SR<|AS Z<|G<|SQ<|SR<|MC Z<|G<|zau<|SR<|Q<|zai Z Z<|AB Z<|G ?_
 refine zaa Z (fun g1=>?_) (fun g1=>?_)
 ·refine SR <| AS Z <| G <| zag func181 Z (TP (v := str _) Z) ?_
  subst g1
  exact ⟨congrArg str (by decide +kernel),V.pure⟩
 refine SR<|Q<|zai Z Z<|AB Z<|G<|zaa Z (fun g2=>?_) (fun g2=>?_)
 ·refine SR <| AS Z <| G <| zag func181 Z (TP (v := str _) Z) ?_
  subst g2
  exact ⟨congrArg str (by decide +kernel),V.pure⟩
 refine SR<|Q<|zai Z Z<|AB Z<|G<|zaa Z (fun g3=>?_) (fun g3=>?_)
 ·refine SR <| AS Z <| G <| zag func181 Z (TP (v := str _) Z) ?_
  subst g3
  exact ⟨congrArg str (by decide +kernel),V.pure⟩
 refine SR<|Q<|zai Z Z<|AB Z<|G<|zaa Z (fun g4=>?_) (fun g4=>?_)
 ·refine SR <| AS Z <| G <| zag func181 Z (TP (v := str _) Z) ?_
  subst g4
  exact ⟨congrArg str (by decide +kernel),V.pure⟩
 refine SR<|Q<|zai Z Z<|AB Z<|G<|zaa Z (fun g5=>?_) (fun g5=>?_)
 ·refine SR <| AS Z <| G <| zag func181 Z (TP (v := str _) Z) ?_
  subst g5
  exact ⟨congrArg str (by decide +kernel),V.pure⟩
 refine SR<|Q<|zai Z Z<|AB Z<|G<|zaa Z (fun g6=>?_) (fun g6=>?_)
 ·refine SR <| AS Z <| G <| zag func181 Z (TP (v := str _) Z) ?_
  subst g6
  exact ⟨congrArg str (by decide +kernel),V.pure⟩
 refine SR<|Q<|zai Z Z<|AB Z<|G<|zaa Z (fun g7=>?_) (fun g7=>?_)
 ·refine SR <| AS Z <| G <| zag func181 Z (TP (v := str _) Z) ?_
  subst g7
  exact ⟨congrArg str (by decide +kernel),V.pure⟩
 refine SR<|Q<|zai Z Z<|AB Z<|G<|zaa Z (fun g8=>?_) (fun g8=>?_)
 ·refine SR <| AS Z <| G <| zag func181 Z (TP (v := str _) Z) ?_
  subst g8
  exact ⟨congrArg str (by decide +kernel),V.pure⟩
 refine SR<|Q<|zai Z Z<|AB Z<|G<|zal [(3,.int .u8 _),(20,.bool _)] E2 fun f=>zaa Z (fun g9=>?_) (fun g9=>?_)
 ·refine SR <| AS Z <| G <| zag func181 Z (TP (v := str _) Z) ?_
  subst g9
  exact ⟨congrArg str (by decide +kernel),V.pure⟩
 refine SR<|Q<|zai Z Z<|AB Z<|G<|zaa Z (fun g10=>?_) (fun g10=>?_)
 ·refine SR <| AS Z <| G <| zag func181 Z (TP (v := str _) Z) ?_
  subst g10
  exact ⟨congrArg str (by decide +kernel),V.pure⟩
 refine SR<|Q<|zai Z Z<|AB Z<|G<|zaa Z (fun g11=>?_) (fun g11=>?_)
 ·refine SR <| AS Z <| G <| zag func181 Z (TP (v := str _) Z) ?_
  subst g11
  exact ⟨congrArg str (by decide +kernel),V.pure⟩
 refine zaj<|zan<|SR<|AS Z<|G<|zag func181 Z (TP (v:=str _) Z) ?_
 exact ⟨congrArg str (zdK (by simp only [zdI,List.forall_mem_cons]; exact ⟨g1,g2,g3,g4,g5,g6,g7,g8,g9,g10,g11,fun _ h=>absurd h List.not_mem_nil⟩)).symm,V.pure⟩
theorem zoi {l:List zcI} {n:Nat} {a:Int} (ha:a = n) (hn:n < l.length):(l.map str)[0 + a.toNat * 1]? = some (str (l.getD n [])):=by
 subst ha; simp [List.getD,hn]
theorem zoh {l:List zcI} {n:Nat} {c:UInt8} (hn:n < l.length):zbH (l.map str) (0 + (n:Int).toNat * 1) [str (l.getD n [] ++ [UInt8.ofNat ((c.toNat:Int)).toNat])] = (l.modify n (· ++ [c])).map str:=by
 simp only [zbH,Int.toNat_natCast,Nat.mul_one,Nat.zero_add,UInt8.ofNat_toNat]
 apply List.ext_getElem
 ·simp
 ·intro j h1 h2
  simp only [List.length_map,List.length_modify] at h2
  by_cases hj:n = j
  ·subst hj; simp [List.getElem_modify,List.getD,hn]
  ·simp [List.getElem_modify,hj,List.getElem_set_ne hj]
theorem R7six {l:List zcI} (h:l.length = 6):∃ f0 f1 f2 f3 f4 f5,l = [f0,f1,f2,f3,f4,f5]:=by
 match l,h with
 | [f0,f1,f2,f3,f4,f5],_=>exact ⟨f0,f1,f2,f3,f4,f5,rfl⟩
theorem zl2 (s f0 f1 f2 f3 f4 f5:zcI) (hok:zpa s = true) (hf:zcu s = [f0,f1,f2,f3,f4,f5]) (w:World):Ret prog 135 #[str s] w (fun v w'=>v = .agg #[str f0,str f1,str f2,str f3,str f4,str f5] ∧ St w NoM [] [] w'):=by
 refine zax (args:=[str s]) func135 Z Z Z ?_
 have V:=St.init w
 obtain ⟨hasc,h5,hlen,_,_⟩:=ziv hok
 refine SR<|Q<|zaw V ze6 fun w b2 V=>NSR<|Q<|zaw V ze6 fun w b3 V=>NSR<|AI Z<|G<|SQ<|SQ<|RG ?_
 refine MS Z<|Q<|ze2 V ty9 Z fun w it8 V=>G<|zau<|zba<|za7 [(2,Pp _ _),(3,Pp _ _),(8,.pointer (some ⟨_,0,none⟩))] E3 (fun (i:Nat)=>[(4,.int .i64 ((zbp (s.take i)).1:Int))]) (fun (i:Nat)=>[Res.iter it8 s i,Res.row b3 211 ((zbp (s.take i)).2.map str)]) (fun (i:Nat)=>i ≤ s.length) (fun (i:Nat)=>s.length - i) (0) V (Nat.zero_le _) ⟨Z,trivial⟩ ?_
 intro i f w V hJ ih1
 refine SQ<|RG ?_
 rcases Nat.lt_or_ge i s.length with g2 | g2
 ·have hc := hasc _ (List.getElem_mem g2)
  have hstep:=zgM g2
  have hat:(zbp (s.take (i + 1))).1 ≤ 5:=Nat.le_trans ziF h5
  have hat0:(zbp (s.take i)).1 ≤ 5:=Nat.le_trans ziF h5
  have hsh:((zbp (s.take i)).2.getD (zbp (s.take i)).1 []).length ≤ i:=znY (zf1 s i hJ)
  refine Q (zga V Z .u0 (List.getElem?_eq_getElem g2) (hc) fun w V=>?_)
  refine Q<|Ex (.bool _) Z Z<|G<|SQ<|zat (Vb (Z:true = _))<|zaj<|zau<|SR<|Q<|Ex (.int .i32 _) Z Z<|Q<|zao (v:=.int .i32 _) Z<|NSR<|Q<|zad (v:=.int .i32 _) Z<|Q (zai Z Z ?_)
  refine G<|zaa Z (fun g3=>?_) (fun g3=>?_)
  ·refine RG <| MI Z <| Q <| zaD Z Z Z zbS <| AI Z <| G <| zan <| zaG ?_
   have hsp:zbp (s.take (i + 1)) = ((zbp (s.take i)).1 + 1,(zbp (s.take i)).2):=by rw [hstep]; unfold zgS; rw [if_pos (UInt8.toNat_inj.1 (by have:(32:UInt8).toNat = 32:=rfl; omega))]
   exact ih1 (i + 1) _ w (by omega) (by (try dsimp only); rw [hsp]; exact V) (by omega) E3 ⟨(Vi (by rw [hsp]; rfl)),trivial⟩
  refine RG<|MI rfl<|Q<|zbK ze6 ty9 rfl rfl (by omega) (by omega)<|Q<|zae (v:=str _) ty9 rfl rfl (V.cellL Q1 (zoi rfl (by rw [zea]; omega)))<|Q<|zad (v:=.int .i32 _) rfl<|Q<|zh1 ty21 ty9 rfl (by omega) (by omega)<|Q<|za2 rfl rfl (by first | omega | (simp only [List.length_cons,List.length_nil,List.length_append]; omega) | (simp; omega))<|Q<|zbK ze6 ty9 rfl rfl (by omega) (by omega)<|Q<|zl6 (v:=str _) V ty9 rfl rfl rfl rfl rfl .u1 (by simp only [List.length_map,zea,List.length_cons,List.length_nil]; omega) fun w V=>G<|zan<|zaG ?_
  have hsp:zbp (s.take (i + 1)) = ((zbp (s.take i)).1,(zbp (s.take i)).2.modify (zbp (s.take i)).1 (· ++ [s[i]])):=by rw [hstep]; unfold zgS; rw [if_neg (fun he=>g3 (by rw [he]; rfl))]
  exact ih1 (i + 1) _ w (by omega) (by (try dsimp only); rw [hsp]; dsimp only; rw [← zoh (by rw [zea]; omega)]; exact V) (by omega) E3 ⟨(Vi (by rw [hsp])),trivial⟩
 obtain rfl:i = s.length:=by omega
 rw [List.take_length,show (zbp s).2 = [f0,f1,f2,f3,f4,f5] from hf] at V
 dsimp only [List.map] at V
 refine Q<|zgb V Z Q0 g2<|Q<|Ex (.bool _) Z Z<|G<|SQ<|zas (Vb (Z:false = _))<|zaU (id:=0) Z<|SR<|Q<|zaC (vs:=[str _,str _,str _,str _,str _,str _]) ze6 Z Z Z (zab (n:=6) (V.objL Q1) _ Z)<|Q (SO (v:=.agg #[str _,str _,str _,str _,str _,str _]) V ze6 Z Z .u2 fun w V=>?_)
 refine G<|zag func135 Z (zak (vs:=[str _,str _,str _,str _,str _,str _]) Z ze6 Z Z (zab (n:=6) (V.objL Q2) _ Z)) ?_
 exact ⟨Z,V.pure⟩
end Go.SK
namespace Go.SK
open Go Go.Proofs Go.Proofs.Tryz
theorem zjP:zcE prog 113 [(0,1),(1,1),(2,1),(3,1),(4,1),(5,1),(6,1),(7,1)]:=⟨zbk prog 113,Kr,fun w=>Kr⟩
theorem zaP:zaJ prog 147:=⟨f147,_,func147,Kr,rfl⟩
theorem ent134:zaJ prog 134:=⟨f134,_,func134,Kr,rfl⟩
theorem ent135:zaJ prog 135:=⟨f135,_,func135,Kr,rfl⟩
theorem zfY:FldF prog 113 6 6:=FldF.of (n:=0) Kr
open Go.RowKit
theorem zl0 (s:zcI) (hasc:∀ c ∈ s,c.toNat < 128) (w:World):Ret prog 222 #[str s] w (fun v w'=>v = .int .u32 (ztv s) ∧ St w NoM [] [] w'):=by
 refine zax (args:=[str s]) func222 Z Z Z ?_
 have V:=St.init w
 refine SR<|AU Z<|NSR<|AU Z<|G<|SQ<|SR<|MS Z<|Q<|ze2 V ty9 Z fun w it7 V=>G<|zau ?_
 refine zba<|za7 [(7,.pointer (some ⟨_,0,none⟩))] ⟨Z,trivial⟩ (fun (i:Nat)=>[(3,.int .u32 (ztv (s.take i)))]) (fun (i:Nat)=>[Res.iter it7 s i]) (fun (i:Nat)=>i ≤ s.length) (fun (i:Nat)=>s.length - i) (0) V (Nat.zero_le _) ⟨Z,trivial⟩ ?_
 intro i f w V hJ ih1
 refine SQ<|RG ?_
 rcases Nat.lt_or_ge i s.length with g2 | g2
 ·have hc := hasc _ (List.getElem_mem g2)
  have hstep:=zpt g2
  refine Q (zga V Z .u0 (List.getElem?_eq_getElem g2) (hc) fun w V=>?_)
  refine Q<|Ex (.bool _) Z Z<|G<|SQ<|zat (Vb (Z:true = _))<|zaj<|zau<|SR<|Q<|Ex (.int .i32 _) Z Z<|Q<|zao (v:=.int .i32 _) Z<|NR<|MU Z<|Q<|zt7 Z Z<|Q (zad (v:=.int .i32 _) Z ?_)
  refine Q (zbV Z Z Z Wi32 ?_)
  first | refine Q (zaW ty21 zbM rfl zqU ?_) | refine Q (za4 ty21 zbM rfl ?_)
  refine Q<|zt8 Z Z<|AU Z<|G<|zan<|zaG ?_
  exact ih1 (i + 1) _ w (by omega) V (by omega) ⟨rfl,trivial⟩ ⟨(congrArg (Value.int .u32) (by rw [hstep]; rfl)),trivial⟩
 obtain rfl:i = s.length:=by omega
 refine Q<|zgb V Z Q0 g2<|Q<|Ex (.bool _) Z Z<|G<|SQ<|zas (Vb (Z:false = _))<|zaU (id:=0) Z<|SR<|MU Z<|AU Z<|G<|zag func222 Z (TP (v:=.int .u32 _) Z) ?_
 exact ⟨congrArg (Value.int .u32) (by rw [List.take_length]),V.pure⟩
theorem zaq (op:Int) (name:zcI) (t r:Bool) (fixed rest:zcI) (most part:Int) (w:World):Ret prog 147 #[.int .u16 op,str name,.bool t,.bool r,str fixed,str rest,.int .i64 most,.int .u8 part] w (fun v w'=>v = .agg #[.int .u16 op,str name,.bool t,.bool r,str fixed,str rest,.int .i64 most,.int .u8 part] ∧ St w NoM [] [] w'):=by
 refine zax (args:=[.int .u16 op,str name,.bool t,.bool r,str fixed,str rest,.int .i64 most,.int .u8 part]) func147 Z Z Z ?_
 have V:=St.init w
 refine SR<|Q<|zaw V zaA fun w b16 V=>NSR<|MH Z<|MS Z<|MB Z<|MB Z<|MS Z<|MS Z<|MI Z<|MC Z<|Q (zaf zaA zjP (.c (v:=.int .u16 _) Z (h:=(.c (v:=str _) Z (h:=(.c (v:=.bool _) Z (h:=(.c (v:=.bool _) Z (h:=(.c (v:=str _) Z (h:=(.c (v:=str _) Z (h:=(.c (v:=.int .i64 _) Z (h:=(.c (v:=.int .u8 _) Z (h:=.nil)))))))))))))))) ?_)
 refine Q (SO (v:=zam _ _ _ _ _ _ _ _) V zaA Z Z .u0 fun w V=>?_)
 refine G<|zag func147 Z (zak (vs:=zap _ _ _ _ _ _ _ _) Z zaA Z Z (zab (n:=8) (V.objL Q0) _ Z)) ?_
 exact ⟨Z,V.pure⟩
set_option maxRecDepth 4000 in
set_option maxHeartbeats 4000000 in
theorem zsm (op:Int) (w:World):Ret prog 90 #[.int .u16 op] w (fun v w'=>v = ztI (zbd op) ∧ St w NoM [] [] w'):=by
 refine zax (args:=[.int .u16 op]) func90 Z Z Z ?_
 have V:=St.init w
 refine SR<|Q<|zaw V zaA fun w b2 V=>AB Z<|G<|SQ<|SR<|MH Z<|G<|zau<|SR<|Q<|zai Z Z<|AB Z ?_
 refine G<|zaa Z (fun g1=>?_) (fun g1=>?_)
 ·refine SR <| MH Z <| Q <| zar zaP Z Z Z Z Z Z Z Z Z <| Ret.det (zaq _ _ _ _ _ _ _ _ _) V fun w V => Q (SO (v := zam _ _ _ _ _ _ _ _) V zaA Z Z .u0 fun w V => ?_)
  refine AB Z<|G<|zah func90 Z (zak (vs:=zap _ _ _ _ _ _ _ _) Z zaA Z Z (zab (n:=8) (V.objL Q0) _ Z)) (TP (v:=.bool _) Z) ?_
  subst g1
  have e:zbd 1 = some ⟨1,[79,112,85,110,100,101,102],true,true,[],[],0,7⟩:=by decide +kernel
  rw [e]
  exact ⟨Z,V.pure⟩
 refine SR<|Q<|zai Z Z<|AB Z<|G<|zaa Z (fun g2=>?_) (fun g2=>?_)
 ·refine SR <| MH Z <| Q <| zar zaP Z Z Z Z Z Z Z Z Z <| Ret.det (zaq _ _ _ _ _ _ _ _ _) V fun w V => Q (SO (v := zam _ _ _ _ _ _ _ _) V zaA Z Z .u0 fun w V => ?_)
  refine AB Z<|G<|zah func90 Z (zak (vs:=zap _ _ _ _ _ _ _ _) Z zaA Z Z (zab (n:=8) (V.objL Q0) _ Z)) (TP (v:=.bool _) Z) ?_
  subst g2
  have e:zbd 3 = some ⟨3,[79,112,83,111,117,114,99,101],false,false,[108,110],[],0,4⟩:=by decide +kernel
  rw [e]
  exact ⟨Z,V.pure⟩
 refine SR<|Q<|zai Z Z<|AB Z<|G<|zaa Z (fun g3=>?_) (fun g3=>?_)
 ·refine SR <| MH Z <| Q <| zar zaP Z Z Z Z Z Z Z Z Z <| Ret.det (zaq _ _ _ _ _ _ _ _ _) V fun w V => Q (SO (v := zam _ _ _ _ _ _ _ _) V zaA Z Z .u0 fun w V => ?_)
  refine AB Z<|G<|zah func90 Z (zak (vs:=zap _ _ _ _ _ _ _ _) Z zaA Z Z (zab (n:=8) (V.objL Q0) _ Z)) (TP (v:=.bool _) Z) ?_
  subst g3
  have e:zbd 5 = some ⟨5,[79,112,78,97,109,101],false,false,[105,115],[],0,5⟩:=by decide +kernel
  rw [e]
  exact ⟨Z,V.pure⟩
 refine SR<|Q<|zai Z Z<|AB Z<|G<|zaa Z (fun g4=>?_) (fun g4=>?_)
 ·refine SR <| MH Z <| Q <| zar zaP Z Z Z Z Z Z Z Z Z <| Ret.det (zaq _ _ _ _ _ _ _ _ _) V fun w V => Q (SO (v := zam _ _ _ _ _ _ _ _) V zaA Z Z .u0 fun w V => ?_)
  refine AB Z<|G<|zah func90 Z (zak (vs:=zap _ _ _ _ _ _ _ _) Z zaA Z Z (zab (n:=8) (V.objL Q0) _ Z)) (TP (v:=.bool _) Z) ?_
  subst g4
  have e:zbd 6 = some ⟨6,[79,112,77,101,109,98,101,114,78,97,109,101],false,false,[105,110,115],[],0,5⟩:=by decide +kernel
  rw [e]
  exact ⟨Z,V.pure⟩
 refine SR<|Q<|zai Z Z<|AB Z<|G<|zaa Z (fun g5=>?_) (fun g5=>?_)
 ·refine SR <| MH Z <| Q <| zar zaP Z Z Z Z Z Z Z Z Z <| Ret.det (zaq _ _ _ _ _ _ _ _ _) V fun w V => Q (SO (v := zam _ _ _ _ _ _ _ _) V zaA Z Z .u0 fun w V => ?_)
  refine AB Z<|G<|zah func90 Z (zak (vs:=zap _ _ _ _ _ _ _ _) Z zaA Z Z (zab (n:=8) (V.objL Q0) _ Z)) (TP (v:=.bool _) Z) ?_
  subst g5
  have e:zbd 7 = some ⟨7,[79,112,83,116,114,105,110,103],false,true,[115],[],0,4⟩:=by decide +kernel
  rw [e]
  exact ⟨Z,V.pure⟩
 refine SR<|Q<|zai Z Z<|AB Z<|G<|zaa Z (fun g6=>?_) (fun g6=>?_)
 ·refine SR <| MH Z <| Q <| zar zaP Z Z Z Z Z Z Z Z Z <| Ret.det (zaq _ _ _ _ _ _ _ _ _) V fun w V => Q (SO (v := zam _ _ _ _ _ _ _ _) V zaA Z Z .u0 fun w V => ?_)
  refine AB Z<|G<|zah func90 Z (zak (vs:=zap _ _ _ _ _ _ _ _) Z zaA Z Z (zab (n:=8) (V.objL Q0) _ Z)) (TP (v:=.bool _) Z) ?_
  subst g6
  have e:zbd 14 = some ⟨14,[79,112,77,101,109,111,114,121,77,111,100,101,108],false,false,[97,109],[],0,1⟩:=by decide +kernel
  rw [e]
  exact ⟨Z,V.pure⟩
 refine SR<|Q<|zai Z Z<|AB Z<|G<|zaa Z (fun g7=>?_) (fun g7=>?_)
 ·refine SR <| MH Z <| Q <| zar zaP Z Z Z Z Z Z Z Z Z <| Ret.det (zaq _ _ _ _ _ _ _ _ _) V fun w V => Q (SO (v := zam _ _ _ _ _ _ _ _) V zaA Z Z .u0 fun w V => ?_)
  refine AB Z<|G<|zah func90 Z (zak (vs:=zap _ _ _ _ _ _ _ _) Z zaA Z Z (zab (n:=8) (V.objL Q0) _ Z)) (TP (v:=.bool _) Z) ?_
  subst g7
  have e:zbd 15 = some ⟨15,[79,112,69,110,116,114,121,80,111,105,110,116],false,false,[101,105,115],[105],0,2⟩:=by decide +kernel
  rw [e]
  exact ⟨Z,V.pure⟩
 refine SR<|Q<|zai Z Z<|AB Z<|G<|zal [(0,.int .u16 _),(2,Pp _ _),(4,.int .u16 _),(33,.bool _)] E4 fun f=>zaa Z (fun g8=>?_) (fun g8=>?_)
 ·refine SR <| MH Z <| Q <| zar zaP Z Z Z Z Z Z Z Z Z <| Ret.det (zaq _ _ _ _ _ _ _ _ _) V fun w V => Q (SO (v := zam _ _ _ _ _ _ _ _) V zaA Z Z .u0 fun w V => ?_)
  refine AB Z<|G<|zah func90 Z (zak (vs:=zap _ _ _ _ _ _ _ _) Z zaA Z Z (zab (n:=8) (V.objL Q0) _ Z)) (TP (v:=.bool _) Z) ?_
  subst g8
  have e:zbd 16 = some ⟨16,[79,112,69,120,101,99,117,116,105,111,110,77,111,100,101],false,false,[105,120],[],0,3⟩:=by decide +kernel
  rw [e]
  exact ⟨Z,V.pure⟩
 refine SR<|Q<|zai Z Z<|AB Z<|G<|zaa Z (fun g9=>?_) (fun g9=>?_)
 ·refine SR <| MH Z <| Q <| zar zaP Z Z Z Z Z Z Z Z Z <| Ret.det (zaq _ _ _ _ _ _ _ _ _) V fun w V => Q (SO (v := zam _ _ _ _ _ _ _ _) V zaA Z Z .u0 fun w V => ?_)
  refine AB Z<|G<|zah func90 Z (zak (vs:=zap _ _ _ _ _ _ _ _) Z zaA Z Z (zab (n:=8) (V.objL Q0) _ Z)) (TP (v:=.bool _) Z) ?_
  subst g9
  have e:zbd 17 = some ⟨17,[79,112,67,97,112,97,98,105,108,105,116,121],false,false,[107],[],0,0⟩:=by decide +kernel
  rw [e]
  exact ⟨Z,V.pure⟩
 refine SR<|Q<|zai Z Z<|AB Z<|G<|zaa Z (fun g10=>?_) (fun g10=>?_)
 ·refine SR <| MH Z <| Q <| zar zaP Z Z Z Z Z Z Z Z Z <| Ret.det (zaq _ _ _ _ _ _ _ _ _) V fun w V => Q (SO (v := zam _ _ _ _ _ _ _ _) V zaA Z Z .u0 fun w V => ?_)
  refine AB Z<|G<|zah func90 Z (zak (vs:=zap _ _ _ _ _ _ _ _) Z zaA Z Z (zab (n:=8) (V.objL Q0) _ Z)) (TP (v:=.bool _) Z) ?_
  subst g10
  have e:zbd 19 = some ⟨19,[79,112,84,121,112,101,86,111,105,100],false,true,[],[],0,7⟩:=by decide +kernel
  rw [e]
  exact ⟨Z,V.pure⟩
 refine SR<|Q<|zai Z Z<|AB Z<|G<|zaa Z (fun g11=>?_) (fun g11=>?_)
 ·refine SR <| MH Z <| Q <| zar zaP Z Z Z Z Z Z Z Z Z <| Ret.det (zaq _ _ _ _ _ _ _ _ _) V fun w V => Q (SO (v := zam _ _ _ _ _ _ _ _) V zaA Z Z .u0 fun w V => ?_)
  refine AB Z<|G<|zah func90 Z (zak (vs:=zap _ _ _ _ _ _ _ _) Z zaA Z Z (zab (n:=8) (V.objL Q0) _ Z)) (TP (v:=.bool _) Z) ?_
  subst g11
  have e:zbd 20 = some ⟨20,[79,112,84,121,112,101,66,111,111,108],false,true,[],[],0,7⟩:=by decide +kernel
  rw [e]
  exact ⟨Z,V.pure⟩
 refine SR<|Q<|zai Z Z<|AB Z<|G<|zaa Z (fun g12=>?_) (fun g12=>?_)
 ·refine SR <| MH Z <| Q <| zar zaP Z Z Z Z Z Z Z Z Z <| Ret.det (zaq _ _ _ _ _ _ _ _ _) V fun w V => Q (SO (v := zam _ _ _ _ _ _ _ _) V zaA Z Z .u0 fun w V => ?_)
  refine AB Z<|G<|zah func90 Z (zak (vs:=zap _ _ _ _ _ _ _ _) Z zaA Z Z (zab (n:=8) (V.objL Q0) _ Z)) (TP (v:=.bool _) Z) ?_
  subst g12
  have e:zbd 21 = some ⟨21,[79,112,84,121,112,101,73,110,116],false,true,[110,110],[],0,7⟩:=by decide +kernel
  rw [e]
  exact ⟨Z,V.pure⟩
 refine SR<|Q<|zai Z Z<|AB Z<|G<|zaa Z (fun g13=>?_) (fun g13=>?_)
 ·refine SR <| MH Z <| Q <| zar zaP Z Z Z Z Z Z Z Z Z <| Ret.det (zaq _ _ _ _ _ _ _ _ _) V fun w V => Q (SO (v := zam _ _ _ _ _ _ _ _) V zaA Z Z .u0 fun w V => ?_)
  refine AB Z<|G<|zah func90 Z (zak (vs:=zap _ _ _ _ _ _ _ _) Z zaA Z Z (zab (n:=8) (V.objL Q0) _ Z)) (TP (v:=.bool _) Z) ?_
  subst g13
  have e:zbd 23 = some ⟨23,[79,112,84,121,112,101,86,101,99,116,111,114],false,true,[105,110],[],0,7⟩:=by decide +kernel
  rw [e]
  exact ⟨Z,V.pure⟩
 refine SR<|Q<|zai Z Z<|AB Z<|G<|zaa Z (fun g14=>?_) (fun g14=>?_)
 ·refine SR <| MH Z <| Q <| zar zaP Z Z Z Z Z Z Z Z Z <| Ret.det (zaq _ _ _ _ _ _ _ _ _) V fun w V => Q (SO (v := zam _ _ _ _ _ _ _ _) V zaA Z Z .u0 fun w V => ?_)
  refine AB Z<|G<|zah func90 Z (zak (vs:=zap _ _ _ _ _ _ _ _) Z zaA Z Z (zab (n:=8) (V.objL Q0) _ Z)) (TP (v:=.bool _) Z) ?_
  subst g14
  have e:zbd 28 = some ⟨28,[79,112,84,121,112,101,65,114,114,97,121],false,true,[105,105],[],0,7⟩:=by decide +kernel
  rw [e]
  exact ⟨Z,V.pure⟩
 refine SR<|Q<|zai Z Z<|AB Z<|G<|zaa Z (fun g15=>?_) (fun g15=>?_)
 ·refine SR <| MH Z <| Q <| zar zaP Z Z Z Z Z Z Z Z Z <| Ret.det (zaq _ _ _ _ _ _ _ _ _) V fun w V => Q (SO (v := zam _ _ _ _ _ _ _ _) V zaA Z Z .u0 fun w V => ?_)
  refine AB Z<|G<|zah func90 Z (zak (vs:=zap _ _ _ _ _ _ _ _) Z zaA Z Z (zab (n:=8) (V.objL Q0) _ Z)) (TP (v:=.bool _) Z) ?_
  subst g15
  have e:zbd 30 = some ⟨30,[79,112,84,121,112,101,83,116,114,117,99,116],false,true,[],[105],0,7⟩:=by decide +kernel
  rw [e]
  exact ⟨Z,V.pure⟩
 refine SR<|Q<|zai Z Z<|AB Z<|G<|zaa Z (fun g16=>?_) (fun g16=>?_)
 ·refine SR <| MH Z <| Q <| zar zaP Z Z Z Z Z Z Z Z Z <| Ret.det (zaq _ _ _ _ _ _ _ _ _) V fun w V => Q (SO (v := zam _ _ _ _ _ _ _ _) V zaA Z Z .u0 fun w V => ?_)
  refine AB Z<|G<|zah func90 Z (zak (vs:=zap _ _ _ _ _ _ _ _) Z zaA Z Z (zab (n:=8) (V.objL Q0) _ Z)) (TP (v:=.bool _) Z) ?_
  subst g16
  have e:zbd 32 = some ⟨32,[79,112,84,121,112,101,80,111,105,110,116,101,114],false,true,[99,105],[],0,7⟩:=by decide +kernel
  rw [e]
  exact ⟨Z,V.pure⟩
 refine SR<|Q<|zai Z Z<|AB Z<|G<|zaa Z (fun g17=>?_) (fun g17=>?_)
 ·refine SR <| MH Z <| Q <| zar zaP Z Z Z Z Z Z Z Z Z <| Ret.det (zaq _ _ _ _ _ _ _ _ _) V fun w V => Q (SO (v := zam _ _ _ _ _ _ _ _) V zaA Z Z .u0 fun w V => ?_)
  refine AB Z<|G<|zah func90 Z (zak (vs:=zap _ _ _ _ _ _ _ _) Z zaA Z Z (zab (n:=8) (V.objL Q0) _ Z)) (TP (v:=.bool _) Z) ?_
  subst g17
  have e:zbd 33 = some ⟨33,[79,112,84,121,112,101,70,117,110,99,116,105,111,110],false,true,[105],[105],0,7⟩:=by decide +kernel
  rw [e]
  exact ⟨Z,V.pure⟩
 refine SR<|Q<|zai Z Z<|AB Z<|G<|zal [(0,.int .u16 _),(2,Pp _ _),(4,.int .u16 _),(73,.bool _)] E4 fun f=>zaa Z (fun g18=>?_) (fun g18=>?_)
 ·refine SR <| MH Z <| Q <| zar zaP Z Z Z Z Z Z Z Z Z <| Ret.det (zaq _ _ _ _ _ _ _ _ _) V fun w V => Q (SO (v := zam _ _ _ _ _ _ _ _) V zaA Z Z .u0 fun w V => ?_)
  refine AB Z<|G<|zah func90 Z (zak (vs:=zap _ _ _ _ _ _ _ _) Z zaA Z Z (zab (n:=8) (V.objL Q0) _ Z)) (TP (v:=.bool _) Z) ?_
  subst g18
  have e:zbd 41 = some ⟨41,[79,112,67,111,110,115,116,97,110,116,84,114,117,101],true,true,[],[],0,7⟩:=by decide +kernel
  rw [e]
  exact ⟨Z,V.pure⟩
 refine SR<|Q<|zai Z Z<|AB Z<|G<|zaa Z (fun g19=>?_) (fun g19=>?_)
 ·refine SR <| MH Z <| Q <| zar zaP Z Z Z Z Z Z Z Z Z <| Ret.det (zaq _ _ _ _ _ _ _ _ _) V fun w V => Q (SO (v := zam _ _ _ _ _ _ _ _) V zaA Z Z .u0 fun w V => ?_)
  refine AB Z<|G<|zah func90 Z (zak (vs:=zap _ _ _ _ _ _ _ _) Z zaA Z Z (zab (n:=8) (V.objL Q0) _ Z)) (TP (v:=.bool _) Z) ?_
  subst g19
  have e:zbd 42 = some ⟨42,[79,112,67,111,110,115,116,97,110,116,70,97,108,115,101],true,true,[],[],0,7⟩:=by decide +kernel
  rw [e]
  exact ⟨Z,V.pure⟩
 refine SR<|Q<|zai Z Z<|AB Z<|G<|zaa Z (fun g20=>?_) (fun g20=>?_)
 ·refine SR <| MH Z <| Q <| zar zaP Z Z Z Z Z Z Z Z Z <| Ret.det (zaq _ _ _ _ _ _ _ _ _) V fun w V => Q (SO (v := zam _ _ _ _ _ _ _ _) V zaA Z Z .u0 fun w V => ?_)
  refine AB Z<|G<|zah func90 Z (zak (vs:=zap _ _ _ _ _ _ _ _) Z zaA Z Z (zab (n:=8) (V.objL Q0) _ Z)) (TP (v:=.bool _) Z) ?_
  subst g20
  have e:zbd 43 = some ⟨43,[79,112,67,111,110,115,116,97,110,116],true,true,[110],[],0,7⟩:=by decide +kernel
  rw [e]
  exact ⟨Z,V.pure⟩
 refine SR<|Q<|zai Z Z<|AB Z<|G<|zaa Z (fun g21=>?_) (fun g21=>?_)
 ·refine SR <| MH Z <| Q <| zar zaP Z Z Z Z Z Z Z Z Z <| Ret.det (zaq _ _ _ _ _ _ _ _ _) V fun w V => Q (SO (v := zam _ _ _ _ _ _ _ _) V zaA Z Z .u0 fun w V => ?_)
  refine AB Z<|G<|zah func90 Z (zak (vs:=zap _ _ _ _ _ _ _ _) Z zaA Z Z (zab (n:=8) (V.objL Q0) _ Z)) (TP (v:=.bool _) Z) ?_
  subst g21
  have e:zbd 44 = some ⟨44,[79,112,67,111,110,115,116,97,110,116,67,111,109,112,111,115,105,116,101],true,true,[],[105],0,7⟩:=by decide +kernel
  rw [e]
  exact ⟨Z,V.pure⟩
 refine SR<|Q<|zai Z Z<|AB Z<|G<|zaa Z (fun g22=>?_) (fun g22=>?_)
 ·refine SR <| MH Z <| Q <| zar zaP Z Z Z Z Z Z Z Z Z <| Ret.det (zaq _ _ _ _ _ _ _ _ _) V fun w V => Q (SO (v := zam _ _ _ _ _ _ _ _) V zaA Z Z .u0 fun w V => ?_)
  refine AB Z<|G<|zah func90 Z (zak (vs:=zap _ _ _ _ _ _ _ _) Z zaA Z Z (zab (n:=8) (V.objL Q0) _ Z)) (TP (v:=.bool _) Z) ?_
  subst g22
  have e:zbd 46 = some ⟨46,[79,112,67,111,110,115,116,97,110,116,78,117,108,108],true,true,[],[],0,7⟩:=by decide +kernel
  rw [e]
  exact ⟨Z,V.pure⟩
 refine SR<|Q<|zai Z Z<|AB Z<|G<|zaa Z (fun g23=>?_) (fun g23=>?_)
 ·refine SR <| MH Z <| Q <| zar zaP Z Z Z Z Z Z Z Z Z <| Ret.det (zaq _ _ _ _ _ _ _ _ _) V fun w V => Q (SO (v := zam _ _ _ _ _ _ _ _) V zaA Z Z .u0 fun w V => ?_)
  refine AB Z<|G<|zah func90 Z (zak (vs:=zap _ _ _ _ _ _ _ _) Z zaA Z Z (zab (n:=8) (V.objL Q0) _ Z)) (TP (v:=.bool _) Z) ?_
  subst g23
  have e:zbd 54 = some ⟨54,[79,112,70,117,110,99,116,105,111,110],true,true,[102,105],[],0,8⟩:=by decide +kernel
  rw [e]
  exact ⟨Z,V.pure⟩
 refine SR<|Q<|zai Z Z<|AB Z<|G<|zaa Z (fun g24=>?_) (fun g24=>?_)
 ·refine SR <| MH Z <| Q <| zar zaP Z Z Z Z Z Z Z Z Z <| Ret.det (zaq _ _ _ _ _ _ _ _ _) V fun w V => Q (SO (v := zam _ _ _ _ _ _ _ _) V zaA Z Z .u0 fun w V => ?_)
  refine AB Z<|G<|zah func90 Z (zak (vs:=zap _ _ _ _ _ _ _ _) Z zaA Z Z (zab (n:=8) (V.objL Q0) _ Z)) (TP (v:=.bool _) Z) ?_
  subst g24
  have e:zbd 55 = some ⟨55,[79,112,70,117,110,99,116,105,111,110,80,97,114,97,109,101,116,101,114],true,true,[],[],0,8⟩:=by decide +kernel
  rw [e]
  exact ⟨Z,V.pure⟩
 refine SR<|Q<|zai Z Z<|AB Z<|G<|zaa Z (fun g25=>?_) (fun g25=>?_)
 ·refine SR <| MH Z <| Q <| zar zaP Z Z Z Z Z Z Z Z Z <| Ret.det (zaq _ _ _ _ _ _ _ _ _) V fun w V => Q (SO (v := zam _ _ _ _ _ _ _ _) V zaA Z Z .u0 fun w V => ?_)
  refine AB Z<|G<|zah func90 Z (zak (vs:=zap _ _ _ _ _ _ _ _) Z zaA Z Z (zab (n:=8) (V.objL Q0) _ Z)) (TP (v:=.bool _) Z) ?_
  subst g25
  have e:zbd 56 = some ⟨56,[79,112,70,117,110,99,116,105,111,110,69,110,100],false,false,[],[],0,8⟩:=by decide +kernel
  rw [e]
  exact ⟨Z,V.pure⟩
 refine SR<|Q<|zai Z Z<|AB Z<|G<|zaa Z (fun g26=>?_) (fun g26=>?_)
 ·refine SR <| MH Z <| Q <| zar zaP Z Z Z Z Z Z Z Z Z <| Ret.det (zaq _ _ _ _ _ _ _ _ _) V fun w V => Q (SO (v := zam _ _ _ _ _ _ _ _) V zaA Z Z .u0 fun w V => ?_)
  refine AB Z<|G<|zah func90 Z (zak (vs:=zap _ _ _ _ _ _ _ _) Z zaA Z Z (zab (n:=8) (V.objL Q0) _ Z)) (TP (v:=.bool _) Z) ?_
  subst g26
  have e:zbd 57 = some ⟨57,[79,112,70,117,110,99,116,105,111,110,67,97,108,108],true,true,[105],[105],0,8⟩:=by decide +kernel
  rw [e]
  exact ⟨Z,V.pure⟩
 refine SR<|Q<|zai Z Z<|AB Z<|G<|zaa Z (fun g27=>?_) (fun g27=>?_)
 ·refine SR <| MH Z <| Q <| zar zaP Z Z Z Z Z Z Z Z Z <| Ret.det (zaq _ _ _ _ _ _ _ _ _) V fun w V => Q (SO (v := zam _ _ _ _ _ _ _ _) V zaA Z Z .u0 fun w V => ?_)
  refine AB Z<|G<|zah func90 Z (zak (vs:=zap _ _ _ _ _ _ _ _) Z zaA Z Z (zab (n:=8) (V.objL Q0) _ Z)) (TP (v:=.bool _) Z) ?_
  subst g27
  have e:zbd 59 = some ⟨59,[79,112,86,97,114,105,97,98,108,101],true,true,[99],[105],1,7⟩:=by decide +kernel
  rw [e]
  exact ⟨Z,V.pure⟩
 refine SR<|Q<|zai Z Z<|AB Z<|G<|zal [(0,.int .u16 _),(2,Pp _ _),(4,.int .u16 _),(113,.bool _)] E4 fun f=>zaa Z (fun g28=>?_) (fun g28=>?_)
 ·refine SR <| MH Z <| Q <| zar zaP Z Z Z Z Z Z Z Z Z <| Ret.det (zaq _ _ _ _ _ _ _ _ _) V fun w V => Q (SO (v := zam _ _ _ _ _ _ _ _) V zaA Z Z .u0 fun w V => ?_)
  refine AB Z<|G<|zah func90 Z (zak (vs:=zap _ _ _ _ _ _ _ _) Z zaA Z Z (zab (n:=8) (V.objL Q0) _ Z)) (TP (v:=.bool _) Z) ?_
  subst g28
  have e:zbd 61 = some ⟨61,[79,112,76,111,97,100],true,true,[105],[],0,8⟩:=by decide +kernel
  rw [e]
  exact ⟨Z,V.pure⟩
 refine SR<|Q<|zai Z Z<|AB Z<|G<|zaa Z (fun g29=>?_) (fun g29=>?_)
 ·refine SR <| MH Z <| Q <| zar zaP Z Z Z Z Z Z Z Z Z <| Ret.det (zaq _ _ _ _ _ _ _ _ _) V fun w V => Q (SO (v := zam _ _ _ _ _ _ _ _) V zaA Z Z .u0 fun w V => ?_)
  refine AB Z<|G<|zah func90 Z (zak (vs:=zap _ _ _ _ _ _ _ _) Z zaA Z Z (zab (n:=8) (V.objL Q0) _ Z)) (TP (v:=.bool _) Z) ?_
  subst g29
  have e:zbd 62 = some ⟨62,[79,112,83,116,111,114,101],false,false,[105,105],[],0,8⟩:=by decide +kernel
  rw [e]
  exact ⟨Z,V.pure⟩
 refine SR<|Q<|zai Z Z<|AB Z<|G<|zaa Z (fun g30=>?_) (fun g30=>?_)
 ·refine SR <| MH Z <| Q <| zar zaP Z Z Z Z Z Z Z Z Z <| Ret.det (zaq _ _ _ _ _ _ _ _ _) V fun w V => Q (SO (v := zam _ _ _ _ _ _ _ _) V zaA Z Z .u0 fun w V => ?_)
  refine AB Z<|G<|zah func90 Z (zak (vs:=zap _ _ _ _ _ _ _ _) Z zaA Z Z (zab (n:=8) (V.objL Q0) _ Z)) (TP (v:=.bool _) Z) ?_
  subst g30
  have e:zbd 65 = some ⟨65,[79,112,65,99,99,101,115,115,67,104,97,105,110],true,true,[105],[105],0,8⟩:=by decide +kernel
  rw [e]
  exact ⟨Z,V.pure⟩
 refine SR<|Q<|zai Z Z<|AB Z<|G<|zaa Z (fun g31=>?_) (fun g31=>?_)
 ·refine SR <| MH Z <| Q <| zar zaP Z Z Z Z Z Z Z Z Z <| Ret.det (zaq _ _ _ _ _ _ _ _ _) V fun w V => Q (SO (v := zam _ _ _ _ _ _ _ _) V zaA Z Z .u0 fun w V => ?_)
  refine AB Z<|G<|zah func90 Z (zak (vs:=zap _ _ _ _ _ _ _ _) Z zaA Z Z (zab (n:=8) (V.objL Q0) _ Z)) (TP (v:=.bool _) Z) ?_
  subst g31
  have e:zbd 71 = some ⟨71,[79,112,68,101,99,111,114,97,116,101],false,false,[105,100],[110],0,6⟩:=by decide +kernel
  rw [e]
  exact ⟨Z,V.pure⟩
 refine SR<|Q<|zai Z Z<|AB Z<|G<|zaa Z (fun g32=>?_) (fun g32=>?_)
 ·refine SR <| MH Z <| Q <| zar zaP Z Z Z Z Z Z Z Z Z <| Ret.det (zaq _ _ _ _ _ _ _ _ _) V fun w V => Q (SO (v := zam _ _ _ _ _ _ _ _) V zaA Z Z .u0 fun w V => ?_)
  refine AB Z<|G<|zah func90 Z (zak (vs:=zap _ _ _ _ _ _ _ _) Z zaA Z Z (zab (n:=8) (V.objL Q0) _ Z)) (TP (v:=.bool _) Z) ?_
  subst g32
  have e:zbd 77 = some ⟨77,[79,112,86,101,99,116,111,114,69,120,116,114,97,99,116,68,121,110,97,109,105,99],true,true,[105,105],[],0,8⟩:=by decide +kernel
  rw [e]
  exact ⟨Z,V.pure⟩
 refine SR<|Q<|zai Z Z<|AB Z<|G<|zaa Z (fun g33=>?_) (fun g33=>?_)
 ·refine SR <| MH Z <| Q <| zar zaP Z Z Z Z Z Z Z Z Z <| Ret.det (zaq _ _ _ _ _ _ _ _ _) V fun w V => Q (SO (v := zam _ _ _ _ _ _ _ _) V zaA Z Z .u0 fun w V => ?_)
  refine AB Z<|G<|zah func90 Z (zak (vs:=zap _ _ _ _ _ _ _ _) Z zaA Z Z (zab (n:=8) (V.objL Q0) _ Z)) (TP (v:=.bool _) Z) ?_
  subst g33
  have e:zbd 78 = some ⟨78,[79,112,86,101,99,116,111,114,73,110,115,101,114,116,68,121,110,97,109,105,99],true,true,[105,105,105],[],0,8⟩:=by decide +kernel
  rw [e]
  exact ⟨Z,V.pure⟩
 refine SR<|Q<|zai Z Z<|AB Z<|G<|zaa Z (fun g34=>?_) (fun g34=>?_)
 ·refine SR <| MH Z <| Q <| zar zaP Z Z Z Z Z Z Z Z Z <| Ret.det (zaq _ _ _ _ _ _ _ _ _) V fun w V => Q (SO (v := zam _ _ _ _ _ _ _ _) V zaA Z Z .u0 fun w V => ?_)
  refine AB Z<|G<|zah func90 Z (zak (vs:=zap _ _ _ _ _ _ _ _) Z zaA Z Z (zab (n:=8) (V.objL Q0) _ Z)) (TP (v:=.bool _) Z) ?_
  subst g34
  have e:zbd 79 = some ⟨79,[79,112,86,101,99,116,111,114,83,104,117,102,102,108,101],true,true,[105,105],[110],0,8⟩:=by decide +kernel
  rw [e]
  exact ⟨Z,V.pure⟩
 refine SR<|Q<|zai Z Z<|AB Z<|G<|zaa Z (fun g35=>?_) (fun g35=>?_)
 ·refine SR <| MH Z <| Q <| zar zaP Z Z Z Z Z Z Z Z Z <| Ret.det (zaq _ _ _ _ _ _ _ _ _) V fun w V => Q (SO (v := zam _ _ _ _ _ _ _ _) V zaA Z Z .u0 fun w V => ?_)
  refine AB Z<|G<|zah func90 Z (zak (vs:=zap _ _ _ _ _ _ _ _) Z zaA Z Z (zab (n:=8) (V.objL Q0) _ Z)) (TP (v:=.bool _) Z) ?_
  subst g35
  have e:zbd 80 = some ⟨80,[79,112,67,111,109,112,111,115,105,116,101,67,111,110,115,116,114,117,99,116],true,true,[],[105],0,8⟩:=by decide +kernel
  rw [e]
  exact ⟨Z,V.pure⟩
 refine SR<|Q<|zai Z Z<|AB Z<|G<|zaa Z (fun g36=>?_) (fun g36=>?_)
 ·refine SR <| MH Z <| Q <| zar zaP Z Z Z Z Z Z Z Z Z <| Ret.det (zaq _ _ _ _ _ _ _ _ _) V fun w V => Q (SO (v := zam _ _ _ _ _ _ _ _) V zaA Z Z .u0 fun w V => ?_)
  refine AB Z<|G<|zah func90 Z (zak (vs:=zap _ _ _ _ _ _ _ _) Z zaA Z Z (zab (n:=8) (V.objL Q0) _ Z)) (TP (v:=.bool _) Z) ?_
  subst g36
  have e:zbd 81 = some ⟨81,[79,112,67,111,109,112,111,115,105,116,101,69,120,116,114,97,99,116],true,true,[105],[110],0,8⟩:=by decide +kernel
  rw [e]
  exact ⟨Z,V.pure⟩
 refine SR<|Q<|zai Z Z<|AB Z<|G<|zaa Z (fun g37=>?_) (fun g37=>?_)
 ·refine SR <| MH Z <| Q <| zar zaP Z Z Z Z Z Z Z Z Z <| Ret.det (zaq _ _ _ _ _ _ _ _ _) V fun w V => Q (SO (v := zam _ _ _ _ _ _ _ _) V zaA Z Z .u0 fun w V => ?_)
  refine AB Z<|G<|zah func90 Z (zak (vs:=zap _ _ _ _ _ _ _ _) Z zaA Z Z (zab (n:=8) (V.objL Q0) _ Z)) (TP (v:=.bool _) Z) ?_
  subst g37
  have e:zbd 82 = some ⟨82,[79,112,67,111,109,112,111,115,105,116,101,73,110,115,101,114,116],true,true,[105,105],[110],0,8⟩:=by decide +kernel
  rw [e]
  exact ⟨Z,V.pure⟩
 refine SR<|Q<|zai Z Z<|AB Z<|G<|zal [(0,.int .u16 _),(2,Pp _ _),(4,.int .u16 _),(153,.bool _)] E4 fun f=>zaa Z (fun g38=>?_) (fun g38=>?_)
 ·refine SR <| MH Z <| Q <| zar zaP Z Z Z Z Z Z Z Z Z <| Ret.det (zaq _ _ _ _ _ _ _ _ _) V fun w V => Q (SO (v := zam _ _ _ _ _ _ _ _) V zaA Z Z .u0 fun w V => ?_)
  refine AB Z<|G<|zah func90 Z (zak (vs:=zap _ _ _ _ _ _ _ _) Z zaA Z Z (zab (n:=8) (V.objL Q0) _ Z)) (TP (v:=.bool _) Z) ?_
  subst g38
  have e:zbd 83 = some ⟨83,[79,112,67,111,112,121,79,98,106,101,99,116],true,true,[105],[],0,8⟩:=by decide +kernel
  rw [e]
  exact ⟨Z,V.pure⟩
 refine SR<|Q<|zai Z Z<|AB Z<|G<|zaa Z (fun g39=>?_) (fun g39=>?_)
 ·refine SR <| MH Z <| Q <| zar zaP Z Z Z Z Z Z Z Z Z <| Ret.det (zaq _ _ _ _ _ _ _ _ _) V fun w V => Q (SO (v := zam _ _ _ _ _ _ _ _) V zaA Z Z .u0 fun w V => ?_)
  refine AB Z<|G<|zah func90 Z (zak (vs:=zap _ _ _ _ _ _ _ _) Z zaA Z Z (zab (n:=8) (V.objL Q0) _ Z)) (TP (v:=.bool _) Z) ?_
  subst g39
  have e:zbd 124 = some ⟨124,[79,112,66,105,116,99,97,115,116],true,true,[105],[],0,8⟩:=by decide +kernel
  rw [e]
  exact ⟨Z,V.pure⟩
 refine SR<|Q<|zai Z Z<|AB Z<|G<|zaa Z (fun g40=>?_) (fun g40=>?_)
 ·refine SR <| MH Z <| Q <| zar zaP Z Z Z Z Z Z Z Z Z <| Ret.det (zaq _ _ _ _ _ _ _ _ _) V fun w V => Q (SO (v := zam _ _ _ _ _ _ _ _) V zaA Z Z .u0 fun w V => ?_)
  refine AB Z<|G<|zah func90 Z (zak (vs:=zap _ _ _ _ _ _ _ _) Z zaA Z Z (zab (n:=8) (V.objL Q0) _ Z)) (TP (v:=.bool _) Z) ?_
  subst g40
  have e:zbd 126 = some ⟨126,[79,112,83,78,101,103,97,116,101],true,true,[105],[],0,8⟩:=by decide +kernel
  rw [e]
  exact ⟨Z,V.pure⟩
 refine SR<|Q<|zai Z Z<|AB Z<|G<|zaa Z (fun g41=>?_) (fun g41=>?_)
 ·refine SR <| MH Z <| Q <| zar zaP Z Z Z Z Z Z Z Z Z <| Ret.det (zaq _ _ _ _ _ _ _ _ _) V fun w V => Q (SO (v := zam _ _ _ _ _ _ _ _) V zaA Z Z .u0 fun w V => ?_)
  refine AB Z<|G<|zah func90 Z (zak (vs:=zap _ _ _ _ _ _ _ _) Z zaA Z Z (zab (n:=8) (V.objL Q0) _ Z)) (TP (v:=.bool _) Z) ?_
  subst g41
  have e:zbd 128 = some ⟨128,[79,112,73,65,100,100],true,true,[105,105],[],0,8⟩:=by decide +kernel
  rw [e]
  exact ⟨Z,V.pure⟩
 refine SR<|Q<|zai Z Z<|AB Z<|G<|zaa Z (fun g42=>?_) (fun g42=>?_)
 ·refine SR <| MH Z <| Q <| zar zaP Z Z Z Z Z Z Z Z Z <| Ret.det (zaq _ _ _ _ _ _ _ _ _) V fun w V => Q (SO (v := zam _ _ _ _ _ _ _ _) V zaA Z Z .u0 fun w V => ?_)
  refine AB Z<|G<|zah func90 Z (zak (vs:=zap _ _ _ _ _ _ _ _) Z zaA Z Z (zab (n:=8) (V.objL Q0) _ Z)) (TP (v:=.bool _) Z) ?_
  subst g42
  have e:zbd 130 = some ⟨130,[79,112,73,83,117,98],true,true,[105,105],[],0,8⟩:=by decide +kernel
  rw [e]
  exact ⟨Z,V.pure⟩
 refine SR<|Q<|zai Z Z<|AB Z<|G<|zaa Z (fun g43=>?_) (fun g43=>?_)
 ·refine SR <| MH Z <| Q <| zar zaP Z Z Z Z Z Z Z Z Z <| Ret.det (zaq _ _ _ _ _ _ _ _ _) V fun w V => Q (SO (v := zam _ _ _ _ _ _ _ _) V zaA Z Z .u0 fun w V => ?_)
  refine AB Z<|G<|zah func90 Z (zak (vs:=zap _ _ _ _ _ _ _ _) Z zaA Z Z (zab (n:=8) (V.objL Q0) _ Z)) (TP (v:=.bool _) Z) ?_
  subst g43
  have e:zbd 132 = some ⟨132,[79,112,73,77,117,108],true,true,[105,105],[],0,8⟩:=by decide +kernel
  rw [e]
  exact ⟨Z,V.pure⟩
 refine SR<|Q<|zai Z Z<|AB Z<|G<|zaa Z (fun g44=>?_) (fun g44=>?_)
 ·refine SR <| MH Z <| Q <| zar zaP Z Z Z Z Z Z Z Z Z <| Ret.det (zaq _ _ _ _ _ _ _ _ _) V fun w V => Q (SO (v := zam _ _ _ _ _ _ _ _) V zaA Z Z .u0 fun w V => ?_)
  refine AB Z<|G<|zah func90 Z (zak (vs:=zap _ _ _ _ _ _ _ _) Z zaA Z Z (zab (n:=8) (V.objL Q0) _ Z)) (TP (v:=.bool _) Z) ?_
  subst g44
  have e:zbd 134 = some ⟨134,[79,112,85,68,105,118],true,true,[105,105],[],0,8⟩:=by decide +kernel
  rw [e]
  exact ⟨Z,V.pure⟩
 refine SR<|Q<|zai Z Z<|AB Z<|G<|zaa Z (fun g45=>?_) (fun g45=>?_)
 ·refine SR <| MH Z <| Q <| zar zaP Z Z Z Z Z Z Z Z Z <| Ret.det (zaq _ _ _ _ _ _ _ _ _) V fun w V => Q (SO (v := zam _ _ _ _ _ _ _ _) V zaA Z Z .u0 fun w V => ?_)
  refine AB Z<|G<|zah func90 Z (zak (vs:=zap _ _ _ _ _ _ _ _) Z zaA Z Z (zab (n:=8) (V.objL Q0) _ Z)) (TP (v:=.bool _) Z) ?_
  subst g45
  have e:zbd 135 = some ⟨135,[79,112,83,68,105,118],true,true,[105,105],[],0,8⟩:=by decide +kernel
  rw [e]
  exact ⟨Z,V.pure⟩
 refine SR<|Q<|zai Z Z<|AB Z<|G<|zaa Z (fun g46=>?_) (fun g46=>?_)
 ·refine SR <| MH Z <| Q <| zar zaP Z Z Z Z Z Z Z Z Z <| Ret.det (zaq _ _ _ _ _ _ _ _ _) V fun w V => Q (SO (v := zam _ _ _ _ _ _ _ _) V zaA Z Z .u0 fun w V => ?_)
  refine AB Z<|G<|zah func90 Z (zak (vs:=zap _ _ _ _ _ _ _ _) Z zaA Z Z (zab (n:=8) (V.objL Q0) _ Z)) (TP (v:=.bool _) Z) ?_
  subst g46
  have e:zbd 137 = some ⟨137,[79,112,85,77,111,100],true,true,[105,105],[],0,8⟩:=by decide +kernel
  rw [e]
  exact ⟨Z,V.pure⟩
 refine SR<|Q<|zai Z Z<|AB Z<|G<|zaa Z (fun g47=>?_) (fun g47=>?_)
 ·refine SR <| MH Z <| Q <| zar zaP Z Z Z Z Z Z Z Z Z <| Ret.det (zaq _ _ _ _ _ _ _ _ _) V fun w V => Q (SO (v := zam _ _ _ _ _ _ _ _) V zaA Z Z .u0 fun w V => ?_)
  refine AB Z<|G<|zah func90 Z (zak (vs:=zap _ _ _ _ _ _ _ _) Z zaA Z Z (zab (n:=8) (V.objL Q0) _ Z)) (TP (v:=.bool _) Z) ?_
  subst g47
  have e:zbd 138 = some ⟨138,[79,112,83,82,101,109],true,true,[105,105],[],0,8⟩:=by decide +kernel
  rw [e]
  exact ⟨Z,V.pure⟩
 refine SR<|Q<|zai Z Z<|AB Z<|G<|zal [(0,.int .u16 _),(2,Pp _ _),(4,.int .u16 _),(193,.bool _)] E4 fun f=>zaa Z (fun g48=>?_) (fun g48=>?_)
 ·refine SR <| MH Z <| Q <| zar zaP Z Z Z Z Z Z Z Z Z <| Ret.det (zaq _ _ _ _ _ _ _ _ _) V fun w V => Q (SO (v := zam _ _ _ _ _ _ _ _) V zaA Z Z .u0 fun w V => ?_)
  refine AB Z<|G<|zah func90 Z (zak (vs:=zap _ _ _ _ _ _ _ _) Z zaA Z Z (zab (n:=8) (V.objL Q0) _ Z)) (TP (v:=.bool _) Z) ?_
  subst g48
  have e:zbd 139 = some ⟨139,[79,112,83,77,111,100],true,true,[105,105],[],0,8⟩:=by decide +kernel
  rw [e]
  exact ⟨Z,V.pure⟩
 refine SR<|Q<|zai Z Z<|AB Z<|G<|zaa Z (fun g49=>?_) (fun g49=>?_)
 ·refine SR <| MH Z <| Q <| zar zaP Z Z Z Z Z Z Z Z Z <| Ret.det (zaq _ _ _ _ _ _ _ _ _) V fun w V => Q (SO (v := zam _ _ _ _ _ _ _ _) V zaA Z Z .u0 fun w V => ?_)
  refine AB Z<|G<|zah func90 Z (zak (vs:=zap _ _ _ _ _ _ _ _) Z zaA Z Z (zab (n:=8) (V.objL Q0) _ Z)) (TP (v:=.bool _) Z) ?_
  subst g49
  have e:zbd 149 = some ⟨149,[79,112,73,65,100,100,67,97,114,114,121],true,true,[105,105],[],0,8⟩:=by decide +kernel
  rw [e]
  exact ⟨Z,V.pure⟩
 refine SR<|Q<|zai Z Z<|AB Z<|G<|zaa Z (fun g50=>?_) (fun g50=>?_)
 ·refine SR <| MH Z <| Q <| zar zaP Z Z Z Z Z Z Z Z Z <| Ret.det (zaq _ _ _ _ _ _ _ _ _) V fun w V => Q (SO (v := zam _ _ _ _ _ _ _ _) V zaA Z Z .u0 fun w V => ?_)
  refine AB Z<|G<|zah func90 Z (zak (vs:=zap _ _ _ _ _ _ _ _) Z zaA Z Z (zab (n:=8) (V.objL Q0) _ Z)) (TP (v:=.bool _) Z) ?_
  subst g50
  have e:zbd 150 = some ⟨150,[79,112,73,83,117,98,66,111,114,114,111,119],true,true,[105,105],[],0,8⟩:=by decide +kernel
  rw [e]
  exact ⟨Z,V.pure⟩
 refine SR<|Q<|zai Z Z<|AB Z<|G<|zaa Z (fun g51=>?_) (fun g51=>?_)
 ·refine SR <| MH Z <| Q <| zar zaP Z Z Z Z Z Z Z Z Z <| Ret.det (zaq _ _ _ _ _ _ _ _ _) V fun w V => Q (SO (v := zam _ _ _ _ _ _ _ _) V zaA Z Z .u0 fun w V => ?_)
  refine AB Z<|G<|zah func90 Z (zak (vs:=zap _ _ _ _ _ _ _ _) Z zaA Z Z (zab (n:=8) (V.objL Q0) _ Z)) (TP (v:=.bool _) Z) ?_
  subst g51
  have e:zbd 151 = some ⟨151,[79,112,85,77,117,108,69,120,116,101,110,100,101,100],true,true,[105,105],[],0,8⟩:=by decide +kernel
  rw [e]
  exact ⟨Z,V.pure⟩
 refine SR<|Q<|zai Z Z<|AB Z<|G<|zaa Z (fun g52=>?_) (fun g52=>?_)
 ·refine SR <| MH Z <| Q <| zar zaP Z Z Z Z Z Z Z Z Z <| Ret.det (zaq _ _ _ _ _ _ _ _ _) V fun w V => Q (SO (v := zam _ _ _ _ _ _ _ _) V zaA Z Z .u0 fun w V => ?_)
  refine AB Z<|G<|zah func90 Z (zak (vs:=zap _ _ _ _ _ _ _ _) Z zaA Z Z (zab (n:=8) (V.objL Q0) _ Z)) (TP (v:=.bool _) Z) ?_
  subst g52
  have e:zbd 152 = some ⟨152,[79,112,83,77,117,108,69,120,116,101,110,100,101,100],true,true,[105,105],[],0,8⟩:=by decide +kernel
  rw [e]
  exact ⟨Z,V.pure⟩
 refine SR<|Q<|zai Z Z<|AB Z<|G<|zaa Z (fun g53=>?_) (fun g53=>?_)
 ·refine SR <| MH Z <| Q <| zar zaP Z Z Z Z Z Z Z Z Z <| Ret.det (zaq _ _ _ _ _ _ _ _ _) V fun w V => Q (SO (v := zam _ _ _ _ _ _ _ _) V zaA Z Z .u0 fun w V => ?_)
  refine AB Z<|G<|zah func90 Z (zak (vs:=zap _ _ _ _ _ _ _ _) Z zaA Z Z (zab (n:=8) (V.objL Q0) _ Z)) (TP (v:=.bool _) Z) ?_
  subst g53
  have e:zbd 154 = some ⟨154,[79,112,65,110,121],true,true,[105],[],0,8⟩:=by decide +kernel
  rw [e]
  exact ⟨Z,V.pure⟩
 refine SR<|Q<|zai Z Z<|AB Z<|G<|zaa Z (fun g54=>?_) (fun g54=>?_)
 ·refine SR <| MH Z <| Q <| zar zaP Z Z Z Z Z Z Z Z Z <| Ret.det (zaq _ _ _ _ _ _ _ _ _) V fun w V => Q (SO (v := zam _ _ _ _ _ _ _ _) V zaA Z Z .u0 fun w V => ?_)
  refine AB Z<|G<|zah func90 Z (zak (vs:=zap _ _ _ _ _ _ _ _) Z zaA Z Z (zab (n:=8) (V.objL Q0) _ Z)) (TP (v:=.bool _) Z) ?_
  subst g54
  have e:zbd 155 = some ⟨155,[79,112,65,108,108],true,true,[105],[],0,8⟩:=by decide +kernel
  rw [e]
  exact ⟨Z,V.pure⟩
 refine SR<|Q<|zai Z Z<|AB Z<|G<|zaa Z (fun g55=>?_) (fun g55=>?_)
 ·refine SR <| MH Z <| Q <| zar zaP Z Z Z Z Z Z Z Z Z <| Ret.det (zaq _ _ _ _ _ _ _ _ _) V fun w V => Q (SO (v := zam _ _ _ _ _ _ _ _) V zaA Z Z .u0 fun w V => ?_)
  refine AB Z<|G<|zah func90 Z (zak (vs:=zap _ _ _ _ _ _ _ _) Z zaA Z Z (zab (n:=8) (V.objL Q0) _ Z)) (TP (v:=.bool _) Z) ?_
  subst g55
  have e:zbd 164 = some ⟨164,[79,112,76,111,103,105,99,97,108,69,113,117,97,108],true,true,[105,105],[],0,8⟩:=by decide +kernel
  rw [e]
  exact ⟨Z,V.pure⟩
 refine SR<|Q<|zai Z Z<|AB Z<|G<|zaa Z (fun g56=>?_) (fun g56=>?_)
 ·refine SR <| MH Z <| Q <| zar zaP Z Z Z Z Z Z Z Z Z <| Ret.det (zaq _ _ _ _ _ _ _ _ _) V fun w V => Q (SO (v := zam _ _ _ _ _ _ _ _) V zaA Z Z .u0 fun w V => ?_)
  refine AB Z<|G<|zah func90 Z (zak (vs:=zap _ _ _ _ _ _ _ _) Z zaA Z Z (zab (n:=8) (V.objL Q0) _ Z)) (TP (v:=.bool _) Z) ?_
  subst g56
  have e:zbd 165 = some ⟨165,[79,112,76,111,103,105,99,97,108,78,111,116,69,113,117,97,108],true,true,[105,105],[],0,8⟩:=by decide +kernel
  rw [e]
  exact ⟨Z,V.pure⟩
 refine SR<|Q<|zai Z Z<|AB Z<|G<|zaa Z (fun g57=>?_) (fun g57=>?_)
 ·refine SR <| MH Z <| Q <| zar zaP Z Z Z Z Z Z Z Z Z <| Ret.det (zaq _ _ _ _ _ _ _ _ _) V fun w V => Q (SO (v := zam _ _ _ _ _ _ _ _) V zaA Z Z .u0 fun w V => ?_)
  refine AB Z<|G<|zah func90 Z (zak (vs:=zap _ _ _ _ _ _ _ _) Z zaA Z Z (zab (n:=8) (V.objL Q0) _ Z)) (TP (v:=.bool _) Z) ?_
  subst g57
  have e:zbd 166 = some ⟨166,[79,112,76,111,103,105,99,97,108,79,114],true,true,[105,105],[],0,8⟩:=by decide +kernel
  rw [e]
  exact ⟨Z,V.pure⟩
 refine SR<|Q<|zai Z Z<|AB Z<|G<|zal [(0,.int .u16 _),(2,Pp _ _),(4,.int .u16 _),(233,.bool _)] E4 fun f=>zaa Z (fun g58=>?_) (fun g58=>?_)
 ·refine SR <| MH Z <| Q <| zar zaP Z Z Z Z Z Z Z Z Z <| Ret.det (zaq _ _ _ _ _ _ _ _ _) V fun w V => Q (SO (v := zam _ _ _ _ _ _ _ _) V zaA Z Z .u0 fun w V => ?_)
  refine AB Z<|G<|zah func90 Z (zak (vs:=zap _ _ _ _ _ _ _ _) Z zaA Z Z (zab (n:=8) (V.objL Q0) _ Z)) (TP (v:=.bool _) Z) ?_
  subst g58
  have e:zbd 167 = some ⟨167,[79,112,76,111,103,105,99,97,108,65,110,100],true,true,[105,105],[],0,8⟩:=by decide +kernel
  rw [e]
  exact ⟨Z,V.pure⟩
 refine SR<|Q<|zai Z Z<|AB Z<|G<|zaa Z (fun g59=>?_) (fun g59=>?_)
 ·refine SR <| MH Z <| Q <| zar zaP Z Z Z Z Z Z Z Z Z <| Ret.det (zaq _ _ _ _ _ _ _ _ _) V fun w V => Q (SO (v := zam _ _ _ _ _ _ _ _) V zaA Z Z .u0 fun w V => ?_)
  refine AB Z<|G<|zah func90 Z (zak (vs:=zap _ _ _ _ _ _ _ _) Z zaA Z Z (zab (n:=8) (V.objL Q0) _ Z)) (TP (v:=.bool _) Z) ?_
  subst g59
  have e:zbd 168 = some ⟨168,[79,112,76,111,103,105,99,97,108,78,111,116],true,true,[105],[],0,8⟩:=by decide +kernel
  rw [e]
  exact ⟨Z,V.pure⟩
 refine SR<|Q<|zai Z Z<|AB Z<|G<|zaa Z (fun g60=>?_) (fun g60=>?_)
 ·refine SR <| MH Z <| Q <| zar zaP Z Z Z Z Z Z Z Z Z <| Ret.det (zaq _ _ _ _ _ _ _ _ _) V fun w V => Q (SO (v := zam _ _ _ _ _ _ _ _) V zaA Z Z .u0 fun w V => ?_)
  refine AB Z<|G<|zah func90 Z (zak (vs:=zap _ _ _ _ _ _ _ _) Z zaA Z Z (zab (n:=8) (V.objL Q0) _ Z)) (TP (v:=.bool _) Z) ?_
  subst g60
  have e:zbd 169 = some ⟨169,[79,112,83,101,108,101,99,116],true,true,[105,105,105],[],0,8⟩:=by decide +kernel
  rw [e]
  exact ⟨Z,V.pure⟩
 refine SR<|Q<|zai Z Z<|AB Z<|G<|zaa Z (fun g61=>?_) (fun g61=>?_)
 ·refine SR <| MH Z <| Q <| zar zaP Z Z Z Z Z Z Z Z Z <| Ret.det (zaq _ _ _ _ _ _ _ _ _) V fun w V => Q (SO (v := zam _ _ _ _ _ _ _ _) V zaA Z Z .u0 fun w V => ?_)
  refine AB Z<|G<|zah func90 Z (zak (vs:=zap _ _ _ _ _ _ _ _) Z zaA Z Z (zab (n:=8) (V.objL Q0) _ Z)) (TP (v:=.bool _) Z) ?_
  subst g61
  have e:zbd 170 = some ⟨170,[79,112,73,69,113,117,97,108],true,true,[105,105],[],0,8⟩:=by decide +kernel
  rw [e]
  exact ⟨Z,V.pure⟩
 refine SR<|Q<|zai Z Z<|AB Z<|G<|zaa Z (fun g62=>?_) (fun g62=>?_)
 ·refine SR <| MH Z <| Q <| zar zaP Z Z Z Z Z Z Z Z Z <| Ret.det (zaq _ _ _ _ _ _ _ _ _) V fun w V => Q (SO (v := zam _ _ _ _ _ _ _ _) V zaA Z Z .u0 fun w V => ?_)
  refine AB Z<|G<|zah func90 Z (zak (vs:=zap _ _ _ _ _ _ _ _) Z zaA Z Z (zab (n:=8) (V.objL Q0) _ Z)) (TP (v:=.bool _) Z) ?_
  subst g62
  have e:zbd 171 = some ⟨171,[79,112,73,78,111,116,69,113,117,97,108],true,true,[105,105],[],0,8⟩:=by decide +kernel
  rw [e]
  exact ⟨Z,V.pure⟩
 refine SR<|Q<|zai Z Z<|AB Z<|G<|zaa Z (fun g63=>?_) (fun g63=>?_)
 ·refine SR <| MH Z <| Q <| zar zaP Z Z Z Z Z Z Z Z Z <| Ret.det (zaq _ _ _ _ _ _ _ _ _) V fun w V => Q (SO (v := zam _ _ _ _ _ _ _ _) V zaA Z Z .u0 fun w V => ?_)
  refine AB Z<|G<|zah func90 Z (zak (vs:=zap _ _ _ _ _ _ _ _) Z zaA Z Z (zab (n:=8) (V.objL Q0) _ Z)) (TP (v:=.bool _) Z) ?_
  subst g63
  have e:zbd 172 = some ⟨172,[79,112,85,71,114,101,97,116,101,114,84,104,97,110],true,true,[105,105],[],0,8⟩:=by decide +kernel
  rw [e]
  exact ⟨Z,V.pure⟩
 refine SR<|Q<|zai Z Z<|AB Z<|G<|zaa Z (fun g64=>?_) (fun g64=>?_)
 ·refine SR <| MH Z <| Q <| zar zaP Z Z Z Z Z Z Z Z Z <| Ret.det (zaq _ _ _ _ _ _ _ _ _) V fun w V => Q (SO (v := zam _ _ _ _ _ _ _ _) V zaA Z Z .u0 fun w V => ?_)
  refine AB Z<|G<|zah func90 Z (zak (vs:=zap _ _ _ _ _ _ _ _) Z zaA Z Z (zab (n:=8) (V.objL Q0) _ Z)) (TP (v:=.bool _) Z) ?_
  subst g64
  have e:zbd 173 = some ⟨173,[79,112,83,71,114,101,97,116,101,114,84,104,97,110],true,true,[105,105],[],0,8⟩:=by decide +kernel
  rw [e]
  exact ⟨Z,V.pure⟩
 refine SR<|Q<|zai Z Z<|AB Z<|G<|zaa Z (fun g65=>?_) (fun g65=>?_)
 ·refine SR <| MH Z <| Q <| zar zaP Z Z Z Z Z Z Z Z Z <| Ret.det (zaq _ _ _ _ _ _ _ _ _) V fun w V => Q (SO (v := zam _ _ _ _ _ _ _ _) V zaA Z Z .u0 fun w V => ?_)
  refine AB Z<|G<|zah func90 Z (zak (vs:=zap _ _ _ _ _ _ _ _) Z zaA Z Z (zab (n:=8) (V.objL Q0) _ Z)) (TP (v:=.bool _) Z) ?_
  subst g65
  have e:zbd 174 = some ⟨174,[79,112,85,71,114,101,97,116,101,114,84,104,97,110,69,113,117,97,108],true,true,[105,105],[],0,8⟩:=by decide +kernel
  rw [e]
  exact ⟨Z,V.pure⟩
 refine SR<|Q<|zai Z Z<|AB Z<|G<|zaa Z (fun g66=>?_) (fun g66=>?_)
 ·refine SR <| MH Z <| Q <| zar zaP Z Z Z Z Z Z Z Z Z <| Ret.det (zaq _ _ _ _ _ _ _ _ _) V fun w V => Q (SO (v := zam _ _ _ _ _ _ _ _) V zaA Z Z .u0 fun w V => ?_)
  refine AB Z<|G<|zah func90 Z (zak (vs:=zap _ _ _ _ _ _ _ _) Z zaA Z Z (zab (n:=8) (V.objL Q0) _ Z)) (TP (v:=.bool _) Z) ?_
  subst g66
  have e:zbd 175 = some ⟨175,[79,112,83,71,114,101,97,116,101,114,84,104,97,110,69,113,117,97,108],true,true,[105,105],[],0,8⟩:=by decide +kernel
  rw [e]
  exact ⟨Z,V.pure⟩
 refine SR<|Q<|zai Z Z<|AB Z<|G<|zaa Z (fun g67=>?_) (fun g67=>?_)
 ·refine SR <| MH Z <| Q <| zar zaP Z Z Z Z Z Z Z Z Z <| Ret.det (zaq _ _ _ _ _ _ _ _ _) V fun w V => Q (SO (v := zam _ _ _ _ _ _ _ _) V zaA Z Z .u0 fun w V => ?_)
  refine AB Z<|G<|zah func90 Z (zak (vs:=zap _ _ _ _ _ _ _ _) Z zaA Z Z (zab (n:=8) (V.objL Q0) _ Z)) (TP (v:=.bool _) Z) ?_
  subst g67
  have e:zbd 176 = some ⟨176,[79,112,85,76,101,115,115,84,104,97,110],true,true,[105,105],[],0,8⟩:=by decide +kernel
  rw [e]
  exact ⟨Z,V.pure⟩
 refine SR<|Q<|zai Z Z<|AB Z<|G<|zal [(0,.int .u16 _),(2,Pp _ _),(4,.int .u16 _),(273,.bool _)] E4 fun f=>zaa Z (fun g68=>?_) (fun g68=>?_)
 ·refine SR <| MH Z <| Q <| zar zaP Z Z Z Z Z Z Z Z Z <| Ret.det (zaq _ _ _ _ _ _ _ _ _) V fun w V => Q (SO (v := zam _ _ _ _ _ _ _ _) V zaA Z Z .u0 fun w V => ?_)
  refine AB Z<|G<|zah func90 Z (zak (vs:=zap _ _ _ _ _ _ _ _) Z zaA Z Z (zab (n:=8) (V.objL Q0) _ Z)) (TP (v:=.bool _) Z) ?_
  subst g68
  have e:zbd 177 = some ⟨177,[79,112,83,76,101,115,115,84,104,97,110],true,true,[105,105],[],0,8⟩:=by decide +kernel
  rw [e]
  exact ⟨Z,V.pure⟩
 refine SR<|Q<|zai Z Z<|AB Z<|G<|zaa Z (fun g69=>?_) (fun g69=>?_)
 ·refine SR <| MH Z <| Q <| zar zaP Z Z Z Z Z Z Z Z Z <| Ret.det (zaq _ _ _ _ _ _ _ _ _) V fun w V => Q (SO (v := zam _ _ _ _ _ _ _ _) V zaA Z Z .u0 fun w V => ?_)
  refine AB Z<|G<|zah func90 Z (zak (vs:=zap _ _ _ _ _ _ _ _) Z zaA Z Z (zab (n:=8) (V.objL Q0) _ Z)) (TP (v:=.bool _) Z) ?_
  subst g69
  have e:zbd 178 = some ⟨178,[79,112,85,76,101,115,115,84,104,97,110,69,113,117,97,108],true,true,[105,105],[],0,8⟩:=by decide +kernel
  rw [e]
  exact ⟨Z,V.pure⟩
 refine SR<|Q<|zai Z Z<|AB Z<|G<|zaa Z (fun g70=>?_) (fun g70=>?_)
 ·refine SR <| MH Z <| Q <| zar zaP Z Z Z Z Z Z Z Z Z <| Ret.det (zaq _ _ _ _ _ _ _ _ _) V fun w V => Q (SO (v := zam _ _ _ _ _ _ _ _) V zaA Z Z .u0 fun w V => ?_)
  refine AB Z<|G<|zah func90 Z (zak (vs:=zap _ _ _ _ _ _ _ _) Z zaA Z Z (zab (n:=8) (V.objL Q0) _ Z)) (TP (v:=.bool _) Z) ?_
  subst g70
  have e:zbd 179 = some ⟨179,[79,112,83,76,101,115,115,84,104,97,110,69,113,117,97,108],true,true,[105,105],[],0,8⟩:=by decide +kernel
  rw [e]
  exact ⟨Z,V.pure⟩
 refine SR<|Q<|zai Z Z<|AB Z<|G<|zaa Z (fun g71=>?_) (fun g71=>?_)
 ·refine SR <| MH Z <| Q <| zar zaP Z Z Z Z Z Z Z Z Z <| Ret.det (zaq _ _ _ _ _ _ _ _ _) V fun w V => Q (SO (v := zam _ _ _ _ _ _ _ _) V zaA Z Z .u0 fun w V => ?_)
  refine AB Z<|G<|zah func90 Z (zak (vs:=zap _ _ _ _ _ _ _ _) Z zaA Z Z (zab (n:=8) (V.objL Q0) _ Z)) (TP (v:=.bool _) Z) ?_
  subst g71
  have e:zbd 194 = some ⟨194,[79,112,83,104,105,102,116,82,105,103,104,116,76,111,103,105,99,97,108],true,true,[105,105],[],0,8⟩:=by decide +kernel
  rw [e]
  exact ⟨Z,V.pure⟩
 refine SR<|Q<|zai Z Z<|AB Z<|G<|zaa Z (fun g72=>?_) (fun g72=>?_)
 ·refine SR <| MH Z <| Q <| zar zaP Z Z Z Z Z Z Z Z Z <| Ret.det (zaq _ _ _ _ _ _ _ _ _) V fun w V => Q (SO (v := zam _ _ _ _ _ _ _ _) V zaA Z Z .u0 fun w V => ?_)
  refine AB Z<|G<|zah func90 Z (zak (vs:=zap _ _ _ _ _ _ _ _) Z zaA Z Z (zab (n:=8) (V.objL Q0) _ Z)) (TP (v:=.bool _) Z) ?_
  subst g72
  have e:zbd 195 = some ⟨195,[79,112,83,104,105,102,116,82,105,103,104,116,65,114,105,116,104,109,101,116,105,99],true,true,[105,105],[],0,8⟩:=by decide +kernel
  rw [e]
  exact ⟨Z,V.pure⟩
 refine SR<|Q<|zai Z Z<|AB Z<|G<|zaa Z (fun g73=>?_) (fun g73=>?_)
 ·refine SR <| MH Z <| Q <| zar zaP Z Z Z Z Z Z Z Z Z <| Ret.det (zaq _ _ _ _ _ _ _ _ _) V fun w V => Q (SO (v := zam _ _ _ _ _ _ _ _) V zaA Z Z .u0 fun w V => ?_)
  refine AB Z<|G<|zah func90 Z (zak (vs:=zap _ _ _ _ _ _ _ _) Z zaA Z Z (zab (n:=8) (V.objL Q0) _ Z)) (TP (v:=.bool _) Z) ?_
  subst g73
  have e:zbd 196 = some ⟨196,[79,112,83,104,105,102,116,76,101,102,116,76,111,103,105,99,97,108],true,true,[105,105],[],0,8⟩:=by decide +kernel
  rw [e]
  exact ⟨Z,V.pure⟩
 refine SR<|Q<|zai Z Z<|AB Z<|G<|zaa Z (fun g74=>?_) (fun g74=>?_)
 ·refine SR <| MH Z <| Q <| zar zaP Z Z Z Z Z Z Z Z Z <| Ret.det (zaq _ _ _ _ _ _ _ _ _) V fun w V => Q (SO (v := zam _ _ _ _ _ _ _ _) V zaA Z Z .u0 fun w V => ?_)
  refine AB Z<|G<|zah func90 Z (zak (vs:=zap _ _ _ _ _ _ _ _) Z zaA Z Z (zab (n:=8) (V.objL Q0) _ Z)) (TP (v:=.bool _) Z) ?_
  subst g74
  have e:zbd 197 = some ⟨197,[79,112,66,105,116,119,105,115,101,79,114],true,true,[105,105],[],0,8⟩:=by decide +kernel
  rw [e]
  exact ⟨Z,V.pure⟩
 refine SR<|Q<|zai Z Z<|AB Z<|G<|zaa Z (fun g75=>?_) (fun g75=>?_)
 ·refine SR <| MH Z <| Q <| zar zaP Z Z Z Z Z Z Z Z Z <| Ret.det (zaq _ _ _ _ _ _ _ _ _) V fun w V => Q (SO (v := zam _ _ _ _ _ _ _ _) V zaA Z Z .u0 fun w V => ?_)
  refine AB Z<|G<|zah func90 Z (zak (vs:=zap _ _ _ _ _ _ _ _) Z zaA Z Z (zab (n:=8) (V.objL Q0) _ Z)) (TP (v:=.bool _) Z) ?_
  subst g75
  have e:zbd 198 = some ⟨198,[79,112,66,105,116,119,105,115,101,88,111,114],true,true,[105,105],[],0,8⟩:=by decide +kernel
  rw [e]
  exact ⟨Z,V.pure⟩
 refine SR<|Q<|zai Z Z<|AB Z<|G<|zaa Z (fun g76=>?_) (fun g76=>?_)
 ·refine SR <| MH Z <| Q <| zar zaP Z Z Z Z Z Z Z Z Z <| Ret.det (zaq _ _ _ _ _ _ _ _ _) V fun w V => Q (SO (v := zam _ _ _ _ _ _ _ _) V zaA Z Z .u0 fun w V => ?_)
  refine AB Z<|G<|zah func90 Z (zak (vs:=zap _ _ _ _ _ _ _ _) Z zaA Z Z (zab (n:=8) (V.objL Q0) _ Z)) (TP (v:=.bool _) Z) ?_
  subst g76
  have e:zbd 199 = some ⟨199,[79,112,66,105,116,119,105,115,101,65,110,100],true,true,[105,105],[],0,8⟩:=by decide +kernel
  rw [e]
  exact ⟨Z,V.pure⟩
 refine SR<|Q<|zai Z Z<|AB Z<|G<|zaa Z (fun g77=>?_) (fun g77=>?_)
 ·refine SR <| MH Z <| Q <| zar zaP Z Z Z Z Z Z Z Z Z <| Ret.det (zaq _ _ _ _ _ _ _ _ _) V fun w V => Q (SO (v := zam _ _ _ _ _ _ _ _) V zaA Z Z .u0 fun w V => ?_)
  refine AB Z<|G<|zah func90 Z (zak (vs:=zap _ _ _ _ _ _ _ _) Z zaA Z Z (zab (n:=8) (V.objL Q0) _ Z)) (TP (v:=.bool _) Z) ?_
  subst g77
  have e:zbd 200 = some ⟨200,[79,112,78,111,116],true,true,[105],[],0,8⟩:=by decide +kernel
  rw [e]
  exact ⟨Z,V.pure⟩
 refine SR<|Q<|zai Z Z<|AB Z<|G<|zal [(0,.int .u16 _),(2,Pp _ _),(4,.int .u16 _),(313,.bool _)] E4 fun f=>zaa Z (fun g78=>?_) (fun g78=>?_)
 ·refine SR <| MH Z <| Q <| zar zaP Z Z Z Z Z Z Z Z Z <| Ret.det (zaq _ _ _ _ _ _ _ _ _) V fun w V => Q (SO (v := zam _ _ _ _ _ _ _ _) V zaA Z Z .u0 fun w V => ?_)
  refine AB Z<|G<|zah func90 Z (zak (vs:=zap _ _ _ _ _ _ _ _) Z zaA Z Z (zab (n:=8) (V.objL Q0) _ Z)) (TP (v:=.bool _) Z) ?_
  subst g78
  have e:zbd 201 = some ⟨201,[79,112,66,105,116,70,105,101,108,100,73,110,115,101,114,116],true,true,[105,105,105,105],[],0,8⟩:=by decide +kernel
  rw [e]
  exact ⟨Z,V.pure⟩
 refine SR<|Q<|zai Z Z<|AB Z<|G<|zaa Z (fun g79=>?_) (fun g79=>?_)
 ·refine SR <| MH Z <| Q <| zar zaP Z Z Z Z Z Z Z Z Z <| Ret.det (zaq _ _ _ _ _ _ _ _ _) V fun w V => Q (SO (v := zam _ _ _ _ _ _ _ _) V zaA Z Z .u0 fun w V => ?_)
  refine AB Z<|G<|zah func90 Z (zak (vs:=zap _ _ _ _ _ _ _ _) Z zaA Z Z (zab (n:=8) (V.objL Q0) _ Z)) (TP (v:=.bool _) Z) ?_
  subst g79
  have e:zbd 202 = some ⟨202,[79,112,66,105,116,70,105,101,108,100,83,69,120,116,114,97,99,116],true,true,[105,105,105],[],0,8⟩:=by decide +kernel
  rw [e]
  exact ⟨Z,V.pure⟩
 refine SR<|Q<|zai Z Z<|AB Z<|G<|zaa Z (fun g80=>?_) (fun g80=>?_)
 ·refine SR <| MH Z <| Q <| zar zaP Z Z Z Z Z Z Z Z Z <| Ret.det (zaq _ _ _ _ _ _ _ _ _) V fun w V => Q (SO (v := zam _ _ _ _ _ _ _ _) V zaA Z Z .u0 fun w V => ?_)
  refine AB Z<|G<|zah func90 Z (zak (vs:=zap _ _ _ _ _ _ _ _) Z zaA Z Z (zab (n:=8) (V.objL Q0) _ Z)) (TP (v:=.bool _) Z) ?_
  subst g80
  have e:zbd 203 = some ⟨203,[79,112,66,105,116,70,105,101,108,100,85,69,120,116,114,97,99,116],true,true,[105,105,105],[],0,8⟩:=by decide +kernel
  rw [e]
  exact ⟨Z,V.pure⟩
 refine SR<|Q<|zai Z Z<|AB Z<|G<|zaa Z (fun g81=>?_) (fun g81=>?_)
 ·refine SR <| MH Z <| Q <| zar zaP Z Z Z Z Z Z Z Z Z <| Ret.det (zaq _ _ _ _ _ _ _ _ _) V fun w V => Q (SO (v := zam _ _ _ _ _ _ _ _) V zaA Z Z .u0 fun w V => ?_)
  refine AB Z<|G<|zah func90 Z (zak (vs:=zap _ _ _ _ _ _ _ _) Z zaA Z Z (zab (n:=8) (V.objL Q0) _ Z)) (TP (v:=.bool _) Z) ?_
  subst g81
  have e:zbd 204 = some ⟨204,[79,112,66,105,116,82,101,118,101,114,115,101],true,true,[105],[],0,8⟩:=by decide +kernel
  rw [e]
  exact ⟨Z,V.pure⟩
 refine SR<|Q<|zai Z Z<|AB Z<|G<|zaa Z (fun g82=>?_) (fun g82=>?_)
 ·refine SR <| MH Z <| Q <| zar zaP Z Z Z Z Z Z Z Z Z <| Ret.det (zaq _ _ _ _ _ _ _ _ _) V fun w V => Q (SO (v := zam _ _ _ _ _ _ _ _) V zaA Z Z .u0 fun w V => ?_)
  refine AB Z<|G<|zah func90 Z (zak (vs:=zap _ _ _ _ _ _ _ _) Z zaA Z Z (zab (n:=8) (V.objL Q0) _ Z)) (TP (v:=.bool _) Z) ?_
  subst g82
  have e:zbd 205 = some ⟨205,[79,112,66,105,116,67,111,117,110,116],true,true,[105],[],0,8⟩:=by decide +kernel
  rw [e]
  exact ⟨Z,V.pure⟩
 refine SR<|Q<|zai Z Z<|AB Z<|G<|zaa Z (fun g83=>?_) (fun g83=>?_)
 ·refine SR <| MH Z <| Q <| zar zaP Z Z Z Z Z Z Z Z Z <| Ret.det (zaq _ _ _ _ _ _ _ _ _) V fun w V => Q (SO (v := zam _ _ _ _ _ _ _ _) V zaA Z Z .u0 fun w V => ?_)
  refine AB Z<|G<|zah func90 Z (zak (vs:=zap _ _ _ _ _ _ _ _) Z zaA Z Z (zab (n:=8) (V.objL Q0) _ Z)) (TP (v:=.bool _) Z) ?_
  subst g83
  have e:zbd 245 = some ⟨245,[79,112,80,104,105],true,true,[],[105,105],0,8⟩:=by decide +kernel
  rw [e]
  exact ⟨Z,V.pure⟩
 refine SR<|Q<|zai Z Z<|AB Z<|G<|zaa Z (fun g84=>?_) (fun g84=>?_)
 ·refine SR <| MH Z <| Q <| zar zaP Z Z Z Z Z Z Z Z Z <| Ret.det (zaq _ _ _ _ _ _ _ _ _) V fun w V => Q (SO (v := zam _ _ _ _ _ _ _ _) V zaA Z Z .u0 fun w V => ?_)
  refine AB Z<|G<|zah func90 Z (zak (vs:=zap _ _ _ _ _ _ _ _) Z zaA Z Z (zab (n:=8) (V.objL Q0) _ Z)) (TP (v:=.bool _) Z) ?_
  subst g84
  have e:zbd 246 = some ⟨246,[79,112,76,111,111,112,77,101,114,103,101],false,false,[105,105,103],[],0,8⟩:=by decide +kernel
  rw [e]
  exact ⟨Z,V.pure⟩
 refine SR<|Q<|zai Z Z<|AB Z<|G<|zaa Z (fun g85=>?_) (fun g85=>?_)
 ·refine SR <| MH Z <| Q <| zar zaP Z Z Z Z Z Z Z Z Z <| Ret.det (zaq _ _ _ _ _ _ _ _ _) V fun w V => Q (SO (v := zam _ _ _ _ _ _ _ _) V zaA Z Z .u0 fun w V => ?_)
  refine AB Z<|G<|zah func90 Z (zak (vs:=zap _ _ _ _ _ _ _ _) Z zaA Z Z (zab (n:=8) (V.objL Q0) _ Z)) (TP (v:=.bool _) Z) ?_
  subst g85
  have e:zbd 247 = some ⟨247,[79,112,83,101,108,101,99,116,105,111,110,77,101,114,103,101],false,false,[105,104],[],0,8⟩:=by decide +kernel
  rw [e]
  exact ⟨Z,V.pure⟩
 refine SR<|Q<|zai Z Z<|AB Z<|G<|zaa Z (fun g86=>?_) (fun g86=>?_)
 ·refine SR <| MH Z <| Q <| zar zaP Z Z Z Z Z Z Z Z Z <| Ret.det (zaq _ _ _ _ _ _ _ _ _) V fun w V => Q (SO (v := zam _ _ _ _ _ _ _ _) V zaA Z Z .u0 fun w V => ?_)
  refine AB Z<|G<|zah func90 Z (zak (vs:=zap _ _ _ _ _ _ _ _) Z zaA Z Z (zab (n:=8) (V.objL Q0) _ Z)) (TP (v:=.bool _) Z) ?_
  subst g86
  have e:zbd 248 = some ⟨248,[79,112,76,97,98,101,108],false,true,[],[],0,8⟩:=by decide +kernel
  rw [e]
  exact ⟨Z,V.pure⟩
 refine SR<|Q<|zai Z Z<|AB Z<|G<|zaa Z (fun g87=>?_) (fun g87=>?_)
 ·refine SR <| MH Z <| Q <| zar zaP Z Z Z Z Z Z Z Z Z <| Ret.det (zaq _ _ _ _ _ _ _ _ _) V fun w V => Q (SO (v := zam _ _ _ _ _ _ _ _) V zaA Z Z .u0 fun w V => ?_)
  refine AB Z<|G<|zah func90 Z (zak (vs:=zap _ _ _ _ _ _ _ _) Z zaA Z Z (zab (n:=8) (V.objL Q0) _ Z)) (TP (v:=.bool _) Z) ?_
  subst g87
  have e:zbd 249 = some ⟨249,[79,112,66,114,97,110,99,104],false,false,[105],[],0,8⟩:=by decide +kernel
  rw [e]
  exact ⟨Z,V.pure⟩
 refine SR<|Q<|zai Z Z<|AB Z<|G<|zal [(0,.int .u16 _),(2,Pp _ _),(4,.int .u16 _),(353,.bool _)] E4 fun f=>zaa Z (fun g88=>?_) (fun g88=>?_)
 ·refine SR <| MH Z <| Q <| zar zaP Z Z Z Z Z Z Z Z Z <| Ret.det (zaq _ _ _ _ _ _ _ _ _) V fun w V => Q (SO (v := zam _ _ _ _ _ _ _ _) V zaA Z Z .u0 fun w V => ?_)
  refine AB Z<|G<|zah func90 Z (zak (vs:=zap _ _ _ _ _ _ _ _) Z zaA Z Z (zab (n:=8) (V.objL Q0) _ Z)) (TP (v:=.bool _) Z) ?_
  subst g88
  have e:zbd 250 = some ⟨250,[79,112,66,114,97,110,99,104,67,111,110,100,105,116,105,111,110,97,108],false,false,[105,105,105],[],0,8⟩:=by decide +kernel
  rw [e]
  exact ⟨Z,V.pure⟩
 refine SR<|Q<|zai Z Z<|AB Z<|G<|zaa Z (fun g89=>?_) (fun g89=>?_)
 ·refine SR <| MH Z <| Q <| zar zaP Z Z Z Z Z Z Z Z Z <| Ret.det (zaq _ _ _ _ _ _ _ _ _) V fun w V => Q (SO (v := zam _ _ _ _ _ _ _ _) V zaA Z Z .u0 fun w V => ?_)
  refine AB Z<|G<|zah func90 Z (zak (vs:=zap _ _ _ _ _ _ _ _) Z zaA Z Z (zab (n:=8) (V.objL Q0) _ Z)) (TP (v:=.bool _) Z) ?_
  subst g89
  have e:zbd 251 = some ⟨251,[79,112,83,119,105,116,99,104],false,false,[105,105],[110,105],0,8⟩:=by decide +kernel
  rw [e]
  exact ⟨Z,V.pure⟩
 refine SR<|Q<|zai Z Z<|AB Z<|G<|zaa Z (fun g90=>?_) (fun g90=>?_)
 ·refine SR <| MH Z <| Q <| zar zaP Z Z Z Z Z Z Z Z Z <| Ret.det (zaq _ _ _ _ _ _ _ _ _) V fun w V => Q (SO (v := zam _ _ _ _ _ _ _ _) V zaA Z Z .u0 fun w V => ?_)
  refine AB Z<|G<|zah func90 Z (zak (vs:=zap _ _ _ _ _ _ _ _) Z zaA Z Z (zab (n:=8) (V.objL Q0) _ Z)) (TP (v:=.bool _) Z) ?_
  subst g90
  have e:zbd 252 = some ⟨252,[79,112,75,105,108,108],false,false,[],[],0,8⟩:=by decide +kernel
  rw [e]
  exact ⟨Z,V.pure⟩
 refine SR<|Q<|zai Z Z<|AB Z<|G<|zaa Z (fun g91=>?_) (fun g91=>?_)
 ·refine SR <| MH Z <| Q <| zar zaP Z Z Z Z Z Z Z Z Z <| Ret.det (zaq _ _ _ _ _ _ _ _ _) V fun w V => Q (SO (v := zam _ _ _ _ _ _ _ _) V zaA Z Z .u0 fun w V => ?_)
  refine AB Z<|G<|zah func90 Z (zak (vs:=zap _ _ _ _ _ _ _ _) Z zaA Z Z (zab (n:=8) (V.objL Q0) _ Z)) (TP (v:=.bool _) Z) ?_
  subst g91
  have e:zbd 253 = some ⟨253,[79,112,82,101,116,117,114,110],false,false,[],[],0,8⟩:=by decide +kernel
  rw [e]
  exact ⟨Z,V.pure⟩
 refine SR<|Q<|zai Z Z<|AB Z<|G<|zaa Z (fun g92=>?_) (fun g92=>?_)
 ·refine SR <| MH Z <| Q <| zar zaP Z Z Z Z Z Z Z Z Z <| Ret.det (zaq _ _ _ _ _ _ _ _ _) V fun w V => Q (SO (v := zam _ _ _ _ _ _ _ _) V zaA Z Z .u0 fun w V => ?_)
  refine AB Z<|G<|zah func90 Z (zak (vs:=zap _ _ _ _ _ _ _ _) Z zaA Z Z (zab (n:=8) (V.objL Q0) _ Z)) (TP (v:=.bool _) Z) ?_
  subst g92
  have e:zbd 254 = some ⟨254,[79,112,82,101,116,117,114,110,86,97,108,117,101],false,false,[105],[],0,8⟩:=by decide +kernel
  rw [e]
  exact ⟨Z,V.pure⟩
 refine SR<|Q<|zai Z Z<|AB Z<|G<|zaa Z (fun g93=>?_) (fun g93=>?_)
 ·refine SR <| MH Z <| Q <| zar zaP Z Z Z Z Z Z Z Z Z <| Ret.det (zaq _ _ _ _ _ _ _ _ _) V fun w V => Q (SO (v := zam _ _ _ _ _ _ _ _) V zaA Z Z .u0 fun w V => ?_)
  refine AB Z<|G<|zah func90 Z (zak (vs:=zap _ _ _ _ _ _ _ _) Z zaA Z Z (zab (n:=8) (V.objL Q0) _ Z)) (TP (v:=.bool _) Z) ?_
  subst g93
  have e:zbd 255 = some ⟨255,[79,112,85,110,114,101,97,99,104,97,98,108,101],false,false,[],[],0,8⟩:=by decide +kernel
  rw [e]
  exact ⟨Z,V.pure⟩
 refine zaj<|zan<|SR<|Q (zaf zaA zjP .nil ?_)
 refine Q (SO (v:=zam _ _ _ _ _ _ _ _) V zaA Z Z .u0 fun w V=>?_)
 refine AB Z<|G<|zah func90 Z (zak (vs:=zap _ _ _ _ _ _ _ _) Z zaA Z Z (zab (n:=8) (V.objL Q0) _ Z)) (TP (v:=.bool _) Z) ?_
 rw [show zbd op = none from zhw (by simp only [refT,List.forall_mem_cons]; exact ⟨g1,g2,g3,g4,g5,g6,g7,g8,g9,g10,g11,g12,g13,g14,g15,g16,g17,g18,g19,g20,g21,g22,g23,g24,g25,g26,g27,g28,g29,g30,g31,g32,g33,g34,g35,g36,g37,g38,g39,g40,g41,g42,g43,g44,g45,g46,g47,g48,g49,g50,g51,g52,g53,g54,g55,g56,g57,g58,g59,g60,g61,g62,g63,g64,g65,g66,g67,g68,g69,g70,g71,g72,g73,g74,g75,g76,g77,g78,g79,g80,g81,g82,g83,g84,g85,g86,g87,g88,g89,g90,g91,g92,g93,fun _ h=>absurd h List.not_mem_nil⟩)]
 exact ⟨Z,V.pure⟩
theorem zl3 (op:Int) (h0:0 ≤ op) (w:World):Ret prog 75 #[.int .u16 op] w (fun v w'=>v = ztI (zbd op) ∧ St w NoM [] [] w'):=by
 refine zax (args:=[.int .u16 op]) func75 Z Z Z ?_
 have V:=St.init w
 refine SR<|Q<|zaw V zaA fun w b2 V=>AB Z<|NSR<|MH Z<|Q<|zav (v1:=.int .u16 _) ent134 Z Z<|Ret.det (zsp _ _) V fun w V=>AS Z<|G<|SQ<|SR<|MS Z ?_
 refine Q<|zdx Z Z<|G<|zaa Z (fun g1=>?_) (fun g1=>?_)
 ·have hemp := g1
  refine SR<|Q (zaf zaA zjP .nil ?_)
  refine Q (SO (v:=zam _ _ _ _ _ _ _ _) V zaA Z Z .u0 fun w V=>?_)
  refine AB Z<|G<|zah func75 Z (zak (vs:=zap _ _ _ _ _ _ _ _) Z zaA Z Z (zab (n:=8) (V.objL Q0) _ Z)) (TP (v:=.bool _) Z) ?_
  rw [← (zfI h0).2]
  have e:ofS op = none:=by unfold ofS; rw [if_pos hemp]
  rw [e]
  exact ⟨Z,V.pure⟩
 have hemp:=g1
 obtain ⟨fd0,fd1,fd2,fd3,fd4,fd5,hf⟩:=R7six (zea (zi8 op))
 replace hf:zcu (zi8 op) = [fd0,fd1,fd2,fd3,fd4,fd5]:=hf
 obtain ⟨_,_,_,hfa,hf5⟩:=ziv (zfI h0).1
 rw [hf] at hfa hf5
 replace hf5:0 < fd5.length:=List.length_pos_iff.2 (hf5.resolve_left hemp)
 have hasc:∀ c ∈ fd1,c.toNat < 128:=hfa fd1 (by simp)
 refine zaj<|SR<|MS Z<|Q<|zav (v1:=str _) ent135 Z Z<|Ret.det (zl2 _ _ _ _ _ _ _ (zfI h0).1 hf _) V fun w V=>Q<|zaw V ze6 fun w b5 V=>Q (SO (v:=.agg #[str _,str _,str _,str _,str _,str _]) V ze6 Z Z .u0 fun w V=>?_)
 refine G<|SQ<|RunD.start [] V (bs:=[0,0,2,0,8,0,32,0,128,384,896,2047,0,8191]) (ds:=[some 16,some 17,some 18,some 19,some 20,some 21,some 22,some 23,some 24,some 25,some 26,some 27,some 6,none]) ⟨Kr,Kr,Kr⟩ (fun tab2=>?_)
 refine DO tab2 1 (fun _ _ _ hc=>zad (v:=.int .u16 _) (hc.old Z Z Z) hc.z)<|DO tab2 2 (fun _ _ _ hc=>zbK ze6 ty9 (hc.old (v:=Pp _ _) Z Z Z) Z De De hc.z)<|DO tab2 3 (fun _ _ _ hc=>zae (v:=str _) ty9 Z (hc.d 1 Z Z Z Z) (hc.st.cellL (Ar Q0) Z) hc.z)<|DO tab2 4 (fun _ _ _ hc=>zbK ze6 ty9 (hc.old (v:=Pp _ _) Z Z Z) Z De De hc.z)<|DO tab2 5 (fun _ _ _ hc=>zae (v:=str _) ty9 Z (hc.d 3 Z Z Z Z) (hc.st.cellL (Ar Q0) Z) hc.z)<|DO tab2 6 (fun _ _ _ hc=>zbK ze6 ty9 (hc.old (v:=Pp _ _) Z Z Z) Z De De hc.z)<|DO tab2 7 (fun _ _ _ hc=>zae (v:=str _) ty9 Z (hc.d 5 Z Z Z Z) (hc.st.cellL (Ar Q0) Z) hc.z)<|DO tab2 8 (fun _ _ _ hc=>zbK ze6 ty9 (hc.old (v:=Pp _ _) Z Z Z) Z De De hc.z)<|DO tab2 9 (fun _ _ _ hc=>zae (v:=str _) ty9 Z (hc.d 7 Z Z Z Z) (hc.st.cellL (Ar Q0) Z) hc.z)<|DO tab2 10 (fun _ _ _ hc=>zaZ ty9 (hc.d 8 Z Z Z Z) Z O O hc.z)<|DO tab2 11 (fun _ _ _ hc=>zqK (hc.d 9 Z Z Z Z) Z hc.z)<|DO tab2 12 (fun _ _ _ hc=>zaf zaA zjP (.c (v:=.int .u16 _) (hc.d 0 Z Z Z Z) (h:=(.c (v:=str _) (hc.d 2 Z Z Z Z) (h:=(.c (v:=str _) (hc.d 4 Z Z Z Z) (h:=(.c (v:=str _) (hc.d 6 Z Z Z Z) (h:=(.c (v:=.int .u8 _) (hc.d 10 Z Z Z Z) (h:=.nil)))))))))) hc.z) ?_
 refine RunD.op (fun v rs=>∃ b,v = .pointer (some ⟨b,0,none⟩) ∧ rs = [Res.row b 113 [.int .u16 0,str [],.bool false,.bool false,str [],str [],.int .i64 0,.int .u8 0]]) tab2 13 (fun _ _ _ hc=>zaw hc.st zaA fun w b V=>⟨[_],⟨b,Z,Z⟩,V⟩)<|RunD.fin zaB tab2 V Z (fun f3 w R6 hs4 hd5 hr7 V=>?_)
 obtain ⟨h16_,r0⟩:=hd5 0 16 rfl rfl
 obtain ⟨h17_,r1⟩:=hd5 1 17 rfl rfl
 obtain ⟨h18_,r2⟩:=hd5 2 18 rfl rfl
 obtain ⟨h19_,r3⟩:=hd5 3 19 rfl rfl
 obtain ⟨h20_,r4⟩:=hd5 4 20 rfl rfl
 obtain ⟨h21_,r5⟩:=hd5 5 21 rfl rfl
 obtain ⟨h22_,r6⟩:=hd5 6 22 rfl rfl
 obtain ⟨h23_,r7⟩:=hd5 7 23 rfl rfl
 obtain ⟨h24_,r8⟩:=hd5 8 24 rfl rfl
 obtain ⟨h25_,r9⟩:=hd5 9 25 rfl rfl
 obtain ⟨h26_,r10⟩:=hd5 10 26 rfl rfl
 obtain ⟨h27_,r11⟩:=hd5 11 27 rfl rfl
 obtain ⟨b6,h6_,r12⟩:=hd5 12 6 rfl rfl
 simp only [rg13,Fc,Fn,Mc,Mn,r0,r1,r2,r3,r4,r5,r6,r7,r8,r9,r10,r11,r12,Na,An,Ca] at V
 refine zaH (sl:=[(2,Pp _ _),(5,Pp _ _),(6,Pp _ _),(27,zam _ _ _ _ _ _ _ _)]) ⟨(hs4 2 Z).trans Z,(hs4 5 Z).trans Z,h6_,h27_,trivial⟩ ?_
 clear hs4 hd5 hr7 tab2
 refine Q (SO (v:=zam _ _ _ _ _ _ _ _) V zaA Z Z .u0 fun w V=>?_)
 refine G<|zal [(2,Pp _ _),(5,Pp _ _),(6,Pp _ _)] E3 fun f=>SQ<|SR<|Q<|zbK ze6 ty9 Z Z De De<|Q<|zae (v:=str _) ty9 Z Z (V.cellL Q1 Z)<|Q<|ze2 V ty9 Z fun w it30 V=>G<|zau<|zba<|za7 [(2,Pp _ _),(5,Pp _ _),(6,Pp _ _),(30,.pointer (some ⟨_,0,none⟩))] E4 (fun (i:Nat)=>[]) (fun (i:Nat)=>[Res.iter it30 fd1 i,Res.row b6 113 [.int .u16 op,str fd0,.bool ((fd1.take i).contains 84),.bool ((fd1.take i).contains 82),str fd2,str fd3,.int .i64 0,.int .u8 (zh7 (fd5.getD 0 0) 48)]]) (fun (i:Nat)=>i ≤ fd1.length) (fun (i:Nat)=>fd1.length - i) (0) V (Nat.zero_le _) trivial ?_
 intro i f w V hJ ih8
 refine SQ<|RG ?_
 rcases Nat.lt_or_ge i fd1.length with g9 | g9
 ·have hc := hasc _ (List.getElem_mem g9)
  refine Q (zga V Z .u0 (List.getElem?_eq_getElem g9) (hc) fun w V=>?_)
  refine Q<|Ex (.bool _) Z Z<|G<|SQ<|zat (Vb (Z:true = _))<|zaj<|zau<|SR<|Q<|Ex (.int .i32 _) Z Z<|Q<|zao (v:=.int .i32 _) Z<|NSR<|Q<|zac zeY Z<|Q (zae (v:=.bool _) ty4 Z Z (V.cellL Q1 Z) ?_)
  refine MB Z<|zcF (d:=36) Z (fun g10=>?_) (fun g10=>?_)
  ·refine OM (t := 36) Z (Vb g10) Z <| OM (t := 36) Z (Vb g10) Z <| Q <| zaE (u := .bool _) (Vb g10) Z <| Q <| zac zeY Z <| Q (SO (v := .bool _) V ty4 Z Z .u1 fun w V => ?_)
   refine NR<|Q<|zac zcY Z<|Q<|zae (v:=.bool _) ty4 Z Z (V.cellL Q1 Z)<|MB Z<|zcF (d:=43) Z (fun g11=>?_) (fun g11=>?_)
   ·refine OM (t := 43) Z (Vb g11) Z <| OM (t := 43) Z (Vb g11) Z <| Q <| zaE (u := .bool _) (Vb g11) Z <| Q <| zac zcY Z <| Q (SO (v := .bool _) V ty4 Z Z .u1 fun w V => ?_)
    refine G<|zan<|zaG ?_
    exact ih8 (i + 1) _ w (by omega) (by (try dsimp only); rw [zdr 84 (m:=84) rfl g9,zdr 82 (m:=82) rfl g9]; simp only [g10,g11,Bool.true_or,Bool.false_or]; exact V) (by omega) E4 trivial
   refine TK (t:=43) Z (Vb g11)<|zad (v:=.int .i32 _) Z<|TK (t:=43) Z (Vb g11)<|zai Z Z<|Q<|zay (u:=.bool _) (Vb g11) Z<|Q<|zac zcY Z<|Q (SO (v:=.bool _) V ty4 Z Z .u1 fun w V=>?_)
   refine G<|zan<|zaG ?_
   exact ih8 (i + 1) _ w (by omega) (by (try dsimp only); rw [zdr 84 (m:=84) rfl g9,zdr 82 (m:=82) rfl g9]; simp only [g10,g11,Bool.true_or,Bool.false_or]; exact V) (by omega) E4 trivial
  refine TK (t:=36) Z (Vb g10)<|zad (v:=.int .i32 _) Z<|TK (t:=36) Z (Vb g10)<|zai Z Z<|Q<|zay (u:=.bool _) (Vb g10) Z<|Q<|zac zeY Z<|Q (SO (v:=.bool _) V ty4 Z Z .u1 fun w V=>?_)
  refine NR<|Q<|zac zcY Z<|Q<|zae (v:=.bool _) ty4 Z Z (V.cellL Q1 Z)<|MB Z<|zcF (d:=43) Z (fun g12=>?_) (fun g12=>?_)
  ·refine OM (t := 43) Z (Vb g12) Z <| OM (t := 43) Z (Vb g12) Z <| Q <| zaE (u := .bool _) (Vb g12) Z <| Q <| zac zcY Z <| Q (SO (v := .bool _) V ty4 Z Z .u1 fun w V => ?_)
   refine G<|zan<|zaG ?_
   exact ih8 (i + 1) _ w (by omega) (by (try dsimp only); rw [zdr 84 (m:=84) rfl g9,zdr 82 (m:=82) rfl g9]; simp only [g10,g12,Bool.true_or,Bool.false_or]; exact V) (by omega) E4 trivial
  refine TK (t:=43) Z (Vb g12)<|zad (v:=.int .i32 _) Z<|TK (t:=43) Z (Vb g12)<|zai Z Z<|Q<|zay (u:=.bool _) (Vb g12) Z<|Q<|zac zcY Z<|Q (SO (v:=.bool _) V ty4 Z Z .u1 fun w V=>?_)
  refine G<|zan<|zaG ?_
  exact ih8 (i + 1) _ w (by omega) (by (try dsimp only); rw [zdr 84 (m:=84) rfl g9,zdr 82 (m:=82) rfl g9]; simp only [g10,g12,Bool.true_or,Bool.false_or]; exact V) (by omega) E4 trivial
 obtain rfl:i = fd1.length:=by omega
 rw [List.take_length] at V
 refine Q<|zgb V Z Q0 g9<|Q<|Ex (.bool _) Z Z<|G<|SQ<|zas (Vb (Z:false = _))<|zaU (id:=0) Z<|SQ<|SR<|Q<|zbK ze6 ty9 Z Z De De<|Q<|zae (v:=str _) ty9 Z Z (V.cellL Q2 Z)<|Q<|ze4 Z Z<|G<|zaa Z (fun g13=>?_) (fun g13=>?_)
 ·have hf4 : 0 < fd4.length := List.length_pos_iff.2 g13
  have hwb:=zoY ((((fd4.getD (0:Int).toNat 0).toNat:Nat):Int) - 48)
  refine RG<|Q<|zbK ze6 ty9 Z Z De De<|Q<|zae (v:=str _) ty9 Z Z (V.cellL Q2 Z)<|Q<|zaZ ty9 Z Z O O<|Q (zqK Z Z ?_)
  first | refine Q (zaW ty5 ty3 rfl zbS ?_) | refine Q (za4 ty5 ty3 rfl ?_)
  refine Q<|zac zfY Z<|Q (SO (v:=.int .i64 _) V ty3 Z Z .u1 fun w V=>?_)
  refine NSR<|Q<|zaC (vs:=zap _ _ _ _ _ _ _ _) zaA Z Z Z (zab (n:=8) (V.objL Q1) _ Z)<|Q (SO (v:=zam _ _ _ _ _ _ _ _) V zaA Z Z .u3 fun w V=>?_)
  refine AB Z<|G<|zah func75 Z (zak (vs:=zap _ _ _ _ _ _ _ _) Z zaA Z Z (zab (n:=8) (V.objL Q3) _ Z)) (TP (v:=.bool _) Z) ?_
  rw [← (zfI h0).2]
  have e:ofS op = some (FormL.mk op fd0 (fd1.contains 84) (fd1.contains 82) fd2 fd3 (zh7 (fd4.getD 0 0) 48) (zh7 (fd5.getD 0 0) 48)):=by
   unfold ofS
   rw [if_neg hemp,hf]
   show some (FormL.mk op fd0 (fd1.contains 84) (fd1.contains 82) fd2 fd3 (if fd4 = [] then 0 else zh7 (fd4.getD 0 0) 48) (zh7 (fd5.getD 0 0) 48)) = _
   rw [if_neg g13]
  rw [e]
  exact ⟨Z,V.pure⟩
 refine zaj<|SR<|Q<|zaC (vs:=zap _ _ _ _ _ _ _ _) zaA Z Z Z (zab (n:=8) (V.objL Q1) _ Z)<|Q (SO (v:=zam _ _ _ _ _ _ _ _) V zaA Z Z .u3 fun w V=>?_)
 refine AB Z<|G<|zah func75 Z (zak (vs:=zap _ _ _ _ _ _ _ _) Z zaA Z Z (zab (n:=8) (V.objL Q3) _ Z)) (TP (v:=.bool _) Z) ?_
 rw [← (zfI h0).2]
 have e:ofS op = some (FormL.mk op fd0 (fd1.contains 84) (fd1.contains 82) fd2 fd3 0 (zh7 (fd5.getD 0 0) 48)):=by
  unfold ofS
  rw [if_neg hemp,hf]
  show some (FormL.mk op fd0 (fd1.contains 84) (fd1.contains 82) fd2 fd3 (if fd4 = [] then 0 else zh7 (fd4.getD 0 0) 48) (zh7 (fd5.getD 0 0) 48)) = _
  rw [if_pos (Nn g13)]
 rw [e]
 exact ⟨Z,V.pure⟩
end Go.SK
namespace Go.SK
open Go Go.Proofs Go.Proofs.Tryz
theorem za1:TyF prog 224 (.struct (zbk prog 224)) 3 24 [.int .u8 0,.int .u32 0,str []]:=zbw Kr Kr
theorem zbC:zcE prog 224 [(0,1),(1,1),(2,1)]:=⟨zbk prog 224,Kr,fun w=>Kr⟩
theorem zbi:TyF prog 221 (.slice 224) 1 24 [.slice none 0 0]:=zbw Kr Kr
theorem ent148:zaJ prog 148:=⟨f148,_,func148,Kr,rfl⟩
theorem zrO:FldF prog 224 0 0:=FldF.of (n:=0) Kr
theorem zrN:FldF prog 224 1 1:=FldF.of (n:=0) Kr
theorem zrM:FldF prog 224 2 2:=FldF.of (n:=0) Kr
theorem zsP:zaJ prog 181:=⟨f181,_,func181,Kr,rfl⟩
theorem ent222:zaJ prog 222:=⟨f222,_,func222,Kr,rfl⟩
open Go.RowKit
set_option maxRecDepth 4000 in
theorem zlU  (w:World):Ret prog 148 #[] w (fun v w'=>∃ ao cp,v = .slice ao namesL.length cp ∧ St w NoM [Res.sl ao namesL.length cp 224 3 (namesL.flatMap zpz)] [] w'):=by
 refine zax (args:=[]) func148 Z Z Z ?_
 have V:=St.init w
 refine SR<|AL Z<|NSR<|AL Z<|NSR<|ML Z<|Q (zaf za1 zbC (.c (v:=.int .u8 _) Z (h:=(.c (v:=.int .u32 _) Z (h:=(.c (v:=str _) Z (h:=.nil)))))) ?_)
 refine Q (zaI (z0:=[.int .u8 0,.int .u32 0,str []]) V zbi za1 Z Z Kr (.c (v:=zcp _ _ _) Z (h:=.nil)) fun w b4 V=>?_)
 replace V:=V.pushNil 224 3
 refine Q (zaO (news:=(zcB _ _ _)) V zbi za1 Z Z .u0 Z Z Z (zab (n:=3) (V.objL Q1) _ Z) Z Z O fun w ao1 cp2 V=>?_)
 replace V:=V.drop .u1
 refine AL Z<|NSR<|ML Z<|Q (zaf za1 zbC (.c (v:=.int .u8 _) Z (h:=(.c (v:=.int .u32 _) Z (h:=(.c (v:=str _) Z (h:=.nil)))))) ?_)
 refine Q (zaI (z0:=[.int .u8 0,.int .u32 0,str []]) V zbi za1 Z Z Kr (.c (v:=zcp _ _ _) Z (h:=.nil)) fun w b8 V=>?_)
 refine Q (zaO (news:=(zcB _ _ _)) V zbi za1 Z Z .u1 Z Z Z (zab (n:=3) (V.objL Q0) _ Z) Z Z O fun w ao3 cp4 V=>?_)
 replace V:=V.drop .u1
 refine AL Z<|NSR<|ML Z<|Q (zaf za1 zbC (.c (v:=.int .u8 _) Z (h:=(.c (v:=.int .u32 _) Z (h:=(.c (v:=str _) Z (h:=.nil)))))) ?_)
 refine Q (zaI (z0:=[.int .u8 0,.int .u32 0,str []]) V zbi za1 Z Z Kr (.c (v:=zcp _ _ _) Z (h:=.nil)) fun w b12 V=>?_)
 refine Q (zaO (news:=(zcB _ _ _)) V zbi za1 Z Z .u1 Z Z Z (zab (n:=3) (V.objL Q0) _ Z) Z Z O fun w ao5 cp6 V=>?_)
 replace V:=V.drop .u1
 refine AL Z<|NSR<|ML Z<|Q (zaf za1 zbC (.c (v:=.int .u8 _) Z (h:=(.c (v:=.int .u32 _) Z (h:=(.c (v:=str _) Z (h:=.nil)))))) ?_)
 refine Q (zaI (z0:=[.int .u8 0,.int .u32 0,str []]) V zbi za1 Z Z Kr (.c (v:=zcp _ _ _) Z (h:=.nil)) fun w b16 V=>?_)
 refine Q (zaO (news:=(zcB _ _ _)) V zbi za1 Z Z .u1 Z Z Z (zab (n:=3) (V.objL Q0) _ Z) Z Z O fun w ao7 cp8 V=>?_)
 replace V:=V.drop .u1
 refine AL Z<|G<|zal [(1,.slice _ _ _)] ⟨Z,trivial⟩ fun f=>SR<|ML Z<|Q (zaf za1 zbC (.c (v:=.int .u8 _) Z (h:=(.c (v:=.int .u32 _) Z (h:=(.c (v:=str _) Z (h:=.nil)))))) ?_)
 refine Q (zaI (z0:=[.int .u8 0,.int .u32 0,str []]) V zbi za1 Z Z Kr (.c (v:=zcp _ _ _) Z (h:=.nil)) fun w b20 V=>?_)
 refine Q (zaO (news:=(zcB _ _ _)) V zbi za1 Z Z .u1 Z Z Z (zab (n:=3) (V.objL Q0) _ Z) Z Z O fun w ao9 cp10 V=>?_)
 replace V:=V.drop .u1
 refine AL Z<|NSR<|ML Z<|Q (zaf za1 zbC (.c (v:=.int .u8 _) Z (h:=(.c (v:=.int .u32 _) Z (h:=(.c (v:=str _) Z (h:=.nil)))))) ?_)
 refine Q (zaI (z0:=[.int .u8 0,.int .u32 0,str []]) V zbi za1 Z Z Kr (.c (v:=zcp _ _ _) Z (h:=.nil)) fun w b24 V=>?_)
 refine Q (zaO (news:=(zcB _ _ _)) V zbi za1 Z Z .u1 Z Z Z (zab (n:=3) (V.objL Q0) _ Z) Z Z O fun w ao11 cp12 V=>?_)
 replace V:=V.drop .u1
 refine AL Z<|NSR<|ML Z<|Q (zaf za1 zbC (.c (v:=.int .u8 _) Z (h:=(.c (v:=.int .u32 _) Z (h:=(.c (v:=str _) Z (h:=.nil)))))) ?_)
 refine Q (zaI (z0:=[.int .u8 0,.int .u32 0,str []]) V zbi za1 Z Z Kr (.c (v:=zcp _ _ _) Z (h:=.nil)) fun w b28 V=>?_)
 refine Q (zaO (news:=(zcB _ _ _)) V zbi za1 Z Z .u1 Z Z Z (zab (n:=3) (V.objL Q0) _ Z) Z Z O fun w ao13 cp14 V=>?_)
 replace V:=V.drop .u1
 refine AL Z<|NSR<|ML Z<|Q (zaf za1 zbC (.c (v:=.int .u8 _) Z (h:=(.c (v:=.int .u32 _) Z (h:=(.c (v:=str _) Z (h:=.nil)))))) ?_)
 refine Q (zaI (z0:=[.int .u8 0,.int .u32 0,str []]) V zbi za1 Z Z Kr (.c (v:=zcp _ _ _) Z (h:=.nil)) fun w b32 V=>?_)
 refine Q (zaO (news:=(zcB _ _ _)) V zbi za1 Z Z .u1 Z Z Z (zab (n:=3) (V.objL Q0) _ Z) Z Z O fun w ao15 cp16 V=>?_)
 replace V:=V.drop .u1
 refine AL Z<|G<|zal [(1,.slice _ _ _)] ⟨Z,trivial⟩ fun f=>SR<|ML Z<|Q (zaf za1 zbC (.c (v:=.int .u8 _) Z (h:=(.c (v:=.int .u32 _) Z (h:=(.c (v:=str _) Z (h:=.nil)))))) ?_)
 refine Q (zaI (z0:=[.int .u8 0,.int .u32 0,str []]) V zbi za1 Z Z Kr (.c (v:=zcp _ _ _) Z (h:=.nil)) fun w b36 V=>?_)
 refine Q (zaO (news:=(zcB _ _ _)) V zbi za1 Z Z .u1 Z Z Z (zab (n:=3) (V.objL Q0) _ Z) Z Z O fun w ao17 cp18 V=>?_)
 replace V:=V.drop .u1
 refine AL Z<|NSR<|ML Z<|Q (zaf za1 zbC (.c (v:=.int .u8 _) Z (h:=(.c (v:=.int .u32 _) Z (h:=(.c (v:=str _) Z (h:=.nil)))))) ?_)
 refine Q (zaI (z0:=[.int .u8 0,.int .u32 0,str []]) V zbi za1 Z Z Kr (.c (v:=zcp _ _ _) Z (h:=.nil)) fun w b40 V=>?_)
 refine Q (zaO (news:=(zcB _ _ _)) V zbi za1 Z Z .u1 Z Z Z (zab (n:=3) (V.objL Q0) _ Z) Z Z O fun w ao19 cp20 V=>?_)
 replace V:=V.drop .u1
 refine AL Z<|NSR<|ML Z<|Q (zaf za1 zbC (.c (v:=.int .u8 _) Z (h:=(.c (v:=.int .u32 _) Z (h:=(.c (v:=str _) Z (h:=.nil)))))) ?_)
 refine Q (zaI (z0:=[.int .u8 0,.int .u32 0,str []]) V zbi za1 Z Z Kr (.c (v:=zcp _ _ _) Z (h:=.nil)) fun w b44 V=>?_)
 refine Q (zaO (news:=(zcB _ _ _)) V zbi za1 Z Z .u1 Z Z Z (zab (n:=3) (V.objL Q0) _ Z) Z Z O fun w ao21 cp22 V=>?_)
 replace V:=V.drop .u1
 refine AL Z<|NSR<|ML Z<|Q (zaf za1 zbC (.c (v:=.int .u8 _) Z (h:=(.c (v:=.int .u32 _) Z (h:=(.c (v:=str _) Z (h:=.nil)))))) ?_)
 refine Q (zaI (z0:=[.int .u8 0,.int .u32 0,str []]) V zbi za1 Z Z Kr (.c (v:=zcp _ _ _) Z (h:=.nil)) fun w b48 V=>?_)
 refine Q (zaO (news:=(zcB _ _ _)) V zbi za1 Z Z .u1 Z Z Z (zab (n:=3) (V.objL Q0) _ Z) Z Z O fun w ao23 cp24 V=>?_)
 replace V:=V.drop .u1
 refine AL Z<|G<|zal [(1,.slice _ _ _)] ⟨Z,trivial⟩ fun f=>SR<|ML Z<|Q (zaf za1 zbC (.c (v:=.int .u8 _) Z (h:=(.c (v:=.int .u32 _) Z (h:=(.c (v:=str _) Z (h:=.nil)))))) ?_)
 refine Q (zaI (z0:=[.int .u8 0,.int .u32 0,str []]) V zbi za1 Z Z Kr (.c (v:=zcp _ _ _) Z (h:=.nil)) fun w b52 V=>?_)
 refine Q (zaO (news:=(zcB _ _ _)) V zbi za1 Z Z .u1 Z Z Z (zab (n:=3) (V.objL Q0) _ Z) Z Z O fun w ao25 cp26 V=>?_)
 replace V:=V.drop .u1
 refine AL Z<|NSR<|ML Z<|Q (zaf za1 zbC (.c (v:=.int .u8 _) Z (h:=(.c (v:=.int .u32 _) Z (h:=(.c (v:=str _) Z (h:=.nil)))))) ?_)
 refine Q (zaI (z0:=[.int .u8 0,.int .u32 0,str []]) V zbi za1 Z Z Kr (.c (v:=zcp _ _ _) Z (h:=.nil)) fun w b56 V=>?_)
 refine Q (zaO (news:=(zcB _ _ _)) V zbi za1 Z Z .u1 Z Z Z (zab (n:=3) (V.objL Q0) _ Z) Z Z O fun w ao27 cp28 V=>?_)
 replace V:=V.drop .u1
 refine AL Z<|NSR<|ML Z<|Q (zaf za1 zbC (.c (v:=.int .u8 _) Z (h:=(.c (v:=.int .u32 _) Z (h:=(.c (v:=str _) Z (h:=.nil)))))) ?_)
 refine Q (zaI (z0:=[.int .u8 0,.int .u32 0,str []]) V zbi za1 Z Z Kr (.c (v:=zcp _ _ _) Z (h:=.nil)) fun w b60 V=>?_)
 refine Q (zaO (news:=(zcB _ _ _)) V zbi za1 Z Z .u1 Z Z Z (zab (n:=3) (V.objL Q0) _ Z) Z Z O fun w ao29 cp30 V=>?_)
 replace V:=V.drop .u1
 refine AL Z<|NSR<|ML Z<|Q (zaf za1 zbC (.c (v:=.int .u8 _) Z (h:=(.c (v:=.int .u32 _) Z (h:=(.c (v:=str _) Z (h:=.nil)))))) ?_)
 refine Q (zaI (z0:=[.int .u8 0,.int .u32 0,str []]) V zbi za1 Z Z Kr (.c (v:=zcp _ _ _) Z (h:=.nil)) fun w b64 V=>?_)
 refine Q (zaO (news:=(zcB _ _ _)) V zbi za1 Z Z .u1 Z Z Z (zab (n:=3) (V.objL Q0) _ Z) Z Z O fun w ao31 cp32 V=>?_)
 replace V:=V.drop .u1
 refine AL Z<|G<|zal [(1,.slice _ _ _)] ⟨Z,trivial⟩ fun f=>SR<|ML Z<|Q (zaf za1 zbC (.c (v:=.int .u8 _) Z (h:=(.c (v:=.int .u32 _) Z (h:=(.c (v:=str _) Z (h:=.nil)))))) ?_)
 refine Q (zaI (z0:=[.int .u8 0,.int .u32 0,str []]) V zbi za1 Z Z Kr (.c (v:=zcp _ _ _) Z (h:=.nil)) fun w b68 V=>?_)
 refine Q (zaO (news:=(zcB _ _ _)) V zbi za1 Z Z .u1 Z Z Z (zab (n:=3) (V.objL Q0) _ Z) Z Z O fun w ao33 cp34 V=>?_)
 replace V:=V.drop .u1
 refine AL Z<|NSR<|ML Z<|Q (zaf za1 zbC (.c (v:=.int .u8 _) Z (h:=(.c (v:=.int .u32 _) Z (h:=(.c (v:=str _) Z (h:=.nil)))))) ?_)
 refine Q (zaI (z0:=[.int .u8 0,.int .u32 0,str []]) V zbi za1 Z Z Kr (.c (v:=zcp _ _ _) Z (h:=.nil)) fun w b72 V=>?_)
 refine Q (zaO (news:=(zcB _ _ _)) V zbi za1 Z Z .u1 Z Z Z (zab (n:=3) (V.objL Q0) _ Z) Z Z O fun w ao35 cp36 V=>?_)
 replace V:=V.drop .u1
 refine AL Z<|NSR<|ML Z<|Q (zaf za1 zbC (.c (v:=.int .u8 _) Z (h:=(.c (v:=.int .u32 _) Z (h:=(.c (v:=str _) Z (h:=.nil)))))) ?_)
 refine Q (zaI (z0:=[.int .u8 0,.int .u32 0,str []]) V zbi za1 Z Z Kr (.c (v:=zcp _ _ _) Z (h:=.nil)) fun w b76 V=>?_)
 refine Q (zaO (news:=(zcB _ _ _)) V zbi za1 Z Z .u1 Z Z Z (zab (n:=3) (V.objL Q0) _ Z) Z Z O fun w ao37 cp38 V=>?_)
 replace V:=V.drop .u1
 refine AL Z<|NSR<|ML Z<|Q (zaf za1 zbC (.c (v:=.int .u8 _) Z (h:=(.c (v:=.int .u32 _) Z (h:=(.c (v:=str _) Z (h:=.nil)))))) ?_)
 refine Q (zaI (z0:=[.int .u8 0,.int .u32 0,str []]) V zbi za1 Z Z Kr (.c (v:=zcp _ _ _) Z (h:=.nil)) fun w b80 V=>?_)
 refine Q (zaO (news:=(zcB _ _ _)) V zbi za1 Z Z .u1 Z Z Z (zab (n:=3) (V.objL Q0) _ Z) Z Z O fun w ao39 cp40 V=>?_)
 replace V:=V.drop .u1
 refine AL Z<|G<|zal [(1,.slice _ _ _)] ⟨Z,trivial⟩ fun f=>SR<|ML Z<|Q (zaf za1 zbC (.c (v:=.int .u8 _) Z (h:=(.c (v:=.int .u32 _) Z (h:=(.c (v:=str _) Z (h:=.nil)))))) ?_)
 refine Q (zaI (z0:=[.int .u8 0,.int .u32 0,str []]) V zbi za1 Z Z Kr (.c (v:=zcp _ _ _) Z (h:=.nil)) fun w b84 V=>?_)
 refine Q (zaO (news:=(zcB _ _ _)) V zbi za1 Z Z .u1 Z Z Z (zab (n:=3) (V.objL Q0) _ Z) Z Z O fun w ao41 cp42 V=>?_)
 replace V:=V.drop .u1
 refine AL Z<|NSR<|ML Z<|Q (zaf za1 zbC (.c (v:=.int .u8 _) Z (h:=(.c (v:=.int .u32 _) Z (h:=(.c (v:=str _) Z (h:=.nil)))))) ?_)
 refine Q (zaI (z0:=[.int .u8 0,.int .u32 0,str []]) V zbi za1 Z Z Kr (.c (v:=zcp _ _ _) Z (h:=.nil)) fun w b88 V=>?_)
 refine Q (zaO (news:=(zcB _ _ _)) V zbi za1 Z Z .u1 Z Z Z (zab (n:=3) (V.objL Q0) _ Z) Z Z O fun w ao43 cp44 V=>?_)
 replace V:=V.drop .u1
 refine AL Z<|NSR<|ML Z<|Q (zaf za1 zbC (.c (v:=.int .u8 _) Z (h:=(.c (v:=.int .u32 _) Z (h:=(.c (v:=str _) Z (h:=.nil)))))) ?_)
 refine Q (zaI (z0:=[.int .u8 0,.int .u32 0,str []]) V zbi za1 Z Z Kr (.c (v:=zcp _ _ _) Z (h:=.nil)) fun w b92 V=>?_)
 refine Q (zaO (news:=(zcB _ _ _)) V zbi za1 Z Z .u1 Z Z Z (zab (n:=3) (V.objL Q0) _ Z) Z Z O fun w ao45 cp46 V=>?_)
 replace V:=V.drop .u1
 refine AL Z<|NSR<|ML Z<|Q (zaf za1 zbC (.c (v:=.int .u8 _) Z (h:=(.c (v:=.int .u32 _) Z (h:=(.c (v:=str _) Z (h:=.nil)))))) ?_)
 refine Q (zaI (z0:=[.int .u8 0,.int .u32 0,str []]) V zbi za1 Z Z Kr (.c (v:=zcp _ _ _) Z (h:=.nil)) fun w b96 V=>?_)
 refine Q (zaO (news:=(zcB _ _ _)) V zbi za1 Z Z .u1 Z Z Z (zab (n:=3) (V.objL Q0) _ Z) Z Z O fun w ao47 cp48 V=>?_)
 replace V:=V.drop .u1
 refine AL Z<|G<|zal [(1,.slice _ _ _)] ⟨Z,trivial⟩ fun f=>SR<|ML Z<|Q (zaf za1 zbC (.c (v:=.int .u8 _) Z (h:=(.c (v:=.int .u32 _) Z (h:=(.c (v:=str _) Z (h:=.nil)))))) ?_)
 refine Q (zaI (z0:=[.int .u8 0,.int .u32 0,str []]) V zbi za1 Z Z Kr (.c (v:=zcp _ _ _) Z (h:=.nil)) fun w b100 V=>?_)
 refine Q (zaO (news:=(zcB _ _ _)) V zbi za1 Z Z .u1 Z Z Z (zab (n:=3) (V.objL Q0) _ Z) Z Z O fun w ao49 cp50 V=>?_)
 replace V:=V.drop .u1
 refine AL Z<|NSR<|ML Z<|Q (zaf za1 zbC (.c (v:=.int .u8 _) Z (h:=(.c (v:=.int .u32 _) Z (h:=(.c (v:=str _) Z (h:=.nil)))))) ?_)
 refine Q (zaI (z0:=[.int .u8 0,.int .u32 0,str []]) V zbi za1 Z Z Kr (.c (v:=zcp _ _ _) Z (h:=.nil)) fun w b104 V=>?_)
 refine Q (zaO (news:=(zcB _ _ _)) V zbi za1 Z Z .u1 Z Z Z (zab (n:=3) (V.objL Q0) _ Z) Z Z O fun w ao51 cp52 V=>?_)
 replace V:=V.drop .u1
 refine AL Z<|NSR<|ML Z<|Q (zaf za1 zbC (.c (v:=.int .u8 _) Z (h:=(.c (v:=.int .u32 _) Z (h:=(.c (v:=str _) Z (h:=.nil)))))) ?_)
 refine Q (zaI (z0:=[.int .u8 0,.int .u32 0,str []]) V zbi za1 Z Z Kr (.c (v:=zcp _ _ _) Z (h:=.nil)) fun w b108 V=>?_)
 refine Q (zaO (news:=(zcB _ _ _)) V zbi za1 Z Z .u1 Z Z Z (zab (n:=3) (V.objL Q0) _ Z) Z Z O fun w ao53 cp54 V=>?_)
 replace V:=V.drop .u1
 refine AL Z<|NSR<|ML Z<|Q (zaf za1 zbC (.c (v:=.int .u8 _) Z (h:=(.c (v:=.int .u32 _) Z (h:=(.c (v:=str _) Z (h:=.nil)))))) ?_)
 refine Q (zaI (z0:=[.int .u8 0,.int .u32 0,str []]) V zbi za1 Z Z Kr (.c (v:=zcp _ _ _) Z (h:=.nil)) fun w b112 V=>?_)
 refine Q (zaO (news:=(zcB _ _ _)) V zbi za1 Z Z .u1 Z Z Z (zab (n:=3) (V.objL Q0) _ Z) Z Z O fun w ao55 cp56 V=>?_)
 replace V:=V.drop .u1
 refine AL Z<|G<|zal [(1,.slice _ _ _)] ⟨Z,trivial⟩ fun f=>SR<|ML Z<|Q (zaf za1 zbC (.c (v:=.int .u8 _) Z (h:=(.c (v:=.int .u32 _) Z (h:=(.c (v:=str _) Z (h:=.nil)))))) ?_)
 refine Q (zaI (z0:=[.int .u8 0,.int .u32 0,str []]) V zbi za1 Z Z Kr (.c (v:=zcp _ _ _) Z (h:=.nil)) fun w b116 V=>?_)
 refine Q (zaO (news:=(zcB _ _ _)) V zbi za1 Z Z .u1 Z Z Z (zab (n:=3) (V.objL Q0) _ Z) Z Z O fun w ao57 cp58 V=>?_)
 replace V:=V.drop .u1
 refine AL Z<|NSR<|ML Z<|Q (zaf za1 zbC (.c (v:=.int .u8 _) Z (h:=(.c (v:=.int .u32 _) Z (h:=(.c (v:=str _) Z (h:=.nil)))))) ?_)
 refine Q (zaI (z0:=[.int .u8 0,.int .u32 0,str []]) V zbi za1 Z Z Kr (.c (v:=zcp _ _ _) Z (h:=.nil)) fun w b120 V=>?_)
 refine Q (zaO (news:=(zcB _ _ _)) V zbi za1 Z Z .u1 Z Z Z (zab (n:=3) (V.objL Q0) _ Z) Z Z O fun w ao59 cp60 V=>?_)
 replace V:=V.drop .u1
 refine AL Z<|NSR<|ML Z<|AL Z<|G<|zag func148 Z (TP (v:=.slice _ _ _) Z) ?_
 exact ⟨_,_,Z,V⟩
theorem zn4 (c n:Int) (w:World):Ret prog 92 #[.int .u8 c,.int .u32 n] w (fun v w'=>v = ztw (namesL.find? (enN c n)) ∧ St w NoM [] [] w'):=by
 refine zax (args:=[.int .u8 c,.int .u32 n]) func92 Z Z Z ?_
 have V:=St.init w
 have hnl:namesL.length = 30:=by decide +kernel
 refine SR<|AS Z<|AB Z<|NSR<|Q (zk3  ent148 Z  ((zlU _).mono fun v w hp=>?_))
 obtain ⟨aoN,cpN,rfl,hp⟩:=hp
 replace V:=V.call0 hp
 refine AL Z<|G<|SQ<|SR<|AI Z<|G<|zau<|zba<|za7 [(0,.int .u8 _),(1,.int .u32 _),(6,.slice _ _ _)] E3 (fun (i:Nat)=>[(7,.int .i64 (i:Int))]) (fun (i:Nat)=>[]) (fun (i:Nat)=>i ≤ namesL.length ∧ (namesL.drop i).find? (enN c n) = namesL.find? (enN c n)) (fun (i:Nat)=>namesL.length - i) (0) V ⟨Nat.zero_le _,Z⟩ ⟨Z,trivial⟩ ?_
 intro i f w V hJ ih1
 refine SQ<|SR<|MI Z<|ML Z<|Q<|zaQ (rest:=[]) zbi Z<|Q<|zaY Z Z<|G<|zaa Z (fun g2=>?_) (fun g2=>?_)
 ·refine zaj <| SQ <| zau <| SR <| ML Z <| MI Z ?_
  obtain ⟨bs3,rfl⟩:=Res.sl_some (V.hL _ Q0) O
  refine Q<|zbb zbi za1 Z Z O O<|Q<|zac zrO Z<|Q<|zae (v:=.int .u8 _) ty5 Z Z (Res.sl_cell (V.hL _ Q0) (zct (g:=zpz) (d:=zca) zhC Z O))<|MC Z<|Q<|zai Z Z<|MB Z<|zaz (d:=22) Z (fun g4=>?_) (fun g4=>?_)
  ·refine TK (t := 22) Z (Vb (Dt g4)) <| zad (v := .slice _ _ _) Z <| TK (t := 22) Z (Vb (Dt g4)) <| zad (v := .int .i64 _) Z <| TK (t := 22) Z (Vb (Dt g4)) <| zbb zbi za1 Z Z O O <| TK (t := 22) Z (Vb (Dt g4)) <| zac zrN Z <| TK (t := 22) Z (Vb (Dt g4)) <| zae (v := .int .u32 _) zbM Z Z (Res.sl_cell (V.hL _ Q0) (zct (g := zpz) (d := zca) zhC Z O)) <| TK (t := 22) Z (Vb (Dt g4)) <| zad (v := .int .u32 _) Z <| TK (t := 22) Z (Vb (Dt g4)) <| zai Z Z <| Q <| zaE (u := .bool _) (Vb (Dt g4)) Z <| G <| zal [(0, .int .u8 _), (1, .int .u32 _), (6, .slice _ _ _), (7, .int .i64 _), (30, .bool _)] E5 fun f => zaa Z (fun g5 => ?_) (fun g5 => ?_)
   ·refine SR <| ML Z <| MI Z <| Q <| zbb zbi za1 Z Z O O <| Q <| zac zrM Z <| Q <| zae (v := str _) ty9 Z Z (Res.sl_cell (V.hL _ Q0) (zct (g := zpz) (d := zca) zhC Z O)) <| AS Z <| AB Z <| G <| zah func92 Z (TP (v := str _) Z) (TP (v := .bool _) Z) ?_
    rw [zhc (d:=zca) hJ.2 (by omega) (Dt ⟨g4,g5⟩)]
    exact ⟨Z,V.pure⟩
   refine zaj<|zan<|RG<|MI Z<|Q<|zaD Z Z Z zbS<|AI Z<|G<|zaG ?_
   exact ih1 (i + 1) _ w O V (⟨by omega,zez (d:=zca) hJ.2 O (Df (fun h=>g5 h.2))⟩) E3 ⟨(Vi O),trivial⟩
  refine OM (t:=22) Z (Vb (Df g4)) Z<|OM (t:=22) Z (Vb (Df g4)) Z<|OM (t:=22) Z (Vb (Df g4)) Z<|OM (t:=22) Z (Vb (Df g4)) Z<|OM (t:=22) Z (Vb (Df g4)) Z<|OM (t:=22) Z (Vb (Df g4)) Z<|OM (t:=22) Z (Vb (Df g4)) Z<|Q<|zay (u:=.bool _) (Vb (Df g4)) Z<|G<|zas (Vb (Z:false = _))<|zaj<|zan<|RG<|MI Z<|Q (zaD Z Z Z zbS ?_)
  refine AI Z<|G<|zaG ?_
  exact ih1 (i + 1) _ w O V (⟨by omega,zez (d:=zca) hJ.2 O (Df (fun h=>g4 h.1))⟩) E3 ⟨(Vi O),trivial⟩
 refine zaU (id:=0) Z<|SR<|AS Z<|AB Z<|G<|zah func92 Z (TP (v:=str _) Z) (TP (v:=.bool _) Z) ?_
 rw [zhd hJ.2 (by omega)]
 exact ⟨Z,V.pure⟩
theorem ziN (c:Int) (w:World):Ret prog 199 #[.int .u8 c] w (fun v w'=>∃ b,v = .func (.func 221) #[] #[.pointer (some ⟨b,0,none⟩)] ∧ St w NoM [Res.row b 5 [.int .u8 c]] [] w'):=by
 refine zax (args:=[.int .u8 c]) func199 Z Z Z ?_
 have V:=St.init w
 refine SR<|Q<|zbn (v:=.int .u8 _) V Z Z fun w b1 V=>Q<|zao (v:=_) Z<|NSR<|Q<|zbJ<|Q<|zao (v:=.func _ _ _) Z<|G<|zag func199 Z (TP (v:=.func _ _ _) Z) ?_
 exact ⟨_,Z,V⟩
theorem zl1 {c:Int} {s:zcI} (hs:zig zdI c = s) (w:World):Ret prog 181 #[.int .u8 c] w fun v w'=>v = str s ∧ St w NoM [] [] w':=by
 subst hs; exact ziM c w
theorem zgQ (c:Int) (h0:0 ≤ c) (h1:c ≤ 255) (bc:Nat) (w:World) (hb:(Res.row bc 5 [.int .u8 c]).holds w):zqQ prog 221 [.pointer (some ⟨bc,0,none⟩)] (za9 c).length (fun j=>[.int .u32 ((za9 c).getD j zca).n,str ((za9 c).getD j zca).name]) (· = bc) w:=by
 intro yv R S hR hFD hy
 obtain ⟨s,hs⟩:∃ s,zig zdI c = s:=⟨_,rfl⟩
 obtain ⟨hasc,hlen,hl⟩:=zpx h0 h1
 rw [hs] at hasc hlen hl
 have hout:(enF s).out.length = (za9 c).length:=by rw [hl]; simp
 have hlt:∀ i (hi:i < s.length),s[i] = 32 → (enF (s.take i)).num = true → (enF (s.take i)).out.length < (za9 c).length:=fun i hi h2 h3=>by
  have:=(zmU hl hi h2 h3).1; simpa using this
 have hyx:∀ i (hi:i < s.length),s[i] = 32 → (enF (s.take i)).num = true → ∀ w1,St w (R 0).foot [R (enF (s.take i)).out.length] [] w1 → CallV prog yv [.int .u32 (enF (s.take i)).n,str (enF (s.take i)).word] w1 fun v w2=>(v = .bool true ∧ St w1 (R (enF (s.take i)).out.length).foot [R ((enF (s.take i)).out.length + 1)] [] w2) ∨ (v = .bool false ∧ St w1 (R (enF (s.take i)).out.length).foot [S (enF (s.take i)).out.length] [] w2):=fun i hi h2 h3 w1 hw1=>by
  have t:=hy _ (hlt i hi h2 h3) w1 hw1
  have ht:=(zmU hl hi h2 h3).2
  have hk:=hlt i hi h2 h3
  rw [zrB (d:=zca) hk] at ht
  dsimp only at t
  injection ht with e1 e2
  rwa [e1,e2] at t
 refine zax (args:=[yv,.pointer (some ⟨bc,0,none⟩)]) func221 Z Z Z ?_
 have V:St w (R 0).foot [R 0] [Res.row bc 5 [.int .u8 c]] w:=St.enter1 hR (fun d hd=>by cases hd with | head=>exact hb | tail _ h=>cases h) (fun d hd=>by cases hd with | head=>exact fun b hb hb2=>hFD b hb hb2 | tail _ h=>cases h)
 refine SR<|AU Z<|AS Z<|NSR<|AS Z<|NSR<|AB Z<|G<|SQ<|RG ?_
 refine Q<|zae (v:=.int .u8 _) ty5 Z Z (V.cellD Q0 Z)<|Q<|zav (v1:=.int .u8 _) zsP Z Z<|Ret.det (zl1 hs _) V fun w V=>Q<|ze2 V ty9 Z fun w it11 V=>G<|zau<|zba<|za7 [(0,_),(11,.pointer (some ⟨_,0,none⟩))] E2 (fun (i:Nat)=>[(3,.int .u32 (enF (s.take i)).n),(5,str (enF (s.take i)).word),(6,.bool (enF (s.take i)).num)]) (fun (i:Nat)=>[Res.iter it11 s i,R (enF (s.take i)).out.length]) (fun (i:Nat)=>i ≤ s.length) (fun (i:Nat)=>s.length - i) (0) V (Nat.zero_le _) E3 ?_
 intro i f w V hJ ih1
 refine SQ<|RG ?_
 rcases Nat.lt_or_ge i s.length with g2 | g2
 ·have hc := hasc _ (List.getElem_mem g2)
  have hwl:=(zlM s hasc i O).1
  refine Q (zga V Z .u0 (List.getElem?_eq_getElem g2) (hc) fun w V=>?_)
  refine Q<|Ex (.bool _) Z Z<|G<|SQ<|zat (Vb (Z:true = _))<|zaj<|zau<|SR<|Q<|Ex (.int .i32 _) Z Z<|Q<|zao (v:=.int .i32 _) Z<|G<|SQ<|zau<|SQ<|RG ?_
  refine Q<|zad (v:=.int .i32 _) Z<|Q<|za8 Z Z<|AB Z<|G<|zaa Z (fun g3=>?_) (fun g3=>?_)
  ·refine SR <| MS rfl <| Q <| zad (v := .int .i32 _) rfl <| Q <| zh1 ty21 ty9 rfl (by omega) (by omega) <| Q <| za2 rfl rfl (by first | omega | (simp only [List.length_cons, List.length_nil, List.length_append]; omega) | (simp; omega)) <| AS rfl <| G <| zaU (id := 1) rfl <| zaG ?_
   have hstep:=zf2 g2
   have hsp:enF (s.take (i + 1)) = ⟨(enF (s.take i)).n,(enF (s.take i)).word ++ [s[i]],(enF (s.take i)).num,(enF (s.take i)).out⟩:=by rw [hstep]; unfold zek; rw [if_pos (fun he=>g3 (by rw [he]; rfl))]
   exact ih1 (i + 1) _ w (by omega) (by (try dsimp only); rw [hsp]; exact V) (by omega) E2 ⟨(congrArg (Value.int .u32) (by rw [hsp])),(congrArg str (by rw [hsp]; simp)),(Vb (by rw [hsp])),trivial⟩
  refine SR<|MB Z<|Q<|zaT Z<|AB Z<|G<|zaR Z (fun g4=>?_) (fun g4=>?_)
  ·refine RG <| MS Z <| Q <| zav (v1 := str _) ent222 Z Z <| Ret.det (zl0 _ (zlM s hasc i O).2 _) V fun w V => AU Z <| G <| zan <| SR <| MB Z <| Q <| zaT Z <| AB Z <| NR <| AS Z <| G ?_
   refine zan<|zaG ?_
   have hstep:=zf2 g2
   have hd32:s[i] = 32:=UInt8.toNat_inj.1 (by have:(32:UInt8).toNat = 32:=rfl; omega)
   have hnu:(enF (s.take i)).num = false:=by simpa using g4
   have hsp:enF (s.take (i + 1)) = ⟨ztv (enF (s.take i)).word,[],true,(enF (s.take i)).out⟩:=by rw [hstep]; unfold zek; rw [if_neg (by simp [hd32]),if_neg (by simp [hnu])]
   exact ih1 (i + 1) _ w (by omega) (by (try dsimp only); rw [hsp]; exact V) (by omega) E2 ⟨(congrArg (Value.int .u32) (by rw [hsp])),(congrArg str (by rw [hsp])),(Vb (by rw [hsp,hnu]; rfl)),trivial⟩
  refine SR<|MS Z<|AS Z<|NSR<|Q<|zad (v:=_) Z<|MU Z<|MS Z ?_
  replace V:=V.pick (.c .u1 (.k1 .nil))
  have hc32:s[i] = 32:=UInt8.toNat_inj.1 (by have:(32:UInt8).toNat = 32:=rfl; omega)
  have hnum:(enF (s.take i)).num = true:=by simpa using g4
  refine Q (zgA (v1:=.int .u32 _) (v2:=str _) Z Z Z ((hyx i O hc32 hnum _ V.one).mono fun v w hp=>?_))
  rcases hp with ⟨rfl,hp⟩ | ⟨rfl,hp⟩
  ·replace V := V.call1 hp
   refine Q<|zaT Z<|G<|zas (Vb (congrArg not (Z:true = _)))<|zaj<|zan<|SR<|MB Z<|Q<|zaT Z<|AB Z<|G<|zal [(0,_),(3,.int .u32 _),(6,.bool _),(11,.pointer (some ⟨_,0,none⟩))] E4 fun f=>RG<|AS Z<|G ?_
   refine zan<|zaG ?_
   have hstep:=zf2 g2
   have hd32:s[i] = 32:=UInt8.toNat_inj.1 (by have:(32:UInt8).toNat = 32:=rfl; omega)
   have hnu:(enF (s.take i)).num = true:=by simpa using g4
   have hsp:enF (s.take (i + 1)) = ⟨(enF (s.take i)).n,[],false,(enF (s.take i)).out ++ [((enF (s.take i)).n,(enF (s.take i)).word)]⟩:=by rw [hstep]; unfold zek; rw [if_neg (by simp [hd32]),if_pos hnu]
   replace V:=V.pick (.c .u1 (.k1 .nil))
   exact ih1 (i + 1) _ w (by omega) (by (try dsimp only); rw [hsp]; simp only [List.length_append,List.length_cons,List.length_nil]; exact V) (by omega) E2 ⟨(congrArg (Value.int .u32) (by rw [hsp])),(congrArg str (by rw [hsp])),(Vb (by rw [hsp,hnu]; rfl)),trivial⟩
  ·replace V := V.call1 hp
   refine Q<|zaT Z<|G<|zat (Vb (congrArg not (Z:false = _)))<|zi4 func221 Z  ?_
   replace V:=V.pick (.k2 .nil)
   exact .inr ⟨(enF (s.take i)).out.length,hlt i O hc32 hnum,V.one⟩
 obtain rfl:i = s.length:=by omega
 refine Q<|zgb V Z Q0 g2<|Q<|Ex (.bool _) Z Z<|G<|SQ<|zas (Vb (Z:false = _))<|zaU (id:=0) Z<|zg2 func221 Z  ?_
 replace V:=V.pick (.c .u1 (.k1 .nil))
 rw [List.take_length,hout] at V
 exact .inl V.one
end Go.SK
namespace Go.SK
open Go Go.Proofs Go.Proofs.Tryz
theorem zsO:zaJ prog 199:=⟨f199,_,func199,Kr,rfl⟩
theorem zsN:zaJ prog 221:=⟨f221,_,func221,Kr,rfl⟩
open Go.RowKit
theorem zqy (c n:Int) (h0:0 ≤ c) (h1:c ≤ 255) (w:World):Ret prog 152 #[.int .u8 c,.int .u32 n] w (fun v w'=>v = ztw (namesL.find? (enN c n)) ∧ St w NoM [] [] w'):=by
 refine zax (args:=[.int .u8 c,.int .u32 n]) func152 Z Z Z ?_
 have V:=St.init w
 refine SR<|Q<|zbn (v:=.int .u32 _) V Z Z fun w b3 V=>Q<|zaw V ty9 fun w b4 V=>Q<|zaw V ty4 fun w b5 V=>G<|SQ<|SR<|MC Z<|Q (zav (v1:=.int .u8 _) zsO Z Z ((ziN _ _).mono fun v w hp=>?_))
 obtain ⟨bc,rfl,hp⟩:=hp
 replace V:=V.call0 hp
 refine G<|zau ?_
 replace V:=V.addProp (p:=((za9 c).drop 0).find? (fun x=>decide (x.n = n)) = (za9 c).find? (fun x=>decide (x.n = n))) (rfl)
 replace V:=V.pick (.k1 (.c .u2 (.c .u1 (.k2 .nil))))
 refine zd0 (L1:=[_,_,_]) (L2:=[_,_]) (item:=(fun j=>[.int .u32 ((za9 c).getD j zca).n,str ((za9 c).getD j zca).name])) (FD:=(· = bc)) (fun i=>[Res.prop (((za9 c).drop i).find? (fun x=>decide (x.n = n)) = (za9 c).find? (fun x=>decide (x.n = n))),Res.row b4 9 [str []],Res.row b5 4 [.bool false]]) (fun i=>[Res.prop ((za9 c).find? (fun x=>decide (x.n = n)) = some ((za9 c).getD i zca)),Res.row b4 9 [str ((za9 c).getD i zca).name],Res.row b5 4 [.bool true]]) (fun _=>.ret) V rfl rfl zsN (fun b hb=>.inl (by subst hb; exact ⟨_,Q0,rfl⟩)) (fun w1 hw1=>zgQ c h0 h1 bc w1 (hw1.hL _ Q3)) (fun _ _=>rfl) ?_ ?_ ?_
 ·intro i hi w bl br lp hlp V hk
  have hprop:((za9 c).drop i).find? (fun x=>decide (x.n = n)) = (za9 c).find? (fun x=>decide (x.n = n)):=V.hL _ Q2
  refine SR<|AU Z<|NR<|AS Z<|G<|zeO hlp V .u0 fun w V=>zau<|SR<|MU Z<|Q<|zae (v:=.int .u32 _) zbM Z Z (V.cellD Q1 Z)<|Q<|zai Z Z<|G ?_
  refine zaa Z (fun g1=>?_) (fun g1=>?_)
  ·refine SR <| MS Z <| Q (SO (v := str _) V ty9 Z Z .u3 fun w V => ?_)
   refine Q (SO (v:=.bool _) V ty4 Z Z .u4 fun w V=>?_)
   refine G<|zdZ V .u0 fun w V=>?_
   replace V:=V.addProp (p:=(za9 c).find? (fun x=>decide (x.n = n)) = some ((za9 c).getD i zca)) (zhc (d:=zca) hprop hi (Dt g1))
   replace V:=V.pick (.c .u1 (.c .u1 (.k1 (.c .u1 (.c .u1 .nil)))))
   exact .inr ⟨Z,_,V⟩
  refine zaj<|zan<|zdn hlp V .u0 fun w V=>?_
  replace V:=V.addProp (p:=((za9 c).drop (i + 1)).find? (fun x=>decide (x.n = n)) = (za9 c).find? (fun x=>decide (x.n = n))) (zez (d:=zca) hprop hi (Df g1))
  replace V:=V.pick (.c .u1 (.c .u1 (.k1 (.c .u1 (.c .u1 .nil)))))
  exact .inl ⟨Z,_,V⟩
 ·intro w bl br lp V
  have hall:((za9 c).drop (za9 c).length).find? (fun x=>decide (x.n = n)) = (za9 c).find? (fun x=>decide (x.n = n)):=V.hL _ Q2
  refine zan<|SR<|Q (SO (v:=str _) V ty9 Z Z .u3 fun w V=>?_)
  refine Q (SO (v:=.bool _) V ty4 Z Z .u4 fun w V=>?_)
  refine G ?_
  replace V:=V.pick (.c .u1 (.k6 .nil))
  refine zbz [br] func152 V fun w V=>⟨_,zqS Z (zcM (v:=str _) Z ty9 Z (V.cellL Q2 Z)) (zcM (v:=.bool _) Z ty4 Z (V.cellL Q3 Z)),?_⟩
  rw [← ziH,zhd hall (Nat.le_refl _)]
  exact ⟨Z,V.pure⟩
 ·intro i hi w bl br lp V
  have hs:(za9 c).find? (fun x=>decide (x.n = n)) = some ((za9 c).getD i zca):=V.hL _ Q2
  replace V:=V.pick (.c .u1 (.k6 .nil))
  refine zbz [br] func152 V fun w V=>⟨_,zqS Z (zcM (v:=str _) Z ty9 Z (V.cellL Q2 Z)) (zcM (v:=.bool _) Z ty4 Z (V.cellL Q3 Z)),?_⟩
  rw [← ziH,hs]
  exact ⟨Z,V.pure⟩
theorem zij (c:Int) (q:zcI) (h0:0 ≤ c) (h1:c ≤ 255) (w:World):Ret prog 209 #[.int .u8 c,str q] w (fun v w'=>v = numV (namesL.find? (enS c q)) ∧ St w NoM [] [] w'):=by
 refine zax (args:=[.int .u8 c,str q]) func209 Z Z Z ?_
 have V:=St.init w
 refine SR<|Q<|zbn (v:=str _) V Z Z fun w b3 V=>Q<|zaw V zbM fun w b4 V=>Q<|zaw V ty4 fun w b5 V=>G<|SQ<|SR<|MC Z<|Q (zav (v1:=.int .u8 _) zsO Z Z ((ziN _ _).mono fun v w hp=>?_))
 obtain ⟨bc,rfl,hp⟩:=hp
 replace V:=V.call0 hp
 refine G<|zau ?_
 replace V:=V.addProp (p:=((za9 c).drop 0).find? (fun x=>decide (x.name = q)) = (za9 c).find? (fun x=>decide (x.name = q))) (rfl)
 replace V:=V.pick (.k1 (.c .u2 (.c .u1 (.k2 .nil))))
 refine zd0 (L1:=[_,_,_]) (L2:=[_,_]) (item:=(fun j=>[.int .u32 ((za9 c).getD j zca).n,str ((za9 c).getD j zca).name])) (FD:=(· = bc)) (fun i=>[Res.prop (((za9 c).drop i).find? (fun x=>decide (x.name = q)) = (za9 c).find? (fun x=>decide (x.name = q))),Res.row b4 22 [.int .u32 0],Res.row b5 4 [.bool false]]) (fun i=>[Res.prop ((za9 c).find? (fun x=>decide (x.name = q)) = some ((za9 c).getD i zca)),Res.row b4 22 [.int .u32 ((za9 c).getD i zca).n],Res.row b5 4 [.bool true]]) (fun _=>.ret) V rfl rfl zsN (fun b hb=>.inl (by subst hb; exact ⟨_,Q0,rfl⟩)) (fun w1 hw1=>zgQ c h0 h1 bc w1 (hw1.hL _ Q3)) (fun _ _=>rfl) ?_ ?_ ?_
 ·intro i hi w bl br lp hlp V hk
  have hprop:((za9 c).drop i).find? (fun x=>decide (x.name = q)) = (za9 c).find? (fun x=>decide (x.name = q)):=V.hL _ Q2
  refine SR<|AU Z<|NR<|AS Z<|G<|zeO hlp V .u0 fun w V=>zau<|SR<|MS Z<|Q<|zae (v:=str _) ty9 Z Z (V.cellD Q1 Z)<|Q<|zdx Z Z<|G ?_
  refine zaa Z (fun g1=>?_) (fun g1=>?_)
  ·refine SR <| MU Z <| Q (SO (v := .int .u32 _) V zbM Z Z .u3 fun w V => ?_)
   refine Q (SO (v:=.bool _) V ty4 Z Z .u4 fun w V=>?_)
   refine G<|zdZ V .u0 fun w V=>?_
   replace V:=V.addProp (p:=(za9 c).find? (fun x=>decide (x.name = q)) = some ((za9 c).getD i zca)) (zhc (d:=zca) hprop hi (Dt g1))
   replace V:=V.pick (.c .u1 (.c .u1 (.k1 (.c .u1 (.c .u1 .nil)))))
   exact .inr ⟨Z,_,V⟩
  refine zaj<|zan<|zdn hlp V .u0 fun w V=>?_
  replace V:=V.addProp (p:=((za9 c).drop (i + 1)).find? (fun x=>decide (x.name = q)) = (za9 c).find? (fun x=>decide (x.name = q))) (zez (d:=zca) hprop hi (Df g1))
  replace V:=V.pick (.c .u1 (.c .u1 (.k1 (.c .u1 (.c .u1 .nil)))))
  exact .inl ⟨Z,_,V⟩
 ·intro w bl br lp V
  have hall:((za9 c).drop (za9 c).length).find? (fun x=>decide (x.name = q)) = (za9 c).find? (fun x=>decide (x.name = q)):=V.hL _ Q2
  refine zan<|SR<|Q (SO (v:=.int .u32 _) V zbM Z Z .u3 fun w V=>?_)
  refine Q (SO (v:=.bool _) V ty4 Z Z .u4 fun w V=>?_)
  refine G ?_
  replace V:=V.pick (.c .u1 (.k6 .nil))
  refine zbz [br] func209 V fun w V=>⟨_,zqS Z (zcM (v:=.int .u32 _) Z zbM Z (V.cellL Q2 Z)) (zcM (v:=.bool _) Z ty4 Z (V.cellL Q3 Z)),?_⟩
  rw [← zhR,zhd hall (Nat.le_refl _)]
  exact ⟨Z,V.pure⟩
 ·intro i hi w bl br lp V
  have hs:(za9 c).find? (fun x=>decide (x.name = q)) = some ((za9 c).getD i zca):=V.hL _ Q2
  replace V:=V.pick (.c .u1 (.k6 .nil))
  refine zbz [br] func209 V fun w V=>⟨_,zqS Z (zcM (v:=.int .u32 _) Z zbM Z (V.cellL Q2 Z)) (zcM (v:=.bool _) Z ty4 Z (V.cellL Q3 Z)),?_⟩
  rw [← zhR,hs]
  exact ⟨Z,V.pure⟩
end Go.SK
namespace Go.SK
open Go Go.Proofs Go.Proofs.Tryz
theorem zrV:zaJ prog 75:=⟨f75,_,func75,Kr,rfl⟩
open Go.RowKit
theorem zsq  (w:World):Ret prog 171 #[] w (fun v w'=>v = .func (.func 206) #[] #[] ∧ St w NoM [] [] w'):=by
 refine zax (args:=[]) func171 Z Z Z ?_
 have V:=St.init w
 refine SR<|Q<|zao (v:=_) Z<|NSR<|Q<|zao (v:=.func _ _ _) Z<|G<|zag func171 Z (TP (v:=.func _ _ _) Z) ?_
 exact ⟨Z,V.pure⟩
theorem zos (w:World):zqQ prog 206 [] refT.length (fun j=>[.agg (zlJ (refT.getD j zeroF)).toArray]) (fun _=>False) w:=by
 intro yv R S hR hFD hy
 have hyx:∀ n:Nat,n < 256 → (zbd (n:Int)).isSome = true → ∀ w1,St w (R 0).foot [R (zii n).length] [] w1 → CallV prog yv [.agg (zlJ ((zbd (n:Int)).getD zeroF)).toArray] w1 fun v w2=>(v = .bool true ∧ St w1 (R (zii n).length).foot [R ((zii n).length + 1)] [] w2) ∨ (v = .bool false ∧ St w1 (R (zii n).length).foot [S (zii n).length] [] w2):=fun n hn hs w1 hw1=>by
  have hk:=(zhe hn).2 hs
  have t:=hy _ hk.2 w1 hw1
  dsimp only at t
  rwa [hk.1] at t
 refine zax (args:=[yv]) func206 Z Z Z ?_
 have V:St w (R 0).foot [R 0] [] w:=St.enter1 hR (fun d hd=>by cases hd) (fun d hd=>by cases hd)
 refine SR<|MH rfl<|G<|zau<|zba<|za7 [(0,_)] ⟨rfl,trivial⟩ (fun (n:Nat)=>[(5,.int .u16 (n:Int))]) (fun (n:Nat)=>[R (zii n).length]) (fun (n:Nat)=>n ≤ 256) (fun (n:Nat)=>256 - n) (0) (by (try dsimp only); rw [all_0]; exact V) (Nat.zero_le _) ⟨rfl,trivial⟩ ?_
 intro n f w V hJ ih1
 refine SR<|Q<|zaY Z Z<|G<|SQ<|zaa Z (fun g2=>?_) (fun g2=>?_)
 ·refine zaj <| SQ <| zau <| SR <| MH Z <| AH Z <| NSR <| MH Z <| Q <| zav (v1 := .int .u16 _) zrV Z Z <| Ret.det (zl3 _ O _) V fun w V => Q <| zad (v := .tuple #[zam _ _ _ _ _ _ _ _, .bool _]) Z <| Q <| Ex (zam _ _ _ _ _ _ _ _) Z Z <| Q (Ex (.bool _) Z Z ?_)
  refine Q<|zaw V zaA fun w b3 V=>Q (SO (v:=zam _ _ _ _ _ _ _ _) V zaA Z Z .u0 fun w V=>?_)
  refine AB Z<|NSR<|MB Z<|MB Z<|zcF (d:=14) Z (fun g3=>?_) (fun g3=>?_)
  ·refine TK (t := 14) Z (Vb g3) <| zad (v := _) Z <| TK (t := 14) Z (Vb g3) (zaC (vs := zap _ _ _ _ _ _ _ _) zaA Z Z Z (zab (n := 8) (V.objL Q0) _ Z) ?_)
   replace V:=V.pick (.c .u1 (.k1 .nil))
   refine TK (t:=14) Z (Vb g3) (zgB (v1:=zam _ _ _ _ _ _ _ _) Z Z ((hyx n O g3 _ V.one).mono fun v w hp=>?_))
   rcases hp with ⟨rfl,hp⟩ | ⟨rfl,hp⟩
   ·replace V := V.call1 hp
    refine TK (t:=14) Z (Vb g3)<|zaT Z<|Q<|zaE (u:=.bool _) (Vb g3) Z<|G<|zas (Vb (congrArg not (Z:true = _)))<|zaj<|zan<|RG<|Q<|zaD Z Z Z Wu16<|MH Z<|G<|zaG ?_
    replace V:=V.pick (.k1 .nil)
    exact ih1 (n + 1) _ w (by omega) (by (try dsimp only); rw [zsi (by omega) g3]; simp only [List.length_append,List.length_singleton]; exact V) (by omega) ⟨rfl,trivial⟩ ⟨(congrArg (Value.int .u16) (by omega)),trivial⟩
   ·replace V := V.call1 hp
    refine TK (t:=14) Z (Vb g3)<|zaT Z<|Q<|zaE (u:=.bool _) (Vb g3) Z<|G<|zat (Vb (congrArg not (Z:false = _)))<|zi4 func206 Z  ?_
    replace V:=V.pick (.k2 .nil)
    exact .inr ⟨(zii n).length,((zhe O).2 g3).2,V.one⟩
  refine OM (t:=14) Z (Vb g3) Z<|OM (t:=14) Z (Vb g3) Z<|OM (t:=14) Z (Vb g3) Z<|OM (t:=14) Z (Vb g3) Z<|Q<|zay (u:=.bool _) (Vb g3) Z<|G<|zas (Vb (Z:false = _))<|zaj<|zan<|RG<|Q<|zaD Z Z Z Wu16<|MH Z<|G<|zaG ?_
  replace V:=V.pick (.c .u1 .nil)
  exact ih1 (n + 1) _ w (by omega) (by (try dsimp only); rw [zsj (by omega) g3]; exact V) (by omega) ⟨rfl,trivial⟩ ⟨(congrArg (Value.int .u16) (by omega)),trivial⟩
 refine zaU (id:=0) Z<|zg2 func206 Z  ?_
 replace V:=V.pick (.k1 .nil)
 obtain rfl:n = 256:=by omega
 rw [zt1] at V
 exact .inl V.one
end Go.SK
namespace Go.SK
open Go Go.Proofs Go.Proofs.Tryz
theorem ent171:zaJ prog 171:=⟨f171,_,func171,Kr,rfl⟩
theorem ent206:zaJ prog 206:=⟨f206,_,func206,Kr,rfl⟩
theorem zmP:FldF prog 113 1 1:=FldF.of (n:=0) Kr
theorem zb3:FldF prog 244 0 0:=FldF.of (n:=7) Kr
theorem zd6:FldF prog 113 4 4:=FldF.of (n:=0) Kr
theorem zb4:FldF prog 113 5 5:=FldF.of (n:=0) Kr
theorem zlh:TyF prog 244 (.struct (zbk prog 244)) 8 80 [.int .u16 0,str [],.bool false,.bool false,str [],str [],.int .i64 0,.int .u8 0]:=zbw Kr Kr
theorem zq7:TyF prog 272 (.slice 245) 1 24 [.slice none 0 0]:=zbw Kr Kr
theorem zoZ:TyF prog 245 (.func #[3] #[5] false) 1 8 [.nilFunc]:=zbw Kr Kr
theorem ent207:zaJ prog 207:=⟨f207,_,func207,Kr,rfl⟩
theorem ent208:zaJ prog 208:=⟨f208,_,func208,Kr,rfl⟩
theorem zsC:zcE prog 244 [(0,8)]:=⟨zbk prog 244,Kr,fun w=>Kr⟩
theorem zsQ:zaJ prog 172:=⟨f172,_,func172,Kr,rfl⟩
open Go.RowKit
theorem zod (q:zcI) (w:World):Ret prog 127 #[str q] w (fun v w'=>v = ztI (refT.find? (nmF q)) ∧ St w NoM [] [] w'):=by
 refine zax (args:=[str q]) func127 Z Z Z ?_
 have V:=St.init w
 refine SR<|Q<|zbn (v:=str _) V Z Z fun w b1 V=>Q<|zaw V zaA fun w b2 V=>Q<|zaw V ty4 fun w b3 V=>G<|SQ<|SR<|Q<|zk3  ent171 Z <|Ret.det (zsq _) V fun w V=>G<|zau ?_
 replace V:=V.addProp (p:=(refT.drop 0).find? (nmF q) = refT.find? (nmF q)) (rfl)
 replace V:=V.pick (.k1 (.c .u1 (.k2 .nil)))
 refine zd0 (L1:=[_,_,_]) (L2:=[_]) (item:=(fun j=>[.agg (zlJ (refT.getD j zeroF)).toArray])) (FD:=(fun _=>False)) (fun i=>[Res.prop ((refT.drop i).find? (nmF q) = refT.find? (nmF q)),Res.row b2 113 [.int .u16 zeroF.op,str zeroF.name,.bool zeroF.ty,.bool zeroF.res,str zeroF.fixed,str zeroF.rest,.int .i64 zeroF.most,.int .u8 zeroF.part],Res.row b3 4 [.bool false]]) (fun i=>[Res.prop (refT.find? (nmF q) = some (refT.getD i zeroF)),Res.row b2 113 [.int .u16 (refT.getD i zeroF).op,str (refT.getD i zeroF).name,.bool (refT.getD i zeroF).ty,.bool (refT.getD i zeroF).res,str (refT.getD i zeroF).fixed,str (refT.getD i zeroF).rest,.int .i64 (refT.getD i zeroF).most,.int .u8 (refT.getD i zeroF).part],Res.row b3 4 [.bool true]]) (fun _=>.ret) V Z Z ent206 (fun b hb=>hb.elim) (fun w1 _=>zos w1) (fun _ _=>rfl) ?_ ?_ ?_
 ·intro i hi w bl br lp hlp V hk
  have hprop:(refT.drop i).find? (nmF q) = refT.find? (nmF q):=V.hL _ Q2
  refine RG<|Q<|zaw V zaA fun w b4 V=>Q (SO (v:=zam _ _ _ _ _ _ _ _) V zaA Z Z .u0 fun w V=>?_)
  refine G<|zeO hlp V .u1 fun w V=>zau<|SR<|Q<|zac zmP Z<|Q<|zae (v:=str _) ty9 Z Z (V.cellL Q0 Z)<|Q<|zae (v:=str _) ty9 Z Z (V.cellD Q0 Z)<|Q<|zdx Z Z<|G<|zaa Z (fun g1=>?_) (fun g1=>?_)
  ·refine SR <| Q <| zaC (vs := zap _ _ _ _ _ _ _ _) zaA Z Z Z (zab (n := 8) (V.objL Q0) _ Z) <| Q (SO (v := zam _ _ _ _ _ _ _ _) V zaA Z Z .u4 fun w V => ?_)
   refine Q (SO (v:=.bool _) V ty4 Z Z .u5 fun w V=>?_)
   refine G<|zdZ V .u1 fun w V=>?_
   replace V:=V.addProp (p:=refT.find? (nmF q) = some (refT.getD i zeroF)) (zhc (d:=zeroF) hprop hi (Dt g1))
   replace V:=V.pick (.c .u2 (.c .u2 (.k1 (.c .u2 (.c .u2 .nil)))))
   exact .inr ⟨Z,_,V⟩
  refine zaj<|zan<|zdn hlp V .u1 fun w V=>?_
  replace V:=V.addProp (p:=(refT.drop (i + 1)).find? (nmF q) = refT.find? (nmF q)) (zez (d:=zeroF) hprop hi (Df g1))
  replace V:=V.pick (.c .u2 (.c .u2 (.k1 (.c .u2 (.c .u2 .nil)))))
  exact .inl ⟨Z,_,V⟩
 ·intro w bl br lp V
  have hall:(refT.drop refT.length).find? (nmF q) = refT.find? (nmF q):=V.hL _ Q2
  refine zan<|SR<|Q (zaf zaA zjP .nil ?_)
  refine Q (SO (v:=zam _ _ _ _ _ _ _ _) V zaA Z Z .u3 fun w V=>?_)
  refine Q (SO (v:=.bool _) V ty4 Z Z .u4 fun w V=>?_)
  refine G ?_
  replace V:=V.pick (.c .u1 (.k5 .nil))
  refine zbz [br] func127 V fun w V=>⟨_,zqS Z (zak (vs:=zap _ _ _ _ _ _ _ _) Z zaA Z Z (zab (n:=8) (V.objL Q2) _ Z)) (zcM (v:=.bool _) Z ty4 Z (V.cellL Q3 Z)),?_⟩
  rw [zhd hall (Nat.le_refl _)]
  exact ⟨Z,V.pure⟩
 ·intro i hi w bl br lp V
  have hs:refT.find? (nmF q) = some (refT.getD i zeroF):=V.hL _ Q2
  replace V:=V.pick (.c .u1 (.k5 .nil))
  refine zbz [br] func127 V fun w V=>⟨_,zqS Z (zak (vs:=zap _ _ _ _ _ _ _ _) Z zaA Z Z (zab (n:=8) (V.objL Q2) _ Z)) (zcM (v:=.bool _) Z ty4 Z (V.cellL Q3 Z)),?_⟩
  rw [hs]
  exact ⟨Z,V.pure⟩
theorem zkQ (c:Int) (w:World):Ret prog 138 #[.int .u8 c] w (fun v w'=>v = .int .u8 (zb7 c) ∧ St w NoM [] [] w'):=by
 refine zax (args:=[.int .u8 c]) func138 Z Z Z ?_
 have V:=St.init w
 refine SR<|AC Z<|G<|SQ<|SR<|MC Z<|G<|zau<|SR<|Q<|zai Z Z<|AB Z<|G ?_
 refine zaa Z (fun g1=>?_) (fun g1=>?_)
 ·refine SR <| AC Z <| G <| zag func138 Z (TP (v := .int .u8 _) Z) <| ⟨congrArg (Value.int .u8) (Eq.symm ?_), V.pure⟩
  unfold zb7
  rw [if_pos g1]
 refine SR<|Q<|zai Z Z<|AB Z<|G<|zaa Z (fun g2=>?_) (fun g2=>?_)
 ·refine SR <| AC Z <| G <| zag func138 Z (TP (v := .int .u8 _) Z) <| ⟨congrArg (Value.int .u8) (Eq.symm ?_), V.pure⟩
  unfold zb7
  rw [if_neg g1,if_pos g2]
 refine SR<|Q<|zai Z Z<|AB Z<|G<|zaa Z (fun g3=>?_) (fun g3=>?_)
 ·refine SR <| AC Z <| G <| zag func138 Z (TP (v := .int .u8 _) Z) <| ⟨congrArg (Value.int .u8) (Eq.symm ?_), V.pure⟩
  unfold zb7
  rw [if_neg g1,if_neg g2,if_pos g3]
 refine zaj<|zan<|SQ<|SR<|MC Z<|Q<|zav (v1:=.int .u8 _) zsP Z Z<|Ret.det (ziM _ _) V fun w V=>Q<|ze4 Z Z<|G<|zaa Z (fun g4=>?_) (fun g4=>?_)
 ·refine SR <| AC Z <| G <| zag func138 Z (TP (v := .int .u8 _) Z) <| ⟨congrArg (Value.int .u8) (Eq.symm ?_), V.pure⟩
  unfold zb7
  rw [if_neg g1,if_neg g2,if_neg g3,if_pos g4]
 refine zaj<|SR<|AC Z<|G<|zag func138 Z (TP (v:=.int .u8 _) Z)<|⟨congrArg (Value.int .u8) (Eq.symm ?_),V.pure⟩
 unfold zb7
 rw [if_neg g1,if_neg g2,if_neg g3,if_neg g4]
theorem zob (fm:FormL) (hf:FOk fm) (i:Int) (h0:0 ≤ i) (h1:i ≤ 9223372036854775807) (w:World):Ret prog 207 #[.agg #[.int .u16 fm.op,str fm.name,.bool fm.ty,.bool fm.res,str fm.fixed,str fm.rest,.int .i64 fm.most,.int .u8 fm.part],.int .i64 i] w (fun v w'=>v = .int .u8 (zow fm i) ∧ St w NoM [] [] w'):=by
 refine zax (args:=[.agg #[.int .u16 fm.op,str fm.name,.bool fm.ty,.bool fm.res,str fm.fixed,str fm.rest,.int .i64 fm.most,.int .u8 fm.part],.int .i64 i]) func207 Z Z Z ?_
 have V:=St.init w
 obtain ⟨hop,hmost,hfx,hrs,_,_,hf0,hr0⟩:=hf
 refine SR<|Q<|zbn (v:=zam _ _ _ _ _ _ _ _) V Z Z fun w b2 V=>AC Z<|G<|SQ<|SR<|MI Z<|Q<|zaY Z Z<|MB Z<|zaz (d:=7) Z (fun g1=>?_) (fun g1=>?_)
 ·refine OM (t := 7) Z (Vb (Dt g1)) Z <| OM (t := 7) Z (Vb (Dt g1)) Z <| OM (t := 7) Z (Vb (Dt g1)) Z <| OM (t := 7) Z (Vb (Dt g1)) Z <| OM (t := 7) Z (Vb (Dt g1)) Z <| OM (t := 7) Z (Vb (Dt g1)) Z <| Q <| zaE (u := .bool _) (Vb (Dt g1)) Z <| G <| zat (Vb (Z : true = _)) <| SR <| AC Z <| G <| zag func207 Z (TP (v := .int .u8 _) Z) <| ⟨congrArg (Value.int .u8) (Eq.symm ?_), V.pure⟩
  unfold zow
  first | exact if_pos (by omega) | exact if_neg (by omega)
 refine TK (t:=7) Z (Vb (Df g1))<|zad (v:=.int .i64 _) Z<|TK (t:=7) Z (Vb (Df g1))<|zac zb3 Z<|TK (t:=7) Z (Vb (Df g1))<|zac zd6 Z<|TK (t:=7) Z (Vb (Df g1))<|zae (v:=str _) ty9 Z Z (V.cellL Q0 Z)<|TK (t:=7) Z (Vb (Df g1))<|zaX (rest:=[]) ty9 Z<|TK (t:=7) Z (Vb (Df g1))<|zbh Z Z<|Q<|zay (u:=.bool _) (Vb (Df g1)) Z<|G<|zaa Z (fun g2=>?_) (fun g2=>?_)
 ·refine SR <| AC Z <| G <| zag func207 Z (TP (v := .int .u8 _) Z) <| ⟨congrArg (Value.int .u8) (Eq.symm ?_), V.pure⟩
  unfold zow
  first | exact if_pos (by omega) | exact if_neg (by omega)
 refine zaj<|SR<|Q<|zac zb3 Z<|Q<|zac zd6 Z<|Q<|zae (v:=str _) ty9 Z Z (V.cellL Q0 Z)<|MI Z<|Q<|zaZ ty9 Z Z O O<|AC Z<|G<|zag func207 Z (TP (v:=.int .u8 _) Z)<|⟨congrArg (Value.int .u8) (Eq.symm ?_),V.pure⟩
 unfold zow
 first | exact if_pos (by omega) | exact if_neg (by omega)
theorem zqx (fm:FormL) (hf:FOk fm) (i:Int) (h0:0 ≤ i) (h1:i ≤ 9223372036854775807) (w:World):Ret prog 208 #[.agg #[.int .u16 fm.op,str fm.name,.bool fm.ty,.bool fm.res,str fm.fixed,str fm.rest,.int .i64 fm.most,.int .u8 fm.part],.int .i64 i] w (fun v w'=>v = .int .u8 (zfi fm i) ∧ St w NoM [] [] w'):=by
 refine zax (args:=[.agg #[.int .u16 fm.op,str fm.name,.bool fm.ty,.bool fm.res,str fm.fixed,str fm.rest,.int .i64 fm.most,.int .u8 fm.part],.int .i64 i]) func208 Z Z Z ?_
 have V:=St.init w
 obtain ⟨hop,hmost,hfx,hrs,_,_,hf0,hr0⟩:=hf
 refine SR<|Q<|zbn (v:=zam _ _ _ _ _ _ _ _) V Z Z fun w b2 V=>AC Z<|NSR<|MI Z<|Q<|zac zb3 Z<|Q<|zac zd6 Z<|Q<|zae (v:=str _) ty9 Z Z (V.cellL Q0 Z)<|Q<|zaX (rest:=[]) ty9 Z<|Q<|zbV Z Z Z zbS<|AI Z<|G ?_
 refine SQ<|SR<|MI Z<|Q<|zaY Z Z<|MB Z<|zaz (d:=13) Z (fun g1=>?_) (fun g1=>?_)
 ·refine OM (t := 13) Z (Vb (Dt g1)) Z <| OM (t := 13) Z (Vb (Dt g1)) Z <| OM (t := 13) Z (Vb (Dt g1)) Z <| OM (t := 13) Z (Vb (Dt g1)) Z <| Q <| zaE (u := .bool _) (Vb (Dt g1)) Z <| MB Z <| OM (t := 19) Z (Vb (Z : true = _)) Z <| OM (t := 19) Z (Vb (Z : true = _)) Z <| OM (t := 19) Z (Vb (Z : true = _)) Z <| OM (t := 19) Z (Vb (Z : true = _)) Z <| OM (t := 19) Z (Vb (Z : true = _)) Z <| zaM (t := 24) Z Z <| zaM (t := 24) Z Z <| zaM (t := 24) Z Z <| zaM (t := 24) Z Z ?_
  refine zaM (t:=24) Z Z<|zaM (t:=24) Z Z<|zaM (t:=24) Z Z<|zaM (t:=24) Z Z<|zaM (t:=24) Z Z<|zaM (t:=24) Z Z<|OM (t:=19) Z (Vb (Z:true = _)) Z<|Q<|zaE (u:=.bool _) (Vb (Z:true = _)) Z<|G<|zat (Vb (Z:true = _))<|SR<|AC Z<|G<|zag func208 Z (TP (v:=.int .u8 _) Z) ?_
  refine ⟨congrArg (Value.int .u8) (Eq.symm ?_),V.pure⟩
  unfold zfi
  first | exact if_pos (by first | omega | (simp_all <;> omega)) | exact if_neg (by first | omega | (simp_all <;> omega))
 refine TK (t:=13) Z (Vb (Df g1))<|zac zb3 Z<|TK (t:=13) Z (Vb (Df g1))<|zac zb4 Z<|TK (t:=13) Z (Vb (Df g1))<|zae (v:=str _) ty9 Z Z (V.cellL Q0 Z)<|TK (t:=13) Z (Vb (Df g1))<|zdx Z Z<|Q<|zay (u:=.bool _) (Vb (Df g1)) Z<|MB Z<|zaz (d:=19) Z (fun g2=>?_) (fun g2=>?_)
 ·refine OM (t := 19) Z (Vb (Dt g2)) Z <| OM (t := 19) Z (Vb (Dt g2)) Z <| OM (t := 19) Z (Vb (Dt g2)) Z <| OM (t := 19) Z (Vb (Dt g2)) Z <| OM (t := 19) Z (Vb (Dt g2)) Z <| zaM (t := 24) Z Z <| zaM (t := 24) Z Z <| zaM (t := 24) Z Z <| zaM (t := 24) Z Z <| zaM (t := 24) Z Z <| zaM (t := 24) Z Z <| zaM (t := 24) Z Z <| zaM (t := 24) Z Z <| zaM (t := 24) Z Z <| zaM (t := 24) Z Z ?_
  refine OM (t:=19) Z (Vb (Dt g2)) Z<|Q<|zaE (u:=.bool _) (Vb (Dt g2)) Z<|G<|zal [(1,.int .i64 _),(2,Pp _ _),(36,.bool _)] E3 fun f=>zat (Vb (Z:true = _))<|SR<|AC Z<|G<|zag func208 Z (TP (v:=.int .u8 _) Z)<|⟨congrArg (Value.int .u8) (Eq.symm ?_),V.pure⟩
  unfold zfi
  first | exact if_pos (by first | omega | (simp_all <;> omega)) | exact if_neg (by first | omega | (simp_all <;> omega))
 refine TK (t:=19) Z (Vb (Df g2))<|zac zb3 Z<|TK (t:=19) Z (Vb (Df g2))<|zac zfY Z<|TK (t:=19) Z (Vb (Df g2))<|zae (v:=.int .i64 _) ty3 Z Z (V.cellL Q0 Z)<|TK (t:=19) Z (Vb (Df g2))<|zbW Z Z<|TK (t:=19) Z (Vb (Df g2))<|zad (v:=.bool _) Z<|zaz (d:=24) Z (fun g3=>?_) (fun g3=>?_)
 ·refine TK (t := 24) Z (Vb (Dt g3)) <| zad (v := .int .i64 _) Z <| TK (t := 24) Z (Vb (Dt g3)) <| zac zb3 Z <| TK (t := 24) Z (Vb (Dt g3)) <| zac zfY Z <| TK (t := 24) Z (Vb (Dt g3)) <| zae (v := .int .i64 _) ty3 Z Z (V.cellL Q0 Z) <| TK (t := 24) Z (Vb (Dt g3)) <| zac zb3 Z <| TK (t := 24) Z (Vb (Dt g3)) <| zac zb4 Z <| TK (t := 24) Z (Vb (Dt g3)) <| zae (v := str _) ty9 Z Z (V.cellL Q0 Z) <| TK (t := 24) Z (Vb (Dt g3)) (zaX (rest := []) ty9 Z ?_)
  first | refine TK (t:=24) rfl (Vb (Dt g3)) (zcw rfl rfl rfl zbS ?_) | refine TK (t:=24) rfl (Vb (Dt g3)) (znc rfl rfl O O O O (fun hm4 hm5=>?_))
  refine TK (t:=24) Z (Vb (Dt g3))<|zbh Z Z<|TK (t:=19) Z (Vb (Df g2))<|zaE (u:=.bool _) (Vb (Dt g3)) Z<|Q<|zay (u:=.bool _) (Vb (Df g2)) Z<|G<|zal [(1,.int .i64 _),(2,Pp _ _),(36,.bool _)] E3 fun f=>zaa Z (fun g6=>?_) (fun g6=>?_)
  ·refine SR <| AC Z <| G <| zag func208 Z (TP (v := .int .u8 _) Z) <| ⟨congrArg (Value.int .u8) (Eq.symm ?_), V.pure⟩
   unfold zfi
   first | exact if_pos (by first | omega | (simp_all <;> omega)) | exact if_neg (by first | omega | (simp_all <;> omega))
  have hrp:0 < fm.rest.length:=List.length_pos_iff.2 g2
  have hmd:=Int.emod_lt_of_pos (i - (fm.fixed.length:Int)) (show (0:Int) < fm.rest.length by omega)
  have hmn:=Int.emod_nonneg (i - (fm.fixed.length:Int)) (show (fm.rest.length:Int) ≠ 0 by omega)
  refine zaj<|SQ<|RunD.start [] V (bs:=[0,1,3,0,0,16,48,112,248,511,1023]) (ds:=[some 37,some 38,some 39,some 40,some 41,some 42,some 43,some 44,some 45,some 46,some 4]) ⟨Kr,Kr,Kr⟩ (fun tab7=>?_)
  refine DO tab7 1 (fun _ _ _ hc=>zac zb3 (hc.old (v:=Pp _ _) Z Z Z) hc.z)<|DO tab7 2 (fun _ _ _ hc=>zac zb4 (hc.d 0 Z Z Z Z) hc.z)<|DO tab7 3 (fun _ _ _ hc=>zae (v:=str _) ty9 Z (hc.d 1 Z Z Z Z) (hc.st.cellL (Ar Q0) Z) hc.z)<|DO tab7 4 (fun _ _ _ hc=>zad (v:=.int .i64 _) (hc.old Z Z Z) hc.z)<|DO tab7 5 (fun _ _ _ hc=>zac zb3 (hc.old (v:=Pp _ _) Z Z Z) hc.z)<|DO tab7 6 (fun _ _ _ hc=>zac zb4 (hc.d 4 Z Z Z Z) hc.z)<|DO tab7 7 (fun _ _ _ hc=>zae (v:=str _) ty9 Z (hc.d 5 Z Z Z Z) (hc.st.cellL (Ar Q0) Z) hc.z)<|DO tab7 8 (fun _ _ _ hc=>zaX (rest:=[]) ty9 (hc.d 6 Z Z Z Z) hc.z) ?_
  first | refine DO tab7 9 (fun _ _ _ hc=>zcl (hc.d 3 rfl rfl rfl rfl) (hc.d 7 rfl rfl rfl rfl) O O rfl hc.z) ?_ | refine DO tab7 9 (fun _ _ _ hc=>zcV (hc.d 3 rfl rfl rfl rfl) (hc.d 7 rfl rfl rfl rfl) O hc.z) ?_
  refine RunD.fin zaB tab7 V Z (fun f8 w R11 hs9 hd10 hr12 V=>?_)
  obtain ⟨h37_,r0⟩:=hd10 0 37 rfl rfl
  obtain ⟨h38_,r1⟩:=hd10 1 38 rfl rfl
  obtain ⟨h39_,r2⟩:=hd10 2 39 rfl rfl
  obtain ⟨h40_,r3⟩:=hd10 3 40 rfl rfl
  obtain ⟨h41_,r4⟩:=hd10 4 41 rfl rfl
  obtain ⟨h42_,r5⟩:=hd10 5 42 rfl rfl
  obtain ⟨h43_,r6⟩:=hd10 6 43 rfl rfl
  obtain ⟨h44_,r7⟩:=hd10 7 44 rfl rfl
  obtain ⟨h45_,r8⟩:=hd10 8 45 rfl rfl
  simp only [rg9,Fc,Fn,Mc,Mn,r0,r1,r2,r3,r4,r5,r6,r7,r8,Na,An,Ca] at V
  refine zaH (sl:=[(39,str _),(45,.int .i64 _)]) ⟨h39_,h45_,trivial⟩ ?_
  clear hs9 hd10 hr12 tab7
  refine Q<|zaZ ty9 Z Z O O<|AC Z<|G<|zag func208 Z (TP (v:=.int .u8 _) Z)<|⟨congrArg (Value.int .u8) (Eq.symm ?_),V.pure⟩
  unfold zfi
  first | exact if_pos (by first | omega | (simp_all <;> omega)) | exact if_neg (by first | omega | (simp_all <;> omega))
 refine OM (t:=24) Z (Vb (Df g3)) Z<|OM (t:=24) Z (Vb (Df g3)) Z<|OM (t:=24) Z (Vb (Df g3)) Z<|OM (t:=24) Z (Vb (Df g3)) Z<|OM (t:=24) Z (Vb (Df g3)) Z<|OM (t:=24) Z (Vb (Df g3)) Z<|OM (t:=24) Z (Vb (Df g3)) Z<|OM (t:=24) Z (Vb (Df g3)) Z<|OM (t:=24) Z (Vb (Df g3)) Z<|OM (t:=24) Z (Vb (Df g3)) Z<|TK (t:=19) Z (Vb (Df g2))<|zay (u:=.bool _) (Vb (Df g3)) Z<|Q<|zay (u:=.bool _) (Vb (Df g2)) Z<|G<|zal [(1,.int .i64 _),(2,Pp _ _),(36,.bool _)] E3 (fun f=>?_)
 have hrp:0 < fm.rest.length:=List.length_pos_iff.2 g2
 have hmd:=Int.emod_lt_of_pos (i - (fm.fixed.length:Int)) (show (0:Int) < fm.rest.length by omega)
 have hmn:=Int.emod_nonneg (i - (fm.fixed.length:Int)) (show (fm.rest.length:Int) ≠ 0 by omega)
 refine zas (Vb (Z:false = _))<|zaj<|SQ<|RunD.start [] V (bs:=[0,1,3,0,0,16,48,112,248,511,1023]) (ds:=[some 37,some 38,some 39,some 40,some 41,some 42,some 43,some 44,some 45,some 46,some 4]) ⟨Kr,Kr,Kr⟩ (fun tab13=>?_)
 refine DO tab13 1 (fun _ _ _ hc=>zac zb3 (hc.old (v:=Pp _ _) Z Z Z) hc.z)<|DO tab13 2 (fun _ _ _ hc=>zac zb4 (hc.d 0 Z Z Z Z) hc.z)<|DO tab13 3 (fun _ _ _ hc=>zae (v:=str _) ty9 Z (hc.d 1 Z Z Z Z) (hc.st.cellL (Ar Q0) Z) hc.z)<|DO tab13 4 (fun _ _ _ hc=>zad (v:=.int .i64 _) (hc.old Z Z Z) hc.z)<|DO tab13 5 (fun _ _ _ hc=>zac zb3 (hc.old (v:=Pp _ _) Z Z Z) hc.z)<|DO tab13 6 (fun _ _ _ hc=>zac zb4 (hc.d 4 Z Z Z Z) hc.z)<|DO tab13 7 (fun _ _ _ hc=>zae (v:=str _) ty9 Z (hc.d 5 Z Z Z Z) (hc.st.cellL (Ar Q0) Z) hc.z)<|DO tab13 8 (fun _ _ _ hc=>zaX (rest:=[]) ty9 (hc.d 6 Z Z Z Z) hc.z) ?_
 first | refine DO tab13 9 (fun _ _ _ hc=>zcl (hc.d 3 rfl rfl rfl rfl) (hc.d 7 rfl rfl rfl rfl) O O rfl hc.z) ?_ | refine DO tab13 9 (fun _ _ _ hc=>zcV (hc.d 3 rfl rfl rfl rfl) (hc.d 7 rfl rfl rfl rfl) O hc.z) ?_
 refine RunD.fin zaB tab13 V Z (fun f14 w R17 hs15 hd16 hr18 V=>?_)
 obtain ⟨h37_,r0⟩:=hd16 0 37 rfl rfl
 obtain ⟨h38_,r1⟩:=hd16 1 38 rfl rfl
 obtain ⟨h39_,r2⟩:=hd16 2 39 rfl rfl
 obtain ⟨h40_,r3⟩:=hd16 3 40 rfl rfl
 obtain ⟨h41_,r4⟩:=hd16 4 41 rfl rfl
 obtain ⟨h42_,r5⟩:=hd16 5 42 rfl rfl
 obtain ⟨h43_,r6⟩:=hd16 6 43 rfl rfl
 obtain ⟨h44_,r7⟩:=hd16 7 44 rfl rfl
 obtain ⟨h45_,r8⟩:=hd16 8 45 rfl rfl
 simp only [rg9,Fc,Fn,Mc,Mn,r0,r1,r2,r3,r4,r5,r6,r7,r8,Na,An,Ca] at V
 refine zaH (sl:=[(39,str _),(45,.int .i64 _)]) ⟨h39_,h45_,trivial⟩ ?_
 clear hs15 hd16 hr18 tab13
 refine Q<|zaZ ty9 Z Z O O<|AC Z<|G<|zag func208 Z (TP (v:=.int .u8 _) Z)<|⟨congrArg (Value.int .u8) (Eq.symm ?_),V.pure⟩
 unfold zfi
 first | exact if_pos (by first | omega | (simp_all <;> omega)) | exact if_neg (by first | omega | (simp_all <;> omega))
theorem zhZ (fm:FormL) (hf:FOk fm) (i:Int) (h1:i ≤ 9223372036854775807) (w:World):Ret prog 172 #[.agg #[.int .u16 fm.op,str fm.name,.bool fm.ty,.bool fm.res,str fm.fixed,str fm.rest,.int .i64 fm.most,.int .u8 fm.part],.int .i64 i] w (fun v w'=>v = .int .u8 (zaN fm i) ∧ St w NoM [] [] w'):=by
 refine zax (args:=[.agg #[.int .u16 fm.op,str fm.name,.bool fm.ty,.bool fm.res,str fm.fixed,str fm.rest,.int .i64 fm.most,.int .u8 fm.part],.int .i64 i]) func172 Z Z Z ?_
 have V:=St.init w
 refine SR<|Q<|zbn (v:=zam _ _ _ _ _ _ _ _) V Z Z fun w b2 V=>AC Z<|G<|SQ<|SR<|MI Z<|Q<|zaY Z Z<|G<|zaa Z (fun g1=>?_) (fun g1=>?_)
 ·refine SR <| AC Z <| G <| zag func172 Z (TP (v := .int .u8 _) Z) <| ⟨congrArg (Value.int .u8) (Eq.symm ?_), V.pure⟩
  unfold zaN
  exact if_pos (by omega)
 refine zaj<|SQ<|SR<|Q<|zaC (vs:=zap _ _ _ _ _ _ _ _) zlh Z Z Z (zab (n:=8) (V.objL Q0) _ Z)<|Q<|zbJ<|Q<|zaC (vs:=zap _ _ _ _ _ _ _ _) zlh Z Z Z (zab (n:=8) (V.objL Q0) _ Z)<|Q<|zbJ<|Q (zaI (z0:=[.nilFunc,.nilFunc]) V zq7 zoZ Z Z Kr (.c (v:=.func _ _ _) Z (h:=(.c (v:=.func _ _ _) Z (h:=.nil)))) fun w b14 V=>?_)
 refine Q<|zaQ (rest:=[]) zq7 Z<|MI Z<|G<|zau<|zba<|SR<|Q<|zaY Z Z<|G<|SQ<|zat (Vb (Dt De))<|zaj<|SQ<|zau<|SQ ?_
 refine RG<|Q<|zbb zq7 zoZ Z Z O O<|Q<|zae (v:=.func _ _ _) zoZ Z Z (V.cellL Q0 Z)<|Q<|zao (v:=.func _ _ _) Z<|NSR<|Q<|zad (v:=.func _ _ _) Z<|MI Z<|Q (zgB (v1:=.int .i64 _) Z Z (zcH ent207 ((zob fm hf i O h1 _).mono fun v w hp=>?_)))
 obtain ⟨rfl,hp⟩:=hp
 replace V:=V.keepc hp
 refine AC Z<|G<|zal [(1,.int .i64 _),(7,.int .u8 _),(14,.slice _ _ _),(15,.int .i64 _),(16,.int .i64 _)] E5 fun f=>SR<|MC Z<|Q<|za8 Z Z<|G<|zaa Z (fun g2=>?_) (fun g2=>?_)
 ·refine SR <| MC Z <| AC Z <| G <| zag func172 Z (TP (v := .int .u8 _) Z) ?_
  exact ⟨congrArg (Value.int .u8) (znS hf O g2).symm,V.pure⟩
 refine zaj<|zan<|RG<|Q<|zaD Z Z Z zbS<|MI Z<|G<|zaG<|SR<|Q<|zaY Z Z<|G<|SQ<|zat (Vb (Dt De))<|zaj<|SQ ?_
 refine zau<|SR<|Q<|zbb zq7 zoZ Z Z O O<|Q<|zae (v:=.func _ _ _) zoZ Z Z (V.cellL Q0 Z)<|Q<|zao (v:=.func _ _ _) Z<|NSR<|Q<|zad (v:=.func _ _ _) Z<|MI Z<|Q (zgB (v1:=.int .i64 _) Z Z (zcH ent208 ((zqx fm hf i O h1 _).mono fun v w hp=>?_)))
 obtain ⟨rfl,hp⟩:=hp
 replace V:=V.keepc hp
 refine AC Z<|NSR<|MC Z<|Q<|za8 Z Z<|G<|zaa Z (fun g3=>?_) (fun g3=>?_)
 ·refine SR <| MC Z <| AC Z <| G <| zag func172 Z (TP (v := .int .u8 _) Z) ?_
  rw [zhI hf (by omega) (Nn g2)]
  exact ⟨Z,V.pure⟩
 refine zaj<|zan<|RG<|Q<|zaD Z Z Z zbS<|MI Z<|G<|zaG<|SR<|Q<|zaY Z Z<|G<|SQ<|zas (Vb (Df De))<|zaU (id:=0) Z<|SQ ?_
 refine RG<|AC Z<|G<|zag func172 Z (TP (v:=.int .u8 _) Z) ?_
 rw [zhI hf (by omega) (Nn g2)]
 exact ⟨congrArg (Value.int .u8) (Nn g3).symm,V.pure⟩
theorem zh0 (op:Int) (h0:0 ≤ op) (i:Int) (h1:i ≤ 9223372036854775807) (w:World):Ret prog 131 #[.int .u16 op,.int .i64 i] w (fun v w'=>v = .int .u8 (zaN (za5 op) i) ∧ St w NoM [] [] w'):=by
 refine zax (args:=[.int .u16 op,.int .i64 i]) func131 Z Z Z ?_
 have V:=St.init w
 refine SR<|AC Z<|NSR<|MH Z<|Q<|zav (v1:=.int .u16 _) zrV Z Z<|Ret.det (zl3 _ O _) V fun w V=>Q<|zad (v:=.tuple #[zam _ _ _ _ _ _ _ _,.bool _]) Z<|Q<|Ex (zam _ _ _ _ _ _ _ _) Z Z<|Q<|Ex (.bool _) Z Z<|Q<|zaw V zaA fun w b5 V=>Q (SO (v:=zam _ _ _ _ _ _ _ _) V zaA Z Z .u0 fun w V=>?_)
 refine AB Z<|NSR<|Q<|zaC (vs:=zap _ _ _ _ _ _ _ _) zaA Z Z Z (zab (n:=8) (V.objL Q0) _ Z)<|Q (zaf zlh zsC (.c (v:=zam _ _ _ _ _ _ _ _) Z (h:=.nil)) ?_)
 refine MI Z<|Q<|zaK (v1:=zam _ _ _ _ _ _ _ _) (v2:=.int .i64 _) zsQ Z Z Z<|Ret.det (zhZ (za5 op) (zeQ op) i h1 _) V fun w V=>AC Z<|G<|zag func131 Z (TP (v:=.int .u8 _) Z) ?_
 exact ⟨Z,V.pure⟩
end Go.SK
