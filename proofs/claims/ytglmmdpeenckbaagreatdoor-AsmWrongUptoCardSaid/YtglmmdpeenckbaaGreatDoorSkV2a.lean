/-
  Steps of functions,plain law,and walks of functions: what the laws rest on.
-/
import Derived.Test.YtglmmdpeenckbaaGreatDoorSkV0e
set_option linter.unusedVariables false
set_option linter.unusedSimpArgs false
set_option linter.unusedSectionVars false
namespace Go.SK
open Go.RowKit Go.ChangeShapes Go.WideShapes Go.ChangeAt
theorem cell_int {P:Program} {w:World} {r:Reach} {base:Nat} {u:TypeId} {v:Value} {k:IntKind} (h:Cell.okWide P w r base u v) (hu:P.underlying u = some (.int k)):∃ n,v = .int k n ∧ k.has n:=by
  simp only [Cell.okWide,hu] at h
  cases v <;> simp [Cell.ok,hu] at h
  obtain ⟨rfl,h⟩:=h
  exact ⟨_,rfl,h⟩
theorem val_cell {P:Program} {w:World} {r:Reach} {base:Nat} {u:TypeId} {v:Value} {d:TypeDesc} (h:Value.okWide P w r base u v) (hu:P.underlying u = some d) (hd:zoz d = false):Cell.okWide P w r base u v:=by
  simp only [Value.okWide,hu] at h
  cases d <;> simp [zoz] at hd <;> exact h
theorem has_i64 {n:Int} (h:IntKind.i64.has n):-9223372036854775808 ≤ n ∧ n ≤ 9223372036854775807:=by
  simpa [IntKind.has,IntKind.min,IntKind.max,IntKind.signed,IntKind.bits] using h
theorem idE_ne {n Y:Int}:idE n Y ≠ 0 ↔ (n = 0 ∨ n ≥ Y):=by unfold idE; split <;> simp_all
end Go.SK
namespace Go.SK
def hedW:Tx:=[109,111,100,117,108,101,32,48,32,54,53,53,51,54]
def nowL:Tx:=[79,112,78,111,116,104,105,110,103,32,37,49]
theorem hedW_head:zch hedW = ((0,65536),(0,0)) ∧ (zbf hedW).1.length = 3 ∧ hedW.all zlA = true:=by decide +kernel
theorem nowL_line:zaV nowL 65536 = (zeroIL,false,(71,0)) ∧ nowL.all zlA = true:=by decide +kernel
theorem zoK {c bd b2:Int} {a:ArgP} (h:zbl c a bd = 0) (hb:bd ≤ b2):zbl c a b2 = 0:=by
  unfold zbl at h ⊢
  split at h
  · cases h
  rename_i h1
  rw [if_neg h1]
  split at h
  · cases h
  rename_i h2
  rw [if_neg h2]
  split at h
  · cases h
  rename_i h3
  split at h
  · cases h
  rename_i h4
  rw [if_neg (fun q=>h3 ⟨q.1,idE_ne.2 ((idE_ne.1 q.2).imp id (fun q=>by omega))⟩),if_neg h4]
  exact h
theorem zjE {fm:FormL} {bd b2:Int} (hb:bd ≤ b2):∀ (l:List ArgP) (k:Nat),zbq fm bd k l = 0 → zbq fm b2 k l = 0
  | [],_,_=>rfl
  | a :: r, k, h => by
    unfold zbq at h ⊢
    split at h
    · rename_i h1; exact absurd h h1
    rename_i h1
    rw [if_neg (fun q=>q (zoK (Nn h1) hb))]
    exact zjE hb r (k + 1) h
theorem zsI {m:Bool} {n e bd b2:Int} (h:idH m n bd e = 0) (he:e ≠ 0) (hb:bd ≤ b2):idH m n b2 e = 0:=by
  unfold idH at h ⊢
  split at h
  · exact absurd h he
  rename_i h1
  rw [if_neg h1]
  split at h
  · cases h
  rename_i h2
  rw [if_neg (fun q=>h2 ⟨q.1,by omega⟩)]
theorem zrT {bd b2:Int} {i:InstL} (h:zbg bd i = 0) (hb:bd ≤ b2):zbg b2 i = 0:=by
  obtain ⟨h1,h2,h3,h4,h5,h6⟩:=zdT h
  unfold zbg
  rw [if_neg (by rw [h1]; simp),if_neg (fun q=>q (zsI h2 (by decide) hb)),if_neg (fun q=>q (zsI h3 (by decide) hb)),if_neg (fun q=>q (zjE hb _ _ h4)),if_neg h5,if_neg h6]
section
variable {gn bd b2:Int}
theorem zsF (hb:bd ≤ b2) (rest:Tx):∀ (l:List InstL) (n w k:Nat) (m:List InstL),0 < w → (zbY bd w k l).1 = 0 → (∀ i ∈ l,i.U32) → ∃ w',0 < w' ∧ zd1 n (lnF (za0 l ++ rest)) ⟨gn,b2,w,m⟩ = zd1 (n + l.length) (lnF rest) ⟨gn,b2,w',m ++ l⟩
  | [],n,w,k,m,hw,_,_=>⟨w,hw,by rw [List.append_nil]; rfl⟩
  | i :: l, n, w, k, m, hw, hs, hu => by
    unfold zbY at hs
    split at hs
    · rename_i h; exact absurd hs h
    rename_i hf
    split at hs
    · cases hs
    rename_i hr
    have hf0:=Nn hf
    have hl:=zoE (zrT hf0 hb) (hu i (.head _))
    have e:za0 (i :: l) ++ rest = wtF i ++ 10 :: (za0 l ++ rest):=by
      unfold za0; rw [List.flatMap_cons]; simp
    have V:zgm (wtF i) ⟨gn,b2,w,m⟩ = .ok ⟨gn,b2,w + zbD (za5 i.op) i.args,m ++ [i]⟩:=by
      unfold zgm
      dsimp only
      rw [if_neg (by omega),hl]
      dsimp only
      rw [if_neg (by simp),if_neg (by simp),if_neg hr]
    obtain ⟨w',h1,h2⟩:=zsF hb rest l (n + 1) (w + zbD (za5 i.op) i.args) (k + 1) (m ++ [i]) O hs (fun j hj=>hu j (.tail _ hj))
    refine ⟨w',h1,?_⟩
    rw [e,zcX (zma hf0 (hu i (.head _))),zd1,V]
    dsimp only
    rw [h2,List.append_assoc,List.length_cons,Nat.add_assoc,Nat.add_comm 1]; rfl
theorem zit (l2:List InstL):∀ (l:List InstL) (n k:Nat),(zbY bd n k (l ++ l2)).1 = 0 → (zbY bd n k l).1 = 0
  | [],n,k,_=>rfl
  | i :: l, n, k, h => by
    rw [List.cons_append] at h
    unfold zbY at h ⊢
    split at h
    · rename_i q; exact absurd h q
    rename_i h1
    rw [if_neg h1]
    split at h
    · cases h
    rename_i h2
    rw [if_neg h2]
    exact zit l2 l _ _ h
theorem zng {l:List InstL} {a:Nat} (hs:(zbG bd l).1 = 0) (hu:∀ i ∈ l,i.U32) (ha:a ≤ l.length) (ht:(hedW ++ 10 :: (za0 (l.take a) ++ (nowL ++ 10 :: za0 (l.drop a)))).length ≤ 16777216) :
    zda (hedW ++ 10 :: (za0 (l.take a) ++ (nowL ++ 10 :: za0 (l.drop a)))) = zgR 71 ((a:Int) + 2):=by
  have hb:bd ≤ 65536 ∧ (zbY bd 5 0 l).1 = 0:=by
    unfold zbG at hs
    split at hs
    · cases hs
    · exact ⟨by omega,hs⟩
  have hsa:(zbY bd 5 0 (l.take a)).1 = 0:=zit (l.drop a) _ _ _ (by rw [List.take_append_drop]; exact hb.2)
  unfold zda
  rw [if_neg (by omega),zcX hedW_head.2.2,zd1]
  have V:zgm hedW ⟨0,0,0,[]⟩ = .ok ⟨0,65536,5,[]⟩:=by
    unfold zgm
    rw [if_pos rfl,if_neg (by rw [hedW_head.2.1]; simp),hedW_head.1,if_neg (by simp)]
  rw [V]
  dsimp only
  obtain ⟨w',h1,h2⟩:=zsF (gn:=0) hb.1 (nowL ++ 10 :: za0 (l.drop a)) (l.take a) (0 + 1) 5 0 [] O hsa (fun i hi=>hu i (List.mem_of_mem_take hi))
  rw [h2,zcX nowL_line.2,zd1]
  have hbad:zgm nowL ⟨0,65536,w',[] ++ l.take a⟩ = .error 71:=by
    unfold zgm
    dsimp only
    rw [if_neg (by omega),nowL_line.1,if_pos (by simp)]
  rw [hbad]
  dsimp only
  rw [List.length_take,Nat.min_eq_left ha]
  congr 1; omega
end
open Go.RowKit
theorem zlF (l:List InstL) (k:Nat):(za0 (l.drop k)).length ≤ (za0 l).length:=by
  have h:za0 l = za0 (l.take k) ++ za0 (l.drop k):=by rw [← zeV,List.take_append_drop]
  rw [h,List.length_append]; omega
section
variable {l:List InstL} {a k:Nat}
def wrN (l:List InstL) (a:Nat):Tx:=hedW ++ 10 :: (za0 (l.take a) ++ (nowL ++ 10 :: za0 (l.drop a)))
def wrJ (l:List InstL) (a k:Nat):Tx:=if k ≤ a then hedW ++ 10 :: za0 (l.take k) else hedW ++ 10 :: (za0 (l.take a) ++ (nowL ++ 10 :: za0 ((l.take k).drop a)))
def wrM (l:List InstL) (a k:Nat):Tx:=if k = a then wrJ l a k ++ (nowL ++ [10]) else wrJ l a k
theorem zoQ:wrJ l a 0 = hedW ++ [10]:=by unfold wrJ; rw [if_pos (Nat.zero_le _)]; rfl
theorem zs9 (h:k = a):wrJ l a k ++ (nowL ++ [10]) = wrM l a k:=by unfold wrM; rw [if_pos h]
theorem wrM_no (h:¬ k = a):wrJ l a k = wrM l a k:=by unfold wrM; rw [if_neg h]
theorem zq3 {y:InstL} (hk:l[k]? = some y):(wrM l a k ++ wtF y) ++ [10] = wrJ l a (k + 1):=by
  have hkl:k < l.length:=(List.getElem?_eq_some_iff.1 hk).1
  unfold wrM
  split
  · rename_i h; subst h
    unfold wrJ
    rw [if_pos (Nat.le_refl _),if_neg (by omega)]
    have e:(l.take (k + 1)).drop k = [y]:=by
      rw [List.take_add_one,hk,List.drop_append_of_le_length (by rw [List.length_take]; omega),List.drop_eq_nil_of_le (by rw [List.length_take]; omega)]; rfl
    rw [e,zd4,zdL]; simp
  · rename_i h
    unfold wrJ
    by_cases hka:k ≤ a
    · rw [if_pos hka,if_pos (by omega),zfl hk]; simp
    · rw [if_neg hka, if_neg (by omega)]
      have e:(l.take (k + 1)).drop a = (l.take k).drop a ++ [y]:=by
        rw [List.take_add_one,hk,List.drop_append_of_le_length (by rw [List.length_take]; omega)]; rfl
      rw [e,zeV,zd4,zdL]; simp
theorem zs8 (h:a = l.length):wrJ l a l.length ++ (nowL ++ [10]) = wrN l a:=by
  unfold wrJ wrN
  subst h
  rw [if_pos (Nat.le_refl _),List.drop_length,zdL]; simp
theorem wrN_no (ha:a ≤ l.length) (h:¬ a = l.length):wrJ l a l.length = wrN l a:=by
  unfold wrJ wrN
  rw [if_neg (by omega),List.take_length]
theorem zoR {n:Nat} (hl:(za0 l).length ≤ n):(wrJ l a k).length ≤ 2 * n + 40:=by
  have h1:=zd3 l k
  have h2:=zd3 l a
  have h3:=zlF (l.take k) a
  have h4:hedW.length = 14:=rfl
  have h5:nowL.length ≤ 20:=by decide
  unfold wrJ
  split <;> simp only [List.length_append,List.length_cons] <;> omega
theorem zta {n:Nat} (hl:(za0 l).length ≤ n):(wrM l a k).length ≤ 2 * n + 70:=by
  have h1:=zoR (a:=a) (k:=k) hl
  have h5:nowL.length ≤ 20:=by decide
  unfold wrM
  split
  · simp only [List.length_append,List.length_cons,List.length_nil]; omega
  · omega
end
theorem zlc {bd a:Int} {l:List InstP} (hs:(zbG bd (l.map InstP.L)).1 = 0) (hu:∀ x ∈ l,x.L.U32) (h0:0 ≤ a) (ha:a ≤ l.length) (ht:(wrN (l.map InstP.L) a.toNat).length ≤ 16777216) :
    zda (wrN (l.map InstP.L) a.toNat) = ((0,0,[]),(71,a + 2)):=by
  have h:=zng hs (zsG hu) (a:=a.toNat) (by rw [List.length_map]; omega) ht
  rw [Int.toNat_of_nonneg h0] at h
  exact h
end Go.SK
namespace Go.SK
open Go Go.Proofs Go.Proofs.Tryz
theorem ent18:zaJ prog 18:=⟨f18,_,func18,Kr,rfl⟩
open Go.RowKit
theorem zn9 (gn bd:Int) (n:Nat) (ao:Option Addr) (cp:Nat) (w:World):Ret prog 18 #[.agg #[.int .u32 gn,.int .u32 bd,.slice ao n cp]] w (fun v w'=>v = .bool (decide (gn = 0 ∧ bd = 0 ∧ n = 0)) ∧ St w NoM [] [] w'):=by
 refine zax (args:=[.agg #[.int .u32 gn,.int .u32 bd,.slice ao n cp]]) func18 Z Z Z ?_
 have V:=St.init w
 refine SR<|Q<|zbn (v:=zex _ _ _ _ _) V Z Z fun w b1 V=>AB Z<|NSR<|Q<|zac zfq Z<|Q<|zae (v:=.int .u32 _) zbM Z Z (V.cellL Q0 Z)<|Q<|zai Z Z<|MB Z<|zaz (d:=6) Z (fun g1=>?_) (fun g1=>?_)
 ·refine TK (t := 6) Z (Vb (Dt g1)) <| zac zcU Z <| TK (t := 6) Z (Vb (Dt g1)) <| zae (v := .int .u32 _) zbM Z Z (V.cellL Q0 Z) <| TK (t := 6) Z (Vb (Dt g1)) <| zai Z Z <| Q <| zaE (u := .bool _) (Vb (Dt g1)) Z <| MB Z <| zaz (d := 11) Z (fun g2 => ?_) (fun g2 => ?_)
  ·refine TK (t := 11) Z (Vb (Dt g2)) <| zac zbR Z <| TK (t := 11) Z (Vb (Dt g2)) <| zae (v := .slice _ _ _) zdD Z Z (V.cellL Q0 Z) <| TK (t := 11) Z (Vb (Dt g2)) <| zaQ (rest := []) zdD Z <| TK (t := 11) Z (Vb (Dt g2)) <| zai Z Z <| Q <| zaE (u := .bool _) (Vb (Dt g2)) Z <| AB Z <| G <| zag func18 Z (TP (v := .bool _) Z) ?_
   exact ⟨Vb (by first | (simp; done) | (simp; omega) | simp_all),V.pure⟩
  refine OM (t:=11) Z (Vb (Df g2)) Z<|OM (t:=11) Z (Vb (Df g2)) Z<|OM (t:=11) Z (Vb (Df g2)) Z<|OM (t:=11) Z (Vb (Df g2)) Z<|Q<|zay (u:=.bool _) (Vb (Df g2)) Z<|AB Z<|G<|zag func18 Z (TP (v:=.bool _) Z) ?_
  exact ⟨Vb (by first | (simp; done) | (simp; omega) | simp_all),V.pure⟩
 refine OM (t:=6) Z (Vb (Df g1)) Z<|OM (t:=6) Z (Vb (Df g1)) Z<|OM (t:=6) Z (Vb (Df g1)) Z<|Q<|zay (u:=.bool _) (Vb (Df g1)) Z<|MB Z<|OM (t:=11) Z (Vb (Z:false = _)) Z<|OM (t:=11) Z (Vb (Z:false = _)) Z<|OM (t:=11) Z (Vb (Z:false = _)) Z<|OM (t:=11) Z (Vb (Z:false = _)) Z<|Q<|zay (u:=.bool _) (Vb (Z:false = _)) Z<|AB Z<|G<|zag func18 Z (TP (v:=.bool _) Z) ?_
 exact ⟨Vb (by first | (simp; done) | (simp; omega) | simp_all),V.pure⟩
theorem zqV (gn bd:Int) (l:List InstP) (ao:Option Addr) (cp:Nat) (a:Int) (w:World) (hG:LxG.holds w) (hA0:(Res.rmod ao l).holds w) (hs:Small l) (hu:∀ x ∈ l,x.L.U32) (hgn:0 ≤ gn ∧ gn < 4294967296) (hbd:0 ≤ bd ∧ bd < 4294967296):Ret prog 13 #[.agg #[.int .u32 gn,.int .u32 bd,.slice ao l.length cp],.int .i64 a] w (fun v w'=>v = .bool true ∧ St w NoM [] [] w'):=by
 refine zax (args:=[.agg #[.int .u32 gn,.int .u32 bd,.slice ao l.length cp],.int .i64 a]) func13 Z Z Z ?_
 have V:St w NoM [] [LxG,Res.rmod ao l] w:=St.init_Ds (by simp only [List.forall_mem_cons]; exact ⟨hG,hA0,fun _ h=>absurd h List.not_mem_nil⟩)
 obtain ⟨se,sa,hS⟩:∃ se sa,zbG bd (l.map InstP.L) = (se,sa):=⟨_,_,rfl⟩
 have hln:=hs.len
 refine SR<|Q<|zbn (v:=zex _ _ _ _ _) V Z Z fun w b2 V=>AB Z<|G<|SQ<|SR<|Q<|zaC (vs:=zmF _ _ _ _ _) zem Z Z Z (zab (n:=3) (V.objL Q0) _ Z)<|Q (zav (v1:=zex _ _ _ _ _) ent20 Z Z ((zeE _ _ l _ _ _ (V.hD _ Q1) hs.lenC hs.laC).mono fun v w hp=>?_))
 obtain ⟨bM1,dM1,rfl,hdM1,hp⟩:=hp
 replace V:St _ _ (_ :: _) _ _:=V.call0 hp
 refine Q<|zav (v1:=zex _ _ _ _ _) ent19 rfl rfl<|Ret.det (zhY (se:=se) (sa:=sa) (by rw [hdM1]; exact hS) _ _ _ (Res.rmod_of_omod (V.hL _ Q0)) (Small.of hdM1 hs)) V fun w V=>Q<|ziQ (v:=.int .i64 _) underlying28 rfl rfl (PartOk.one zhj rfl rfl)<|Q<|za8 rfl rfl<|MB rfl<|zaz (d:=14) rfl (fun g1=>?_) (fun g1=>?_)
 ·refine OM (t := 14) Z (Vb (Dt g1)) Z <| OM (t := 14) Z (Vb (Dt g1)) Z <| Q <| zaE (u := .bool _) (Vb (Dt g1)) Z <| MB Z <| OM (t := 18) Z (Vb (Z : true = _)) Z <| OM (t := 18) Z (Vb (Z : true = _)) Z <| OM (t := 18) Z (Vb (Z : true = _)) Z <| OM (t := 18) Z (Vb (Z : true = _)) Z <| OM (t := 18) Z (Vb (Z : true = _)) Z <| Q <| zaE (u := .bool _) (Vb (Z : true = _)) Z <| G <| zat (Vb (Z : true = _)) <| SR <| AB Z ?_
  refine G<|zag func13 Z (TP (v:=.bool _) Z) ?_
  first | exact ⟨rfl,V.pure⟩ | exact ⟨Vb (by simp),V.pure⟩
 refine TK (t:=14) Z (Vb (Df g1))<|zad (v:=.int .i64 _) Z<|TK (t:=14) Z (Vb (Df g1))<|zaY Z Z<|Q<|zay (u:=.bool _) (Vb (Df g1)) Z<|MB Z<|zaz (d:=18) Z (fun g2=>?_) (fun g2=>?_)
 ·refine OM (t := 18) Z (Vb (Dt g2)) Z <| OM (t := 18) Z (Vb (Dt g2)) Z <| OM (t := 18) Z (Vb (Dt g2)) Z <| OM (t := 18) Z (Vb (Dt g2)) Z <| OM (t := 18) Z (Vb (Dt g2)) Z <| Q <| zaE (u := .bool _) (Vb (Dt g2)) Z <| G <| zat (Vb (Z : true = _)) <| SR <| AB Z <| G <| zag func13 Z (TP (v := .bool _) Z) ?_
  first | exact ⟨rfl,V.pure⟩ | exact ⟨Vb (by simp),V.pure⟩
 refine TK (t:=18) Z (Vb (Df g2))<|zad (v:=.int .i64 _) Z<|TK (t:=18) Z (Vb (Df g2))<|zac zbR Z<|TK (t:=18) Z (Vb (Df g2))<|zae (v:=.slice _ _ _) zdD Z Z (V.cellL Q1 Z)<|TK (t:=18) Z (Vb (Df g2))<|zaQ (rest:=[]) zdD Z<|TK (t:=18) Z (Vb (Df g2))<|zbW Z Z<|Q<|zay (u:=.bool _) (Vb (Df g2)) Z<|G<|zaa Z (fun g3=>?_) (fun g3=>?_)
 ·refine SR <| AB Z <| G <| zag func13 Z (TP (v := .bool _) Z) ?_
  first | exact ⟨rfl,V.pure⟩ | exact ⟨Vb (by simp),V.pure⟩
 have hse:se = 0:=Nn g1
 have hs0:(zbG bd (l.map InstP.L)).1 = 0:=by rw [hS]; exact hse
 have ha0:0 ≤ a:=by omega
 have ha1:a ≤ l.length:=by omega
 have hjl:=fun k=>zoR (a:=a.toNat) (k:=k) (zdM hs0 (zsG hu))
 have hml:=fun k=>zta (a:=a.toNat) (k:=k) (zdM hs0 (zsG hu))
 refine zaj<|SR<|AS rfl<|G<|zal [(1,.int .i64 _),(2,Pp _ _),(5,str _)] E3 fun f=>SQ<|SR<|AI rfl<|G<|zau<|zba<|za7 [(1,.int .i64 _),(2,Pp _ _)] E2 (fun (qq:Nat)=>[(5,str (wrJ (l.map InstP.L) a.toNat qq)),(6,.int .i64 (qq:Int))]) (fun (qq:Nat)=>[]) (fun (qq:Nat)=>qq ≤ l.length) (fun (qq:Nat)=>l.length - qq) (0) V (Nat.zero_le _) ⟨(by rw [zoQ]; rfl),rfl,trivial⟩ ?_
 intro i f w V hJ ih4
 replace V:St _ _ ([] ++ [_,_]) _ _:=V
 replace hJ:i ≤ l.length:=hJ
 refine zbj (sl:=[(5,str (wrJ (l.map InstP.L) a.toNat i)),(6,.int .i64 (i:Int))]) E2<|SQ<|SR<|MI Z<|Q<|zac zbR Z<|Q<|zae (v:=.slice _ _ _) zdD Z Z (V.cellL Q1 Z)<|Q<|zaQ (rest:=[]) zdD Z<|Q<|zaY Z Z<|G<|zaa Z (fun g5=>?_) (fun g5=>?_)
 ·have hi : i < l.length := by omega
  have hym:(l.getD i zeroI) ∈ l:=zci hi
  have hyu:=hu _ hym
  have hyo:=hs.op _ hym
  have hys:=hs.sum _ hym
  have hyt:=hs.txt _ hym
  obtain ⟨hyg,hye,hyl⟩:=zmE hs0 hu hi
  have hll:(wtI (l.getD ((i:Int).toNat) zeroI).L).length = (wtI (l.getD i zeroI).L).length:=rfl
  have hj0:=hjl i
  have hj1:=hml i
  refine zaj<|SQ<|zau<|SQ<|zec (L1:=[]) [(1,.int .i64 _),(2,Pp _ _),(6,.int .i64 _)] V E3 (fun (_u:Unit)=>[(5,str (wrM (l.map InstP.L) a.toNat i))]) (fun (_u:Unit)=>[]) (fun (_u:Unit)=>True) (fun _u f w V hJ7=>?_) (fun cut6=>?_)
  ·refine RG <| MS rfl <| Q <| zac zbR rfl <| Q <| zae (v := .slice _ _ _) zdD rfl rfl (V.cellL Q1 rfl) <| MI rfl <| Q <| zbe zdD zbB (Res.rmod_insts (V.hD _ Q1)) rfl rfl (by omega) (by omega) <| Q <| zaC (vs := zbA _ _ _ _ _ _) zbB rfl rfl rfl (Res.rs2_cells (m := 4) (Res.rmod_insts (V.hD _ Q1)) _ (zbQ (g := zdP) (d := zeroI) zcP _ _ (by omega))) <| Q <| zav (v1 := zbt _ _ _ _ _ _) ent43 rfl rfl <| Ret.det (zgO (l.getD ((i : Int).toNat) zeroI) _ (Res.rmod_argsI (V.hD _ Q1) hi) hyu hyo hys hyt) V fun w V => Q <| za2 rfl rfl (by first | omega | (simp only [List.length_cons, List.length_nil, List.length_append]; omega) | (simp; omega)) <| Q <| za2 rfl rfl (by first | omega | (simp only [List.length_cons, List.length_nil, List.length_append]; omega) | (simp; omega)) <| AS rfl <| G <| zan <| RG <| MI rfl ?_
   refine Q<|zaD Z Z Z zbS<|AI Z<|G<|zaG ?_
   exact ih4 (i + 1) _ w (O) V (O) E2 ⟨(congrArg str ((congrArg (fun t=>((wrM (l.map InstP.L) a.toNat i) ++ t) ++ [10]) hye).trans (zq3 hyg))),(Vi O),trivial⟩
  ·refine SR <| MI Z <| MI Z <| Q <| zai Z Z <| G <| zaa Z (fun g9 => ?_) (fun g9 => ?_)
   ·refine RG <| MS rfl <| Q <| za2 rfl rfl (by first | omega | (simp only [List.length_cons, List.length_nil, List.length_append]; omega) | (simp; omega)) <| AS rfl <| G ?_
    exact cut6 (()) _ w (V) (trivial) E3 ⟨(by rw [← zs9 (l:=(l.map InstP.L)) (a:=a.toNat) (k:=i) (by omega)]; rfl),trivial⟩
   refine zaj ?_
   exact cut6 (()) _ w (V) (trivial) E3 ⟨(by rw [← wrM_no (l:=(l.map InstP.L)) (a:=a.toNat) (k:=i) (by omega)]; rfl),trivial⟩
 have hi:i = l.length:=by omega
 have hj0:=hjl i
 refine zaU (id:=0) Z<|SQ<|zec (L1:=[]) [(1,.int .i64 _)] V ⟨Z,trivial⟩ (fun (_u:Unit)=>[(5,str (wrN (l.map InstP.L) a.toNat))]) (fun (_u:Unit)=>[]) (fun (_u:Unit)=>True) (fun _u f w V hJ11=>?_) (fun cut10=>?_)
 ·refine SQ <| SR <| MS Z <| Q <| zaX (rest := []) ty9 Z <| Q <| zbW Z Z <| G <| zaa Z (fun g13 => ?_) (fun g13 => ?_)
  ·refine SR <| AB Z <| G <| zag func13 Z (TP (v := .bool _) Z) ?_
   first | exact ⟨rfl,V.pure⟩ | exact ⟨Vb (by simp),V.pure⟩
  have hpx:=zlc hs0 hu ha0 ha1 O
  refine zaj<|SR<|MS Z<|Q (zav (v1:=str _) ztO Z Z ((zfs hpx _ (V.hD _ Q0) O).mono fun v w hp=>?_))
  obtain ⟨aO3,cO3,dO3,hdO3,rfl,hsO3,hp⟩:=hp
  replace V:St _ _ (_ :: _) _ _:=V.call0 hp
  refine Q<|zad (v:=.tuple #[zex _ _ _ _ _,gII _ _]) Z<|Q<|Ex (zex _ _ _ _ _) Z Z<|Q<|Ex (gII _ _) Z Z<|Q<|zaw V zem fun w b7 V=>Q<|zaw V zbr fun w b8 V=>Q (SO (v:=zex _ _ _ _ _) V zem Z Z .u1 fun w V=>?_)
  refine Q (SO (v:=gII _ _) V zbr Z Z .u0 fun w V=>?_)
  refine NSR<|Q<|zaC (vs:=zmF _ _ _ _ _) zem rfl rfl rfl (zab (n:=3) (V.objL Q1) _ rfl)<|Q<|zav (v1:=zex _ _ _ _ _) ent18 rfl rfl<|zm6 (zn9 0 0 dO3.length _ _ _) (Vb (Dt ⟨rfl,rfl,by simpa using congrArg List.length hdO3⟩)) V fun w V=>MB rfl<|TK (t:=63) rfl (Vb (rfl:true = _))<|zaC (vs:=lII _ _) zbr rfl rfl rfl (zab (n:=2) (V.objL Q0) _ rfl)<|TK (t:=63) rfl (Vb (rfl:true = _))<|zad (v:=.int .i64 _) rfl<|TK (t:=63) rfl (Vb (rfl:true = _))<|zaD rfl rfl rfl zbS<|TK (t:=63) rfl (Vb (rfl:true = _)) (zaf zbr zc7 (.c (v:=.int .i64 _) rfl (h:=(.c (v:=.int .i64 _) rfl (h:=.nil)))) ?_)
  refine TK (t:=63) Z (Vb (Z:true = _))<|znd (xs:=(lII _ _)) (ys:=(lII _ _)) Z Z Kr (zfv underlying28 Kr (.cons De (PartOk.one zhj Z Z) (PartOk.one zhj Z Z) (ze5 zhj) (.cons De (PartOk.one ty3 Z Z) (PartOk.one ty3 Z Z) (ze5 ty3) .nil)))<|Q<|zaE (u:=.bool _) (Vb (Z:true = _)) Z<|AB Z<|G<|zag func13 Z (TP (v:=.bool _) Z) ?_
  first | exact ⟨rfl,V.pure⟩ | exact ⟨Vb (by simp),V.pure⟩
 ·refine SR <| MI Z <| Q <| zac zbR Z <| Q <| zae (v := .slice _ _ _) zdD Z Z (V.cellL Q1 Z) <| Q <| zaQ (rest := []) zdD Z <| Q <| zai Z Z <| G <| zaa Z (fun g14 => ?_) (fun g14 => ?_)
  ·refine RG <| MS rfl <| Q <| za2 rfl rfl (by first | omega | (simp only [List.length_cons, List.length_nil, List.length_append]; omega) | (simp; omega)) <| AS rfl <| G ?_
   exact cut10 (()) _ w (V) (trivial) ⟨rfl,trivial⟩ ⟨(by rw [← zs8 (l:=(l.map InstP.L)) (a:=a.toNat) (by rw [List.length_map]; omega),List.length_map,← hi]; rfl),trivial⟩
  refine zaj ?_
  exact cut10 (()) _ w (V) (trivial) ⟨rfl,trivial⟩ ⟨(by rw [← wrN_no (l:=(l.map InstP.L)) (a:=a.toNat) (by rw [List.length_map]; omega) (by rw [List.length_map]; omega),List.length_map,← hi]; rfl),trivial⟩
end Go.SK
