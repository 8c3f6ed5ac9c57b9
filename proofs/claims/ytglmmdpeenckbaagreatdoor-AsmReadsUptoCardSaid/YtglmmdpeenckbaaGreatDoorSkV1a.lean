/-
  Steps of functions,plain law,and walks of functions: what the laws rest on.
-/
import Derived.Test.YtglmmdpeenckbaaGreatDoorSkV0e
set_option linter.unusedVariables false
set_option linter.unusedSimpArgs false
set_option linter.unusedSectionVars false
namespace Go.SK
open Go.RowKit
theorem EqOk.str {P:Program} {T:TypeId} {sz bytes:Nat} {zs:List Value} {a b:List UInt8} (hT:TyF P T .string sz bytes zs):EqOk P 1 T (str a) (str b) (decide (a = b)):=fun d w=>by
  rw [Op.equalIn]
  simp only [Sem.run_bind,hT.run_und,Result.andThen,SK.str]
  have:((⟨a.toArray⟩:ByteArray) == ⟨b.toArray⟩) = decide (a = b):=by
    show (a.toArray == b.toArray) = decide (a = b)
    by_cases h:a = b <;> simp [h]
  simp [this]
section
variable {P:Program} {ty:TypeId} {ρ:Operand → Value} {w:World} {C:Value → World → Prop} {T T2:TypeId} {x y:Operand} {k:Nat} {xs ys:List Value} {b:Bool}
theorem zss (hx:ρ x = .agg xs.toArray) (hy:ρ y = .agg ys.toArray) (hg:P.eqGuardType P.depth T = false) (h:EqOk P k T (.agg xs.toArray) (.agg ys.toArray) b) (hc:C (.bool (!b)) w) (hk:Nat.ble k 10000 = true:=by rfl):Op1 P (.binOp .neq T x y T2) ty ρ w C:=by
  refine zb5 (v:=.bool (!b)) (w':=w) ?_ hc
  have hp:(program:Sem Program).run P w = .ok P w:=rfl
  simp only [execOp,hx,hy,eqGuard,binOp]
  simp [Sem.run_bind,hp,hg,Result.andThen,zkz h hk]
end
open Go.ChangeShapes Go.WideShapes Go.ChangeAt
theorem ztk {P:Program} {w:World} {r:Reach} {base:Nat} {t e:TypeId} {v:Value} (h:Value.okWide P w r base t v) (hu:P.underlying t = some (.slice e)):v.cells.toList = [v]:=by
  simp only [Value.okWide,hu,Cell.okWide,Cell.ok] at h
  cases v <;> first | rfl | (simp at h)
theorem InstP.L_eq {i j:InstP}:i.L = j.L ↔ i.op = j.op ∧ i.ty = j.ty ∧ i.res = j.res ∧ i.args = j.args:=by
  simp [InstP.L]
theorem zpH {l m:List InstP} (hl:l.length = m.length) (h:∀ j,j < l.length → (l.getD j zeroI).L = (m.getD j zeroI).L):l.map InstP.L = m.map InstP.L:=by
  refine zcK zeroI.L (by simpa using hl) fun j hj=>?_
  simp only [List.length_map] at hj
  rw [zdJ _ _ hj,zdJ _ _ (by omega)]
  exact h j hj
theorem znU {l m:List InstP} (h:l.map InstP.L = m.map InstP.L) {j:Nat} (hj:j < l.length):(l.getD j zeroI).L = (m.getD j zeroI).L:=by
  have hl:l.length = m.length:=by simpa using congrArg List.length h
  have:(l.map InstP.L).getD j zeroI.L = (m.map InstP.L).getD j zeroI.L:=by rw [h]
  rwa [zdJ _ _ hj,zdJ _ _ (by omega)] at this
theorem zmk {p:Nat → Prop} {i:Nat} (h:∀ j,j < i → p j) (hi:p i):∀ j,j < i + 1 → p j:=fun j hj=>by
  by_cases e:j = i
  · rw [e]; exact hi
  · exact h j O
theorem zsZ {a b:ArgP}:[decide (a.kind = b.kind),decide (a.n = b.n),decide (a.s = b.s)].all id = decide (a = b):=by
  cases a; cases b
  simp [ArgP.mk.injEq,Bool.and_assoc]
def sameM (g b:Int) (l:List InstP) (g' b':Int) (l':List InstP):Bool:=decide (g = g' ∧ b = b' ∧ l.map InstP.L = l'.map InstP.L)
theorem znr {g b:Int} {l m:List InstP} (h:l.map InstP.L = m.map InstP.L):sameM g b l g b m = true:=Dt ⟨rfl,rfl,h⟩
end Go.SK
namespace Go.SK
open Go.RowKit
theorem E9 {f:Nat → Value} {t0 t1 t2 t3 t4 t5 t6 t7 t8:Nat}:Slots f [(t0,f t0),(t1,f t1),(t2,f t2),(t3,f t3),(t4,f t4),(t5,f t5),(t6,f t6),(t7,f t7),(t8,f t8)]:=⟨rfl,rfl,rfl,rfl,rfl,rfl,rfl,rfl,rfl,trivial⟩
end Go.SK
namespace Go.SK
def wrR:List TokL → Option Tx
  | []=>some []
  | t :: r=>(wrT t).bind fun a=>(wrR r).map fun b=>32 :: (a ++ b)
def wrF:List TokL → Option Tx
  | []=>some []
  | t :: r=>(wrT t).bind fun a=>(wrR r).map fun b=>a ++ b
open Go.RowKit Go.ChangeShapes Go.WideShapes Go.ChangeAt
section
variable {H:Type} {enc:TypeId × Value → H} {P:Program} {w:World} {base:Nat} {spare:Nat → Bool} {held:Bool} {M I A:TypeId}
theorem open_by {e:TypeId} (he:P.underlying e = some (.int .u8)):∀ fuel cs (y:DataW H × List MemPlace),DataW.trod enc P w base spare held fuel e cs = some y → ∃ a:UInt8,cs = byC a ∧ True ∧ True:=fun fuel cs y h=>by
  obtain ⟨n,rfl,_,hw⟩:=DataW.trod_int he h
  have:=wf_u8 hw
  refine ⟨UInt8.ofNat n.toNat,?_,trivial,trivial⟩
  rw [byC,UInt8.toNat_ofNat',show ((n.toNat % 2 ^ 8:Nat):Int) = n by omega]
end
end Go.SK
namespace Go.SK
theorem zmc:∀ l:List TokL,wrR l = (wrL l).map fun x=>x.flatMap fun a=>32 :: a
  | []=>rfl
  | t :: r => by
    rw [wrR,wrL]
    cases wrT t with
    | none=>rfl
    | some a =>
      simp only [Option.bind_some]
      rw [zmc r]
      cases wrL r with
      | none=>rfl
      | some b=>simp
theorem zq4 (l:List TokL):wrF l = (wrL l).map fun x=>Lib.join x [32]:=by
  cases l with
  | nil=>rfl
  | cons t r =>
    rw [wrF,wrL,zmc]
    cases wrT t with
    | none=>rfl
    | some a =>
      simp only [Option.bind_some]
      cases wrL r with
      | none=>rfl
      | some b =>
        simp only [Option.map_some]; congr 1
        have:∀ (b:List Tx) (a:Tx),a ++ (b.flatMap fun x=>32 :: x) = Lib.join (a :: b) [32]:=fun b=>by
          induction b with
          | nil=>intro a; rw [zet]; simp
          | cons c q ih=>intro a; rw [join_cons,← ih c]; simp
        exact this b a
def wrS (l:List TokL):Tx:=(wrF l).getD []
def wrE (l:List TokL):Int:=if (wrF l).isSome = true then 0 else 2
theorem zoO {l:List TokL} {x:Tx} (h:wrF l = some x):wrS l = x ∧ wrE l = 0:=by unfold wrS wrE; rw [h]; exact ⟨rfl,rfl⟩
theorem zfJ:∀ (l:List TokL) (o:List Tx) (k:Nat),wrL l = some o → (zfK l o k).length = l.length ∧ o.length = l.length
  | [],o,k,h=>by cases h; exact ⟨rfl,rfl⟩
  | t :: r, o, k, h => by
    rw [wrL] at h
    cases ht:wrT t with
    | none=>rw [ht] at h; cases h
    | some x =>
      rw [ht,Option.bind_some] at h
      cases hr:wrL r with
      | none=>rw [hr] at h; cases h
      | some xs =>
        rw [hr] at h; cases h
        have:=zfJ r xs (k + x.length + 1) hr
        exact ⟨by show (zfK r xs _).length + 1 = _; rw [this.1]; rfl,by show xs.length + 1 = _; rw [this.2]; rfl⟩
theorem zjI:∀ (l:List TokL) (o:List Tx) (n k:Nat),wrL l = some o → (Lib.join o [32]).length ≤ n → zbx n (Lib.join o [32]) k = (zfK l o k,(0,0))
  | [], o, n, k, h, _ => by
    cases h
    cases n with
    | zero=>rfl
    | succ n=>rw [zkg,zbx,if_pos (.inl rfl)]; rfl
  | t :: r, o, n, k, h, hn => by
    rw [wrL] at h
    cases ht:wrT t with
    | none=>rw [ht] at h; cases h
    | some x =>
      rw [ht,Option.bind_some] at h
      cases hr:wrL r with
      | none=>rw [hr] at h; cases h
      | some xs =>
        rw [hr] at h; cases h
        cases xs with
        | nil =>
          rw [zet] at hn ⊢
          obtain ⟨h1,h2,h3,h4⟩:=zlf (y:=[]) ht (.inl rfl)
          rw [List.append_nil] at h1
          cases n with
          | zero=>omega
          | succ n =>
            rw [zbx,if_neg (by omega),if_neg h3,h1]
            dsimp only
            rw [List.drop_length]
            have:zbx n [] (k + x.length) = ([],(0,0)):=by cases n <;> rfl
            rw [this,if_pos rfl]
            cases r with
            | nil=>rfl
            | cons t2 r2=>have:=(zfJ _ _ 0 hr).2; cases this
        | cons x2 xs2 =>
          rw [join_cons] at hn ⊢
          obtain ⟨h1,h2,h3,h4⟩:=zlf (y:=32 :: Lib.join (x2 :: xs2) [32]) ht (.inr rfl)
          have e0:(x ++ 32 :: Lib.join (x2 :: xs2) [32]).getD 0 0 = x.getD 0 0:=zfW h2
          rw [List.length_append,List.length_cons] at hn
          cases n with
          | zero=>omega
          | succ n =>
            rw [zbx,e0,if_neg (by rw [List.length_append]; omega),if_neg h3,h1]
            dsimp only
            rw [List.drop_left]
            cases n with
            | zero=>omega
            | succ n =>
              have e2:zbx (n + 1) (32 :: Lib.join (x2 :: xs2) [32]) (k + x.length) = zbx n (Lib.join (x2 :: xs2) [32]) (k + x.length + 1):=by
                rw [zbx,if_neg (show ¬ ((32 :: Lib.join (x2 :: xs2) [32]).length = 0 ∨ ((32 :: Lib.join (x2 :: xs2) [32]).getD 0 0).toNat = 59) from fun q=>q.elim (fun q=>by simp at q) (fun q=>absurd (show (32:UInt8).toNat = 59 from q) (by decide))),if_pos (show zbv ((32 :: Lib.join (x2 :: xs2) [32]).getD 0 0) = true from (show zbv 32 = true by decide))]; rfl
              rw [e2,zjI r (x2 :: xs2) n (k + x.length + 1) hr (by omega),if_pos rfl]; rfl
theorem ziE {l:List TokL} {o:List Tx} (h:wrL l = some o):zbf (Lib.join o [32]) = (zfK l o 0,(0,0)):=zjI l o _ 0 h (Nat.le_refl _)
theorem zte (n:Nat) (z:Tx) (k:Nat):zbx (n + 1) (32 :: z) k = zbx n z (k + 1):=by
  have h1:¬ (((32:UInt8) :: z).length = 0 ∨ (((32:UInt8) :: z).getD 0 0).toNat = 59):=fun q=>q.elim (fun q=>by simp at q) (fun q=>absurd (show (32:UInt8).toNat = 59 from q) (by decide))
  have h2:zbv (((32:UInt8) :: z).getD 0 0) = true:=(show zbv 32 = true by decide)
  rw [zbx,if_neg h1,if_pos h2]; rfl
def ze8 (b:Nat) (r:List TokL × (Int × Int)):List TokL × (Int × Int):=(r.1.map fun t=>⟨t.kind,t.text,t.at_ + b⟩,if r.2.1 = 0 then (0,0) else (r.2.1,r.2.2 + b))
theorem zgj (b:Nat):∀ (n:Nat) (s:Tx) (k:Nat),zbx n s (k + b) = ze8 b (zbx n s k)
  | 0,s,k=>rfl
  | n + 1, s, k => by
    rw [zbx,zbx]
    split
    · rfl
    · split
      · rw [show k + b + 1 = k + 1 + b by omega,zgj b n]
      · cases hp : zeh s with
        | error e =>
          have he:=zi1 hp
          dsimp only
          unfold ze8
          rw [if_neg (by dsimp only; omega)]
          refine Prod.ext rfl (Prod.ext rfl ?_)
          dsimp only; omega
        | ok q =>
          obtain ⟨kd,t,m⟩:=q
          dsimp only
          rw [show k + b + m = k + m + b by omega,zgj b n]
          by_cases hz:(zbx n (s.drop m) (k + m)).2.1 = 0
          · have h1 : (ze8 b (zbx n (s.drop m) (k + m))).2.1 = 0 := by unfold ze8; rw [if_pos hz]
            rw [if_pos hz,if_pos h1]
            unfold ze8
            refine Prod.ext ?_ rfl
            show _ :: _ = _ :: _
            congr 1
          · have h1 : ¬ (ze8 b (zbx n (s.drop m) (k + m))).2.1 = 0 := by unfold ze8; rw [if_neg hz]; exact hz
            rw [if_neg hz,if_neg h1]
            unfold ze8; rw [if_neg hz]; rfl
theorem zjQ (b:Nat) (s:Tx):zbf (List.replicate b 32 ++ s) = ze8 b (zbf s):=by
  have:∀ (b n k:Nat),(List.replicate b (32:UInt8) ++ s).length ≤ n → zbx n (List.replicate b 32 ++ s) k = zbx s.length s (k + b):=fun b=>by
    induction b with
    | zero=>intro n k h; rw [List.replicate_zero,List.nil_append] at h ⊢; exact zeK n s.length s k h (Nat.le_refl _)
    | succ b ih =>
      intro n k h
      cases n with
      | zero=>simp at h
      | succ n =>
        rw [List.replicate_succ,List.cons_append] at h ⊢
        rw [zte]
        rw [ih n (k + 1) (by simpa using h),show k + 1 + b = k + (b + 1) by omega]
  show zbx _ _ 0 = _
  rw [this b _ 0 (Nat.le_refl _),zgj b s.length s 0]; rfl
theorem wrF_of {l:List TokL} {o:List Tx} (h:wrL l = some o):wrF l = some (Lib.join o [32]):=by rw [zq4,h]; rfl
theorem zro:∀ (l:List TokL) (o:List Tx) (k:Nat),wrL l = some o → ktL (zfK l o k) = ktL l:=fun l o k h=>by
  refine List.ext_getElem (by rw [List.length_map,List.length_map,(zfJ l o k h).1]) fun j h1 h2=>?_
  rw [List.length_map] at h1 h2
  have hg:=(zhv l o k j h h2).1
  rw [List.getElem_map,List.getElem_map]
  simp only [List.getD,List.getElem?_eq_getElem h1,List.getElem?_eq_getElem h2,Option.getD_some] at hg
  rw [hg]
theorem zoP {p:UInt8 → Bool} (hp:∀ t x,wrT t = some x → x.all p = true):∀ (l:List TokL) (o:List Tx),wrL l = some o → ∀ x ∈ o,x.all p = true
  | [],o,h,x,hx=>by cases h; cases hx
  | t :: r, o, h, x, hx => by
    unfold wrL at h
    cases ht:wrT t with
    | none=>rw [ht] at h; cases h
    | some a =>
      cases hr:wrL r with
      | none=>rw [ht,hr] at h; cases h
      | some b =>
        rw [ht,hr] at h
        cases h
        rcases List.mem_cons.1 hx with rfl | hx
        · exact hp _ _ ht
        · exact zoP hp r b hr x hx
theorem zpE {l:List TokL} {o:List Tx} (h:wrL l = some o):(Lib.join o [32]).all zlA = true:=zmJ De o (zoP (fun t x=>zoM) l o h)
def hedK (gn bd:Int):List TokL:=[⟨1,modW,0⟩,⟨3,zcT gn,0⟩,⟨3,zcT bd,0⟩]
section
variable {gn bd:Int}
theorem zqb {n:Int} (h0:0 ≤ n) (h1:n < 4294967296):za3 (zcT n) = (n,0):=by
  have hp:=zeS (zdU (u:=n.toNat) O)
  rw [show ((n.toNat:Nat):Int) = n by omega] at hp; exact hp
theorem zpN (hg:0 ≤ gn ∧ gn < 4294967296) (hb:1 ≤ bd ∧ bd ≤ 65536):∃ o,wrL (hedK gn bd) = some o ∧ wrS (hedK gn bd) = Lib.join o [32] ∧ zch (Lib.join o [32]) = ((gn,bd),(0,0)) ∧ (zbf (Lib.join o [32])).1.length = 3:=by
  have ho:wrL (hedK gn bd) = some [modW,zcT gn,zcT bd]:=zbF (zgg De) (zbF (zin hg.1 hg.2 0) (zbF (zin O O 0) rfl))
  refine ⟨_,ho,(zoO (wrF_of ho)).1,?_,?_⟩
  · have hkt := zro _ _ 0 ho
    unfold zch
    rw [ziE ho,if_neg (by simp)]
    obtain ⟨t0,l,hl,k0,x0,hkt⟩:=zdA (k:=1) (x:=modW) (z:=_) hkt
    obtain ⟨t1,l,rfl,k1,x1,hkt⟩:=zdA (k:=3) (x:=zcT gn) (z:=_) hkt
    obtain ⟨t2,l,rfl,k2,x2,hkt⟩:=zdA (k:=3) (x:=zcT bd) (z:=_) hkt
    cases l with
    | cons t r=>cases hkt
    | nil =>
      dsimp only
      rw [hl]
      have e0:([t0,t1,t2].getD 0 zaL) = t0:=rfl
      have e1:([t0,t1,t2].getD 1 zaL) = t1:=rfl
      have e2:([t0,t1,t2].getD 2 zaL) = t2:=rfl
      rw [zih (by rw [e0]; exact k0) (by rw [e0]; exact x0) (by simp),e1,e2,k1,k2,x1,x2,zqb hg.1 hg.2,zqb (n:=bd) (by omega) (by omega),if_neg (by simp),if_neg (by simp),if_neg (by simp),if_neg (by simp),if_neg (by simp),if_neg (by simp; omega),if_neg (by simp)]
  · rw [ziE ho]; exact (zfJ _ _ 0 ho).1
end
def zcN (c:Int):Tx:=if c % 4 = 0 then [59,32,37,49,10] else if c % 4 = 1 then [32,9,10] else if c % 4 = 2 then [32,32] else []
def zrz:List Int → Tx
  | []=>[]
  | q :: _=>zcN q
def zcA:Tx → List Int → Tx
  | [],_=>[]
  | c :: r,ns=>if c.toNat = 10 then c :: (zrz ns ++ zcA r ns.tail) else c :: zcA r ns
theorem zj6 (c:Int):(zcN c).length ≤ 5:=by
  unfold zcN
  split
  · exact Nat.le_refl _
  split
  · show (3:Nat) ≤ 5; decide
  split
  · show (2:Nat) ≤ 5; decide
  · exact Nat.zero_le _
theorem zhA:∀ (t:Tx) (ns:List Int),(zcA t ns).length ≤ t.length + 5 * ns.length
  | [],ns=>by unfold zcA; simp
  | c :: r, ns => by
    unfold zcA
    split
    · have ih := zhA r ns.tail
      rw [List.length_cons,List.length_append,List.length_cons]
      cases ns with
      | nil=>simp only [zrz,List.length_nil,List.tail_nil] at ih ⊢; omega
      | cons q qs=>have:=zj6 q; simp only [zrz,List.length_cons,List.tail_cons] at ih ⊢; omega
    · have ih := zhA r ns
      rw [List.length_cons,List.length_cons]; omega
theorem zgo:∀ {x y:Tx} {ns:List Int},x.all zlA = true → zcA (x ++ 10 :: y) ns = x ++ 10 :: (zrz ns ++ zcA y ns.tail)
  | [],y,ns,_=>by rw [List.nil_append,zcA,if_pos (by decide)]; rfl
  | c :: r, y, ns, h => by
    rw [List.all_cons,Bool.and_eq_true] at h
    rw [List.cons_append,zcA,if_neg (of_decide_eq_true h.1),zgo h.2]; rfl
theorem zkj (n:Int) (bd:Int):zaV [59,32,37,49] bd = (zeroIL,false,(0,0)):=by
  unfold zaV
  rw [show zbf [59,32,37,49] = ([],(0,0)) by decide +kernel]; rfl
theorem ziD (bd:Int):zaV [32,9] bd = (zeroIL,false,(0,0)):=by
  unfold zaV
  rw [show zbf [32,9] = ([],(0,0)) by decide +kernel]; rfl
theorem zrF (bd:Int):zaV [32,32] bd = (zeroIL,false,(0,0)):=by
  unfold zaV
  rw [show zbf [32,32] = ([],(0,0)) by decide +kernel]; rfl
theorem zqX {bd:Int} {i:InstL} (hf:zbg bd i = 0) (hu:i.U32):zaV ([32,32] ++ wtF i) bd = (i,true,(0,0)):=by
  obtain ⟨o,ho,e⟩:=zk8 (Y:=bd) hf hu
  rw [e]
  unfold zaV
  rw [show [32,32] ++ Lib.join o [32] = List.replicate 2 32 ++ Lib.join o [32] from rfl,zjQ,zoB ho]
  unfold ze8
  dsimp only
  rw [if_pos rfl,if_neg (by simp)]
  refine zkd ?_ hf hu
  rw [← zhu (zre i) o 0 (ziT _ _ 0 ho).2]
  unfold ktL
  rw [List.map_map]; rfl
theorem zev {x:Tx} {bd gn:Int} {w:Nat} {m:List InstL} (hw:0 < w) (h:zaV x bd = (zeroIL,false,(0,0))):zgm x ⟨gn,bd,w,m⟩ = .ok ⟨gn,bd,w,m⟩:=by
  unfold zgm
  dsimp only
  rw [if_neg (by omega),h]
  dsimp only
  rw [if_neg (by simp),if_pos rfl]
section
variable {gn bd:Int}
theorem zmA:∀ (l:List InstL) (n w k:Nat) (m:List InstL) (ns:List Int) (pre:Tx),(pre = [] ∨ pre = [32,32]) → 0 < w → (zbY bd w k l).1 = 0 → (∀ i ∈ l,i.U32) → zd1 n (lnF (pre ++ zcA (za0 l) ns)) ⟨gn,bd,w,m⟩ = ((gn,bd,m ++ l),(0,0))
  | [], n, w, k, m, ns, pre, hp, hw, _, _ => by
    have e:zcA (za0 []) ns = []:=rfl
    rw [e,List.append_nil,List.append_nil]
    rcases hp with rfl | rfl
    · rw [zgp (r:=([]:Tx)) rfl,zd1,if_neg (by dsimp only; omega)]
    · rw [show lnF [32, 32] = [[32, 32]] by decide, zd1, zev hw (zrF bd)]
      dsimp only
      rw [zd1,if_neg (by dsimp only; omega)]
  | i :: l, n, w, k, m, ns, pre, hp, hw, hs, hu => by
    unfold zbY at hs
    split at hs
    · rename_i h; exact absurd hs h
    rename_i hf
    split at hs
    · cases hs
    rename_i hr
    have hf0:=Nn hf
    have hx10:=zma hf0 (hu i (.head _))
    have e:za0 (i :: l) = wtF i ++ 10 :: za0 l:=by unfold za0; rw [List.flatMap_cons]; simp
    have hl:zaV (pre ++ wtF i) bd = (i,true,(0,0)):=by
      rcases hp with rfl | rfl
      · exact zoE hf0 (hu i (.head _))
      · exact zqX hf0 (hu i (.head _))
    have hpl:(pre ++ wtF i).all zlA = true:=by
      rw [List.all_append,hx10,Bool.and_true]
      rcases hp with rfl | rfl <;> decide
    have V:zgm (pre ++ wtF i) ⟨gn,bd,w,m⟩ = .ok ⟨gn,bd,w + zbD (za5 i.op) i.args,m ++ [i]⟩:=by
      unfold zgm
      dsimp only
      rw [if_neg (by omega),hl]
      dsimp only
      rw [if_neg (by simp),if_neg (by simp),if_neg hr]
    have ih:∀ (n2:Nat) (ns2:List Int) (p2:Tx),(p2 = [] ∨ p2 = [32,32]) → zd1 n2 (lnF (p2 ++ zcA (za0 l) ns2)) ⟨gn,bd,w + zbD (za5 i.op) i.args,m ++ [i]⟩ = ((gn,bd,m ++ i :: l),(0,0)):=fun n2 ns2 p2 h2=>by
      rw [zmA l n2 _ (k + 1) (m ++ [i]) ns2 p2 h2 (by omega) hs (fun j hj=>hu j (.tail _ hj)),List.append_assoc]; rfl
    rw [e,zgo hx10,← List.append_assoc,zcX hpl,zd1,V]
    dsimp only
    cases ns with
    | nil=>exact ih _ _ [] (.inl rfl)
    | cons q qs =>
      show zd1 (n + 1) (lnF (zcN q ++ zcA (za0 l) qs)) _ = _
      unfold zcN
      split
      · show zd1 (n + 1) (lnF ([59, 32, 37, 49] ++ 10 :: zcA (za0 l) qs)) _ = _
        rw [zcX (by decide),zd1,zev (by omega) (zkj 0 bd)]
        exact ih _ _ [] (.inl rfl)
      split
      · show zd1 (n + 1) (lnF ([32, 9] ++ 10 :: zcA (za0 l) qs)) _ = _
        rw [zcX (by decide),zd1,zev (by omega) (ziD bd)]
        exact ih _ _ [] (.inl rfl)
      split
      · exact ih _ _ _ (.inr rfl)
      · exact ih _ _ [] (.inl rfl)
def zlH (gn bd:Int):Tx:=modW ++ 32 :: (zcT gn ++ 32 :: zcT bd)
theorem zkm (gn bd:Int):Lib.join [modW,zcT gn,zcT bd] [32] = zlH gn bd:=by
  rw [join_cons,join_cons,zet]; rfl
theorem zpu {l:List InstL} {ns:List Int} (hs:(zbG bd l).1 = 0) (hg:0 ≤ gn ∧ gn < 4294967296) (hb0:0 ≤ bd) (hu:∀ i ∈ l,i.U32) (ht:(zlH gn bd ++ 10 :: za0 l).length + 6 * ns.length ≤ 16777216) :
    zda (zcA (zlH gn bd ++ 10 :: za0 l) ns) = ((gn,bd,l),(0,0)):=by
  have hbd:(1 ≤ bd ∧ bd ≤ 65536) ∧ (zbY bd 5 0 l).1 = 0:=by
    unfold zbG at hs
    split at hs
    · cases hs
    · exact ⟨by omega,hs⟩
  obtain ⟨o,ho,hw,hh,hn⟩:=zpN hg hbd.1
  have ho2:wrL (hedK gn bd) = some [modW,zcT gn,zcT bd]:=zbF (zgg De) (zbF (zin hg.1 hg.2 0) (zbF (zin O O 0) rfl))
  obtain rfl:[modW,zcT gn,zcT bd] = o:=by rw [ho2] at ho; injection ho
  rw [zkm] at hh hn
  have h10:(zlH gn bd).all zlA = true:=by rw [← zkm]; exact zpE ho
  have hlen:=zhA (zlH gn bd ++ 10 :: za0 l) ns
  unfold zda
  rw [if_neg (by omega),zgo h10,zcX h10,zd1]
  have V:zgm (zlH gn bd) ⟨0,0,0,[]⟩ = .ok ⟨gn,bd,5,[]⟩:=by
    unfold zgm
    rw [if_pos rfl,if_neg (by rw [hn]; simp),hh,if_neg (by simp)]
  rw [V]
  dsimp only
  have ih:∀ (n2:Nat) (ns2:List Int) (p2:Tx),(p2 = [] ∨ p2 = [32,32]) → zd1 n2 (lnF (p2 ++ zcA (za0 l) ns2)) ⟨gn,bd,5,[]⟩ = ((gn,bd,l),(0,0)):=fun n2 ns2 p2 h2=>zmA l n2 5 0 [] ns2 p2 h2 O hbd.2 hu
  cases ns with
  | nil=>exact ih _ _ [] (.inl rfl)
  | cons q qs =>
    show zd1 (0 + 1) (lnF (zcN q ++ zcA (za0 l) qs)) _ = _
    unfold zcN
    split
    · show zd1 (0 + 1) (lnF ([59, 32, 37, 49] ++ 10 :: zcA (za0 l) qs)) _ = _
      rw [zcX (by decide),zd1,zev (by omega) (zkj 0 bd)]
      exact ih _ _ [] (.inl rfl)
    split
    · show zd1 (0 + 1) (lnF ([32, 9] ++ 10 :: zcA (za0 l) qs)) _ = _
      rw [zcX (by decide),zd1,zev (by omega) (ziD bd)]
      exact ih _ _ [] (.inl rfl)
    split
    · exact ih _ _ _ (.inr rfl)
    · exact ih _ _ [] (.inl rfl)
end
def noteJ (t:Tx) (ns:List Int) (i k:Nat) (o:Tx):Prop:=i ≤ t.length ∧ k ≤ ns.length ∧ o ++ zcA (t.drop i) (ns.drop k) = zcA t ns ∧ o.length ≤ i + 5 * k
theorem noteJ.start (t:Tx) (ns:List Int):noteJ t ns 0 0 []:=⟨Nat.zero_le _,Nat.zero_le _,rfl,Nat.zero_le _⟩
section
variable {t:Tx} {ns:List Int} {i k:Nat} {o:Tx}
theorem noteJ.no (h:noteJ t ns i k o) (hi:i < t.length) (h10:¬ (t.getD i 0).toNat = 10):noteJ t ns (i + 1) k (o ++ [t.getD i 0]):=by
  obtain ⟨h1,h2,h3,h4⟩:=h
  refine ⟨hi,h2,?_,by rw [List.length_append,List.length_singleton]; omega⟩
  rw [zgw hi,zcA,if_neg h10] at h3
  rw [List.append_assoc]; exact h3
theorem noteJ.last (h:noteJ t ns i k o) (hi:i < t.length) (hk:ns.length ≤ k):noteJ t ns (i + 1) k (o ++ [t.getD i 0]):=by
  by_cases h10:(t.getD i 0).toNat = 10
  · obtain ⟨h1, h2, h3, h4⟩ := h
    refine ⟨hi,h2,?_,by rw [List.length_append,List.length_singleton]; omega⟩
    rw [zgw hi,zcA,if_pos h10,List.drop_eq_nil_of_le hk] at h3
    rw [List.drop_eq_nil_of_le hk,List.append_assoc]; exact h3
  · exact h.no hi h10
theorem noteJ.hit (h:noteJ t ns i k o) (hi:i < t.length) (h10:(t.getD i 0).toNat = 10) (hk:k < ns.length):noteJ t ns (i + 1) (k + 1) (o ++ [t.getD i 0] ++ zcN (ns.getD k 0)):=by
  obtain ⟨h1,h2,h3,h4⟩:=h
  have hl:=zj6 (ns.getD k 0)
  refine ⟨hi,hk,?_,by rw [List.length_append,List.length_append,List.length_singleton]; omega⟩
  have hd:ns.drop k = ns.getD k 0 :: ns.drop (k + 1):=by rw [List.drop_eq_getElem_cons hk]; simp [List.getD,hk]
  rw [zgw hi,zcA,if_pos h10,hd] at h3
  rw [List.append_assoc,List.append_assoc]; exact h3
theorem noteJ.fin (h:noteJ t ns t.length k o):o = zcA t ns:=by
  have h3:=h.2.2.1
  rw [List.drop_length,show zcA [] (ns.drop k) = [] from rfl,List.append_nil] at h3; exact h3
end
theorem zoV:zda [109,111,100,117,108,101,32,55,32,57,10] = ((7,9,[]),(0,0)):=by decide +kernel
open Go.RowKit
section
variable {l:List InstL} {gn bd:Int} {k:Nat}
def zox (gn bd:Int) (l:List InstL) (k:Nat):Tx:=zlH gn bd ++ 10 :: za0 (l.take k)
theorem zn0:(((([109,111,100,117,108,101,32]:Tx) ++ zcT gn) ++ [32]) ++ zcT bd) ++ [10] = zox gn bd l 0:=by
  unfold zox zlH
  rw [List.take_zero,zdL,show modW = [109,111,100,117,108,101] from rfl]; simp
theorem zp5 {y:InstL} (hk:l[k]? = some y):(zox gn bd l k ++ wtF y) ++ [10] = zox gn bd l (k + 1):=by
  unfold zox
  rw [zfl hk]; simp
theorem zmX:zox gn bd l l.length = zlH gn bd ++ 10 :: za0 l:=by unfold zox; rw [List.take_length]
theorem zmW {n:Nat} (hg:0 ≤ gn ∧ gn < 4294967296) (hb:0 ≤ bd ∧ bd < 4294967296) (hl:(za0 l).length ≤ n):(zox gn bd l k).length ≤ n + 40:=by
  have h1:=zdc hg.1 hg.2
  have h2:=zdc hb.1 hb.2
  have h3:=zd3 l k
  have h4:modW.length = 6:=rfl
  unfold zox zlH
  simp only [List.length_append,List.length_cons]; omega
end
end Go.SK
namespace Go.SK
open Go Go.Proofs Go.Proofs.Tryz
theorem ent34:zaJ prog 34:=⟨f34,_,func34,Kr,rfl⟩
theorem ent22:zaJ prog 22:=⟨f22,_,func22,Kr,rfl⟩
open Go.RowKit
theorem zqt (p q:InstP) (w:World) (hA:(Res.rargs p).holds w) (hB:(Res.rargs q).holds w) (hl:p.args.length ≤ 9000000000000000000):Ret prog 34 #[.agg #[.int .u16 p.op,.int .u32 p.ty,.int .u32 p.res,.slice p.ao p.args.length p.cap],.agg #[.int .u16 q.op,.int .u32 q.ty,.int .u32 q.res,.slice q.ao q.args.length q.cap]] w (fun v w'=>v = .bool (decide (p.L = q.L)) ∧ St w NoM [] [] w'):=by
 refine zax (args:=[.agg #[.int .u16 p.op,.int .u32 p.ty,.int .u32 p.res,.slice p.ao p.args.length p.cap],.agg #[.int .u16 q.op,.int .u32 q.ty,.int .u32 q.res,.slice q.ao q.args.length q.cap]]) func34 Z Z Z ?_
 have V:St w NoM [] [Res.rargs p,Res.rargs q] w:=St.init_Ds (fun d hd=>by cases hd with | head=>exact hA | tail _ hd=>cases hd with | head=>exact hB | tail _ h=>cases h)
 clear hA hB
 refine SR<|Q<|zbn (v:=zbt _ _ _ _ _ _) V Z Z fun w b2 V=>Q<|zbn (v:=zbt _ _ _ _ _ _) V Z Z fun w b3 V=>AB Z<|G<|SQ<|SR<|Q<|zac zfp Z<|Q<|zae (v:=.int .u16 _) zov Z Z (V.cellL Q1 Z)<|Q<|zac zfp Z<|Q<|zae (v:=.int .u16 _) zov Z Z (V.cellL Q0 Z)<|Q<|za8 Z Z<|MB Z ?_
 refine zaz (d:=11) Z (fun g1=>?_) (fun g1=>?_)
 ·refine OM (t := 11) Z (Vb (Dt g1)) Z <| OM (t := 11) Z (Vb (Dt g1)) Z <| OM (t := 11) Z (Vb (Dt g1)) Z <| OM (t := 11) Z (Vb (Dt g1)) Z <| OM (t := 11) Z (Vb (Dt g1)) Z <| Q <| zaE (u := .bool _) (Vb (Dt g1)) Z <| MB Z <| OM (t := 18) Z (Vb (Z : true = _)) Z <| OM (t := 18) Z (Vb (Z : true = _)) Z <| OM (t := 18) Z (Vb (Z : true = _)) Z <| OM (t := 18) Z (Vb (Z : true = _)) Z <| OM (t := 18) Z (Vb (Z : true = _)) Z <| Q <| zaE (u := .bool _) (Vb (Z : true = _)) Z <| MB Z <| OM (t := 25) Z (Vb (Z : true = _)) Z ?_
  refine OM (t:=25) Z (Vb (Z:true = _)) Z<|OM (t:=25) Z (Vb (Z:true = _)) Z<|OM (t:=25) Z (Vb (Z:true = _)) Z<|OM (t:=25) Z (Vb (Z:true = _)) Z<|OM (t:=25) Z (Vb (Z:true = _)) Z<|OM (t:=25) Z (Vb (Z:true = _)) Z<|Q<|zaE (u:=.bool _) (Vb (Z:true = _)) Z<|G<|zat (Vb (Z:true = _))<|SR<|AB Z<|G<|zag func34 Z (TP (v:=.bool _) Z) ?_
  exact ⟨Vb (Df (fun h=>by obtain ⟨h1,h2,h3,h4⟩:=InstP.L_eq.1 h; exact g1 h1)).symm,V.pure⟩
 refine TK (t:=11) Z (Vb (Df g1))<|zac zey Z<|TK (t:=11) Z (Vb (Df g1))<|zae (v:=.int .u32 _) zbM Z Z (V.cellL Q1 Z)<|TK (t:=11) Z (Vb (Df g1))<|zac zey Z<|TK (t:=11) Z (Vb (Df g1))<|zae (v:=.int .u32 _) zbM Z Z (V.cellL Q0 Z)<|TK (t:=11) Z (Vb (Df g1))<|za8 Z Z<|Q<|zay (u:=.bool _) (Vb (Df g1)) Z<|MB Z<|zaz (d:=18) Z (fun g2=>?_) (fun g2=>?_)
 ·refine OM (t := 18) Z (Vb (Dt g2)) Z <| OM (t := 18) Z (Vb (Dt g2)) Z <| OM (t := 18) Z (Vb (Dt g2)) Z <| OM (t := 18) Z (Vb (Dt g2)) Z <| OM (t := 18) Z (Vb (Dt g2)) Z <| Q <| zaE (u := .bool _) (Vb (Dt g2)) Z <| MB Z <| OM (t := 25) Z (Vb (Z : true = _)) Z <| OM (t := 25) Z (Vb (Z : true = _)) Z <| OM (t := 25) Z (Vb (Z : true = _)) Z <| OM (t := 25) Z (Vb (Z : true = _)) Z <| OM (t := 25) Z (Vb (Z : true = _)) Z <| OM (t := 25) Z (Vb (Z : true = _)) Z <| OM (t := 25) Z (Vb (Z : true = _)) Z <| Q (zaE (u := .bool _) (Vb (Z : true = _)) Z ?_)
  refine G<|zal [(2,Pp _ _),(3,Pp _ _),(33,.bool _)] E3 fun f=>zat (Vb (Z:true = _))<|SR<|AB Z<|G<|zag func34 Z (TP (v:=.bool _) Z) ?_
  exact ⟨Vb (Df (fun h=>by obtain ⟨h1,h2,h3,h4⟩:=InstP.L_eq.1 h; exact g2 h2)).symm,V.pure⟩
 refine TK (t:=18) Z (Vb (Df g2))<|zac zgt Z<|TK (t:=18) Z (Vb (Df g2))<|zae (v:=.int .u32 _) zbM Z Z (V.cellL Q1 Z)<|TK (t:=18) Z (Vb (Df g2))<|zac zgt Z<|TK (t:=18) Z (Vb (Df g2))<|zae (v:=.int .u32 _) zbM Z Z (V.cellL Q0 Z)<|TK (t:=18) Z (Vb (Df g2))<|za8 Z Z<|Q<|zay (u:=.bool _) (Vb (Df g2)) Z<|MB Z<|zaz (d:=25) Z (fun g3=>?_) (fun g3=>?_)
 ·refine OM (t := 25) Z (Vb (Dt g3)) Z <| OM (t := 25) Z (Vb (Dt g3)) Z <| OM (t := 25) Z (Vb (Dt g3)) Z <| OM (t := 25) Z (Vb (Dt g3)) Z <| OM (t := 25) Z (Vb (Dt g3)) Z <| OM (t := 25) Z (Vb (Dt g3)) Z <| OM (t := 25) Z (Vb (Dt g3)) Z <| Q <| zaE (u := .bool _) (Vb (Dt g3)) Z <| G <| zal [(2, Pp _ _), (3, Pp _ _), (33, .bool _)] E3 fun f => zat (Vb (Z : true = _)) <| SR <| AB Z <| G ?_
  refine zag func34 Z (TP (v:=.bool _) Z) ?_
  exact ⟨Vb (Df (fun h=>by obtain ⟨h1,h2,h3,h4⟩:=InstP.L_eq.1 h; exact g3 h3)).symm,V.pure⟩
 refine TK (t:=25) Z (Vb (Df g3))<|zac zcg Z<|TK (t:=25) Z (Vb (Df g3))<|zae (v:=.slice _ _ _) zeo Z Z (V.cellL Q1 Z)<|TK (t:=25) Z (Vb (Df g3))<|zaQ (rest:=[]) zeo Z<|TK (t:=25) Z (Vb (Df g3))<|zac zcg Z<|TK (t:=25) Z (Vb (Df g3))<|zae (v:=.slice _ _ _) zeo Z Z (V.cellL Q0 Z)<|TK (t:=25) Z (Vb (Df g3))<|zaQ (rest:=[]) zeo Z<|TK (t:=25) Z (Vb (Df g3))<|za8 Z Z<|Q<|zay (u:=.bool _) (Vb (Df g3)) Z<|G<|zal [(2,Pp _ _),(3,Pp _ _),(33,.bool _)] E3 fun f=>zaa Z (fun g4=>?_) (fun g4=>?_)
 ·refine SR <| AB Z <| G <| zag func34 Z (TP (v := .bool _) Z) ?_
  exact ⟨Vb (Df (fun h=>by obtain ⟨h1,h2,h3,h4⟩:=InstP.L_eq.1 h; have:=congrArg List.length h4; omega)).symm,V.pure⟩
 refine zaj<|SQ<|SR<|AI Z<|G<|zau<|zba<|za7 [(2,Pp _ _),(3,Pp _ _)] E2 (fun (i:Nat)=>[(5,.int .i64 (i:Int))]) (fun (i:Nat)=>[]) (fun (i:Nat)=>i ≤ p.args.length ∧ ∀ j,j < i → p.args.getD j zeroA = q.args.getD j zeroA) (fun (i:Nat)=>p.args.length - i) (0) V ⟨Nat.zero_le _,fun j hj=>absurd hj O⟩ ⟨Z,trivial⟩ ?_
 intro i f w V hJ ih5
 refine SQ<|SR<|MI Z<|Q<|zac zcg Z<|Q<|zae (v:=.slice _ _ _) zeo Z Z (V.cellL Q1 Z)<|Q<|zaQ (rest:=[]) zeo Z<|Q<|zaY Z Z<|G<|zaa Z (fun g6=>?_) (fun g6=>?_)
 ·refine zaj <| SQ <| zau <| SQ <| RunD.start [] V (bs := [0, 1, 0, 7, 15, 0, 32, 0, 224, 480, 1023]) (ds := [some 41, some 42, some 43, some 44, some 45, some 46, some 47, some 48, some 49, some 50, some 51]) ⟨Kr, Kr, Kr⟩ (fun tab7 => ?_)
  refine DO tab7 1 (fun _ _ _ hc=>zac zcg (hc.old (v:=Pp _ _) Z Z Z) hc.z)<|DO tab7 2 (fun _ _ _ hc=>zae (v:=.slice _ _ _) zeo Z (hc.d 0 Z Z Z Z) (hc.st.cellL (Ar Q1) Z) hc.z)<|DO tab7 3 (fun _ _ _ hc=>zad (v:=.int .i64 _) (hc.old Z Z Z) hc.z)<|DO tab7 4 (fun _ _ _ hc=>zbe zeo zbc (hc.st.hD _ Q0) (hc.d 1 Z Z Z Z) (hc.d 2 Z Z Z Z) O O hc.z)<|DO tab7 5 (fun _ _ _ hc=>zaC (vs:=zcB _ _ _) zbc Z (hc.d 3 Z Z Z Z) Z (Res.rs2_cells (m:=3) (hc.st.hD _ Q0) _ (zbQ (g:=zgN) (d:=zeroA) zdv _ _ O)) hc.z)<|DO tab7 6 (fun _ _ _ hc=>zac zcg (hc.old (v:=Pp _ _) Z Z Z) hc.z)<|DO tab7 7 (fun _ _ _ hc=>zae (v:=.slice _ _ _) zeo Z (hc.d 5 Z Z Z Z) (hc.st.cellL (Ar Q0) Z) hc.z)<|DO tab7 8 (fun _ _ _ hc=>zad (v:=.int .i64 _) (hc.old Z Z Z) hc.z)<|DO tab7 9 (fun _ _ _ hc=>zbe zeo zbc (hc.st.hD _ Q1) (hc.d 6 Z Z Z Z) (hc.d 7 Z Z Z Z) O O hc.z)<|DO tab7 10 (fun _ _ _ hc=>zaC (vs:=zcB _ _ _) zbc Z (hc.d 8 Z Z Z Z) Z (Res.rs2_cells (m:=3) (hc.st.hD _ Q1) _ (zbQ (g:=zgN) (d:=zeroA) zdv _ _ O)) hc.z)<|RunD.fin zaB tab7 V Z (fun f8 w R11 hs9 hd10 hr12 V=>?_)
  obtain ⟨h41_,r0⟩:=hd10 0 41 rfl rfl
  obtain ⟨h42_,r1⟩:=hd10 1 42 rfl rfl
  obtain ⟨h43_,r2⟩:=hd10 2 43 rfl rfl
  obtain ⟨h44_,r3⟩:=hd10 3 44 rfl rfl
  obtain ⟨h45_,r4⟩:=hd10 4 45 rfl rfl
  obtain ⟨h46_,r5⟩:=hd10 5 46 rfl rfl
  obtain ⟨h47_,r6⟩:=hd10 6 47 rfl rfl
  obtain ⟨h48_,r7⟩:=hd10 7 48 rfl rfl
  obtain ⟨h49_,r8⟩:=hd10 8 49 rfl rfl
  obtain ⟨h50_,r9⟩:=hd10 9 50 rfl rfl
  simp only [rg10,Fc,Fn,Mc,Mn,r0,r1,r2,r3,r4,r5,r6,r7,r8,r9,Na,An,Ca] at V
  refine zaH (sl:=[(2,Pp _ _),(3,Pp _ _),(5,.int .i64 _),(45,zcp _ _ _),(50,zcp _ _ _)]) ⟨(hs9 2 Z).trans Z,(hs9 3 Z).trans Z,(hs9 5 Z).trans Z,h45_,h50_,trivial⟩ ?_
  clear hs9 hd10 hr12 tab7
  refine Q<|zss (xs:=(zcB _ _ _)) (ys:=(zcB _ _ _)) Z Z Kr (zfv underlying110 Kr (.cons De (PartOk.one ty5 Z Z) (PartOk.one ty5 Z Z) (ze5 ty5) (.cons De (PartOk.one zbM Z Z) (PartOk.one zbM Z Z) (ze5 zbM) (.cons De (PartOk.one ty9 Z Z) (PartOk.one ty9 Z Z) (EqOk.str ty9) .nil))))<|G<|zaR Z (fun g13=>?_) (fun g13=>?_)
  ·refine SR <| AB Z <| G <| zag func34 Z (TP (v := .bool _) Z) ?_
   exact ⟨Vb (Df (fun h=>by obtain ⟨h1,h2,h3,h4⟩:=InstP.L_eq.1 h; have hg:=g13; rw [zsZ,h4] at hg; simp at hg)).symm,V.pure⟩
  refine zaj<|zan<|RG<|MI Z<|Q<|zaD Z Z Z zbS<|AI Z<|G<|zaG ?_
  exact ih5 (i + 1) _ w (by omega) V (⟨by omega,zmk hJ.2 (by have hg:=g13; rw [zsZ] at hg; simpa using hg)⟩) E2 ⟨(Vi (by omega)),trivial⟩
 refine zaU (id:=0) Z<|SR<|AB Z<|G<|zag func34 Z (TP (v:=.bool _) Z) ?_
 exact ⟨Vb (Dt (InstP.L_eq.2 ⟨Nn g1,Nn g2,Nn g3,zcK zeroA O (fun j hj=>hJ.2 j O)⟩)).symm,V.pure⟩
theorem zlW (ga ba gb bb:Int) (l m:List InstP) (ao bo:Option Addr) (cp cq:Nat) (w:World) (hA:(Res.rmod ao l).holds w) (hB:(Res.rmod bo m).holds w) (hl:l.length ≤ 9000000000000000000) (hla:∀ i ∈ l,i.args.length ≤ 9000000000000000000):Ret prog 22 #[.agg #[.int .u32 ga,.int .u32 ba,.slice ao l.length cp],.agg #[.int .u32 gb,.int .u32 bb,.slice bo m.length cq]] w (fun v w'=>v = .bool (sameM ga ba l gb bb m) ∧ St w NoM [] [] w'):=by
 refine zax (args:=[.agg #[.int .u32 ga,.int .u32 ba,.slice ao l.length cp],.agg #[.int .u32 gb,.int .u32 bb,.slice bo m.length cq]]) func22 Z Z Z ?_
 have V:St w NoM [] [Res.rmod ao l,Res.rmod bo m] w:=St.init_Ds (fun d hd=>by cases hd with | head=>exact hA | tail _ hd=>cases hd with | head=>exact hB | tail _ h=>cases h)
 clear hA hB
 refine SR<|Q<|zbn (v:=zex _ _ _ _ _) V Z Z fun w b2 V=>Q<|zbn (v:=zex _ _ _ _ _) V Z Z fun w b3 V=>AB Z<|G<|SQ<|SR<|Q<|zac zfq Z<|Q<|zae (v:=.int .u32 _) zbM Z Z (V.cellL Q1 Z)<|Q<|zac zfq Z<|Q<|zae (v:=.int .u32 _) zbM Z Z (V.cellL Q0 Z)<|Q<|za8 Z Z<|MB Z ?_
 refine zaz (d:=11) Z (fun g1=>?_) (fun g1=>?_)
 ·refine OM (t := 11) Z (Vb (Dt g1)) Z <| OM (t := 11) Z (Vb (Dt g1)) Z <| OM (t := 11) Z (Vb (Dt g1)) Z <| OM (t := 11) Z (Vb (Dt g1)) Z <| OM (t := 11) Z (Vb (Dt g1)) Z <| Q <| zaE (u := .bool _) (Vb (Dt g1)) Z <| MB Z <| OM (t := 18) Z (Vb (Z : true = _)) Z <| OM (t := 18) Z (Vb (Z : true = _)) Z <| OM (t := 18) Z (Vb (Z : true = _)) Z <| OM (t := 18) Z (Vb (Z : true = _)) Z <| OM (t := 18) Z (Vb (Z : true = _)) Z <| OM (t := 18) Z (Vb (Z : true = _)) Z <| OM (t := 18) Z (Vb (Z : true = _)) Z <| Q (zaE (u := .bool _) (Vb (Z : true = _)) Z ?_)
  refine G<|zat (Vb (Z:true = _))<|SR<|AB Z<|G<|zag func22 Z (TP (v:=.bool _) Z) ?_
  exact ⟨Vb (Df (fun h=>g1 h.1)).symm,V.pure⟩
 refine TK (t:=11) Z (Vb (Df g1))<|zac zcU Z<|TK (t:=11) Z (Vb (Df g1))<|zae (v:=.int .u32 _) zbM Z Z (V.cellL Q1 Z)<|TK (t:=11) Z (Vb (Df g1))<|zac zcU Z<|TK (t:=11) Z (Vb (Df g1))<|zae (v:=.int .u32 _) zbM Z Z (V.cellL Q0 Z)<|TK (t:=11) Z (Vb (Df g1))<|za8 Z Z<|Q<|zay (u:=.bool _) (Vb (Df g1)) Z<|MB Z<|zaz (d:=18) Z (fun g2=>?_) (fun g2=>?_)
 ·refine OM (t := 18) Z (Vb (Dt g2)) Z <| OM (t := 18) Z (Vb (Dt g2)) Z <| OM (t := 18) Z (Vb (Dt g2)) Z <| OM (t := 18) Z (Vb (Dt g2)) Z <| OM (t := 18) Z (Vb (Dt g2)) Z <| OM (t := 18) Z (Vb (Dt g2)) Z <| OM (t := 18) Z (Vb (Dt g2)) Z <| Q <| zaE (u := .bool _) (Vb (Dt g2)) Z <| G <| zat (Vb (Z : true = _)) <| SR <| AB Z <| G <| zag func22 Z (TP (v := .bool _) Z) ?_
  exact ⟨Vb (Df (fun h=>g2 h.2.1)).symm,V.pure⟩
 refine TK (t:=18) Z (Vb (Df g2))<|zac zbR Z<|TK (t:=18) Z (Vb (Df g2))<|zae (v:=.slice _ _ _) zdD Z Z (V.cellL Q1 Z)<|TK (t:=18) Z (Vb (Df g2))<|zaQ (rest:=[]) zdD Z<|TK (t:=18) Z (Vb (Df g2))<|zac zbR Z<|TK (t:=18) Z (Vb (Df g2))<|zae (v:=.slice _ _ _) zdD Z Z (V.cellL Q0 Z)<|TK (t:=18) Z (Vb (Df g2))<|zaQ (rest:=[]) zdD Z<|TK (t:=18) Z (Vb (Df g2))<|za8 Z Z<|Q<|zay (u:=.bool _) (Vb (Df g2)) Z<|G<|zal [(2,Pp _ _),(3,Pp _ _),(26,.bool _)] E3 fun f=>zaa Z (fun g3=>?_) (fun g3=>?_)
 ·refine SR <| AB Z <| G <| zag func22 Z (TP (v := .bool _) Z) ?_
  exact ⟨Vb (Df (fun h=>by have:=zki h.2.2; omega)).symm,V.pure⟩
 refine zaj<|SQ<|SR<|AI Z<|G<|zau<|zba<|za7 [(2,Pp _ _),(3,Pp _ _)] E2 (fun (i:Nat)=>[(5,.int .i64 (i:Int))]) (fun (i:Nat)=>[]) (fun (i:Nat)=>i ≤ l.length ∧ ∀ j,j < i → (l.getD j zeroI).L = (m.getD j zeroI).L) (fun (i:Nat)=>l.length - i) (0) V ⟨Nat.zero_le _,fun j hj=>absurd hj O⟩ ⟨Z,trivial⟩ ?_
 intro i f w V hJ ih4
 refine SQ<|SR<|MI Z<|Q<|zac zbR Z<|Q<|zae (v:=.slice _ _ _) zdD Z Z (V.cellL Q1 Z)<|Q<|zaQ (rest:=[]) zdD Z<|Q<|zaY Z Z<|G<|zaa Z (fun g5=>?_) (fun g5=>?_)
 ·refine zaj <| SQ <| zau <| SQ <| RunD.start [] V (bs := [0, 1, 0, 7, 15, 0, 32, 0, 224, 480, 1023, 2047]) (ds := [some 34, some 35, some 36, some 37, some 38, some 39, some 40, some 41, some 42, some 43, some 44, some 45]) ⟨Kr, Kr, Kr⟩ (fun tab6 => ?_)
  refine DO tab6 1 (fun _ _ _ hc=>zac zbR (hc.old (v:=Pp _ _) Z Z Z) hc.z)<|DO tab6 2 (fun _ _ _ hc=>zae (v:=.slice _ _ _) zdD Z (hc.d 0 Z Z Z Z) (hc.st.cellL (Ar Q1) Z) hc.z)<|DO tab6 3 (fun _ _ _ hc=>zad (v:=.int .i64 _) (hc.old Z Z Z) hc.z)<|DO tab6 4 (fun _ _ _ hc=>zbe zdD zbB (Res.rmod_insts (hc.st.hD _ Q0)) (hc.d 1 Z Z Z Z) (hc.d 2 Z Z Z Z) O O hc.z)<|DO tab6 5 (fun _ _ _ hc=>zaC (vs:=zbA _ _ _ _ _ _) zbB Z (hc.d 3 Z Z Z Z) Z (Res.rs2_cells (m:=4) (Res.rmod_insts (hc.st.hD _ Q0)) _ (zbQ (g:=zdP) (d:=zeroI) zcP _ _ O)) hc.z)<|DO tab6 6 (fun _ _ _ hc=>zac zbR (hc.old (v:=Pp _ _) Z Z Z) hc.z)<|DO tab6 7 (fun _ _ _ hc=>zae (v:=.slice _ _ _) zdD Z (hc.d 5 Z Z Z Z) (hc.st.cellL (Ar Q0) Z) hc.z)<|DO tab6 8 (fun _ _ _ hc=>zad (v:=.int .i64 _) (hc.old Z Z Z) hc.z)<|DO tab6 9 (fun _ _ _ hc=>zbe zdD zbB (Res.rmod_insts (hc.st.hD _ Q1)) (hc.d 6 Z Z Z Z) (hc.d 7 Z Z Z Z) O O hc.z)<|DO tab6 10 (fun _ _ _ hc=>zaC (vs:=zbA _ _ _ _ _ _) zbB Z (hc.d 8 Z Z Z Z) Z (Res.rs2_cells (m:=4) (Res.rmod_insts (hc.st.hD _ Q1)) _ (zbQ (g:=zdP) (d:=zeroI) zcP _ _ O)) hc.z)<|RunD.fin zaB tab6 V Z (fun f7 w R10 hs8 hd9 hr11 V=>?_)
  obtain ⟨h34_,r0⟩:=hd9 0 34 rfl rfl
  obtain ⟨h35_,r1⟩:=hd9 1 35 rfl rfl
  obtain ⟨h36_,r2⟩:=hd9 2 36 rfl rfl
  obtain ⟨h37_,r3⟩:=hd9 3 37 rfl rfl
  obtain ⟨h38_,r4⟩:=hd9 4 38 rfl rfl
  obtain ⟨h39_,r5⟩:=hd9 5 39 rfl rfl
  obtain ⟨h40_,r6⟩:=hd9 6 40 rfl rfl
  obtain ⟨h41_,r7⟩:=hd9 7 41 rfl rfl
  obtain ⟨h42_,r8⟩:=hd9 8 42 rfl rfl
  obtain ⟨h43_,r9⟩:=hd9 9 43 rfl rfl
  simp only [rg10,Fc,Fn,Mc,Mn,r0,r1,r2,r3,r4,r5,r6,r7,r8,r9,Na,An,Ca] at V
  refine zaH (sl:=[(2,Pp _ _),(3,Pp _ _),(5,.int .i64 _),(38,zbt _ _ _ _ _ _),(43,zbt _ _ _ _ _ _)]) ⟨(hs8 2 Z).trans Z,(hs8 3 Z).trans Z,(hs8 5 Z).trans Z,h38_,h43_,trivial⟩ ?_
  clear hs8 hd9 hr11 tab6
  refine Q<|zaK (v1:=zbt _ _ _ _ _ _) (v2:=zbt _ _ _ _ _ _) ent34 Z Z Z<|Ret.det (zqt _ _ _ (Res.rmod_argsI (V.hD _ Q0) O) (Res.rmod_argsI (V.hD _ Q1) O) (hla _ (zci O))) V fun w V=>Q<|zaT Z<|G<|zaR Z (fun g12=>?_) (fun g12=>?_)
  ·refine SR <| AB Z <| G <| zag func22 Z (TP (v := .bool _) Z) ?_
   exact ⟨Vb (Df (fun h=>by have hg:=g12; rw [Dt (znU h.2.2 (by omega))] at hg; simp at hg)).symm,V.pure⟩
  refine zaj<|zan<|RG<|MI Z<|Q<|zaD Z Z Z zbS<|AI Z<|G<|zaG ?_
  exact ih4 (i + 1) _ w (by omega) V (⟨by omega,zmk hJ.2 (by simpa using g12)⟩) E2 ⟨(Vi (by omega)),trivial⟩
 refine zaU (id:=0) Z<|SR<|AB Z<|G<|zag func22 Z (TP (v:=.bool _) Z) ?_
 exact ⟨Vb (Dt (⟨Nn g1,Nn g2,zpH O (fun j hj=>hJ.2 j O)⟩)).symm,V.pure⟩
theorem InstL.Sm.len9 {y:InstP} (h:y.L.Sm):y.args.length ≤ 9000000000000000000:=by
 have h1:=zhJ y.args
 have h2:(y.args.map zaS).sum ≤ 900000000:=h.1
 omega
theorem zn6 (gn bd:Int) (l:List InstP) (ao:Option Addr) (cp:Nat) (w:World) (hA0:(Res.rmod ao l).holds w) (hs:Small l) (hu:∀ x ∈ l,x.L.U32) (hgn:0 ≤ gn ∧ gn < 4294967296) (hbd:0 ≤ bd ∧ bd < 4294967296) (hs0:(zbG bd (l.map InstP.L)).1 = 0):Ret prog 42 #[.agg #[.int .u32 gn,.int .u32 bd,.slice ao l.length cp]] w (fun v w'=>v = str (zlH gn bd ++ 10 :: za0 (l.map InstP.L)) ∧ St w NoM [] [] w'):=by
 refine zax (args:=[.agg #[.int .u32 gn,.int .u32 bd,.slice ao l.length cp]]) func42 Z Z Z ?_
 have V:St w NoM [] [Res.rmod ao l] w:=St.init_D hA0
 have hln:=hs.len
 have hd1:=zdc hgn.1 hgn.2
 have hd2:=zdc hbd.1 hbd.2
 have hjl:=fun k=>zmW (gn:=gn) (bd:=bd) (k:=k) hgn hbd (zdM hs0 (zsG hu))
 refine SR<|Q<|zbn (v:=zex _ _ _ _ _) V Z Z fun w b1 V=>AS Z<|G<|SQ<|RunD.start [] V (bs:=[0,1,3,7,15,0,32,103,255,511,1023]) (ds:=[some 5,some 6,some 7,some 8,some 9,some 10,some 11,some 12,some 13,some 14,some 3]) ⟨Kr,Kr,Kr⟩ (fun tab1=>?_)
 refine DO tab1 1 (fun _ _ _ hc=>zac zfq (hc.old (v:=Pp _ _) rfl rfl rfl) hc.z)<|DO tab1 2 (fun _ _ _ hc=>zae (v:=.int .u32 _) zbM rfl (hc.d 0 rfl rfl rfl rfl) (hc.st.cellL (Ar Q0) rfl) hc.z)<|DO tab1 3 (fun _ _ _ hc=>zav (v1:=.int .u32 _) zlL rfl (hc.d 1 rfl rfl rfl rfl) ((zc4 gn hgn.1 hgn.2 _).mono fun v w hp=>⟨[],⟨hp.1,rfl⟩,hc.st.keepc hp.2⟩))<|DO tab1 4 (fun _ _ _ hc=>za2 rfl (hc.d 2 rfl rfl rfl rfl) (by first | omega | (simp only [List.length_cons,List.length_nil,List.length_append]; omega) | (simp; omega)) hc.z)<|DO tab1 5 (fun _ _ _ hc=>za2 (hc.d 3 rfl rfl rfl rfl) rfl (by first | omega | (simp only [List.length_cons,List.length_nil,List.length_append]; omega) | (simp; omega)) hc.z)<|DO tab1 6 (fun _ _ _ hc=>zac zcU (hc.old (v:=Pp _ _) rfl rfl rfl) hc.z)<|DO tab1 7 (fun _ _ _ hc=>zae (v:=.int .u32 _) zbM rfl (hc.d 5 rfl rfl rfl rfl) (hc.st.cellL (Ar Q0) rfl) hc.z)<|DO tab1 8 (fun _ _ _ hc=>zav (v1:=.int .u32 _) zlL rfl (hc.d 6 rfl rfl rfl rfl) ((zc4 bd hbd.1 hbd.2 _).mono fun v w hp=>⟨[],⟨hp.1,rfl⟩,hc.st.keepc hp.2⟩))<|RunD.fin zaB tab1 V rfl (fun f2 w R5 hs3 hd4 hr6 V=>?_)
 obtain ⟨h5_,r0⟩:=hd4 0 5 rfl rfl
 obtain ⟨h6_,r1⟩:=hd4 1 6 rfl rfl
 obtain ⟨h7_,r2⟩:=hd4 2 7 rfl rfl
 obtain ⟨h8_,r3⟩:=hd4 3 8 rfl rfl
 obtain ⟨h9_,r4⟩:=hd4 4 9 rfl rfl
 obtain ⟨h10_,r5⟩:=hd4 5 10 rfl rfl
 obtain ⟨h11_,r6⟩:=hd4 6 11 rfl rfl
 obtain ⟨h12_,r7⟩:=hd4 7 12 rfl rfl
 simp only [rg8,Fc,Fn,Mc,Mn,r0,r1,r2,r3,r4,r5,r6,r7,Na,An,Ca] at V
 refine zaH (sl:=[(1,Pp _ _),(9,str _),(12,str _)]) ⟨(hs3 1 Z).trans Z,h9_,h12_,trivial⟩ ?_
 clear hs3 hd4 hr6 tab1
 refine Q<|za2 rfl rfl (by first | omega | (simp only [List.length_cons,List.length_nil,List.length_append]; omega) | (simp; omega))<|Q<|za2 rfl rfl (by first | omega | (simp only [List.length_cons,List.length_nil,List.length_append]; omega) | (simp; omega))<|AS rfl<|G<|SQ<|SR<|AI rfl<|G<|zau<|zba<|za7 [(1,Pp _ _)] ⟨rfl,trivial⟩ (fun (qq:Nat)=>[(3,str (zox gn bd (l.map InstP.L) qq)),(4,.int .i64 (qq:Int))]) (fun (qq:Nat)=>[]) (fun (qq:Nat)=>qq ≤ l.length) (fun (qq:Nat)=>l.length - qq) (0) V (Nat.zero_le _) ⟨(by rw [← zn0]; rfl),rfl,trivial⟩ ?_
 intro i f w V hJ ih7
 replace V:St _ _ ([] ++ [_]) _ _:=V
 replace hJ:i ≤ l.length:=hJ
 refine zbj (sl:=[(3,str (zox gn bd (l.map InstP.L) i)),(4,.int .i64 (i:Int))]) E2<|SQ<|SR<|MI Z<|Q<|zac zbR Z<|Q<|zae (v:=.slice _ _ _) zdD Z Z (V.cellL Q0 Z)<|Q<|zaQ (rest:=[]) zdD Z<|Q<|zaY Z Z<|G<|zaa Z (fun g8=>?_) (fun g8=>?_)
 ·have hi : i < l.length := by omega
  have hym:(l.getD i zeroI) ∈ l:=zci hi
  have hyu:=hu _ hym
  have hyo:=hs.op _ hym
  have hys:=hs.sum _ hym
  have hyt:=hs.txt _ hym
  obtain ⟨hyg,hye,hyl⟩:=zmE hs0 hu hi
  have hll:(wtI (l.getD ((i:Int).toNat) zeroI).L).length = (wtI (l.getD i zeroI).L).length:=rfl
  have hj0:=hjl i
  refine zaj<|SQ<|zau<|RG<|MS rfl<|Q<|zac zbR rfl<|Q<|zae (v:=.slice _ _ _) zdD rfl rfl (V.cellL Q0 rfl)<|MI rfl<|Q<|zbe zdD zbB (Res.rmod_insts (V.hD _ Q0)) rfl rfl (by omega) (by omega)<|Q<|zaC (vs:=zbA _ _ _ _ _ _) zbB rfl rfl rfl (Res.rs2_cells (m:=4) (Res.rmod_insts (V.hD _ Q0)) _ (zbQ (g:=zdP) (d:=zeroI) zcP _ _ (by omega)))<|Q<|zav (v1:=zbt _ _ _ _ _ _) ent43 rfl rfl<|Ret.det (zgO (l.getD ((i:Int).toNat) zeroI) _ (Res.rmod_argsI (V.hD _ Q0) hi) hyu hyo hys hyt) V fun w V=>Q<|za2 rfl rfl (by first | omega | (simp only [List.length_cons,List.length_nil,List.length_append]; omega) | (simp; omega))<|Q<|za2 rfl rfl (by first | omega | (simp only [List.length_cons,List.length_nil,List.length_append]; omega) | (simp; omega))<|AS rfl<|G ?_
  refine zan<|RG<|MI Z<|Q<|zaD Z Z Z zbS<|AI Z<|G<|zaG ?_
  exact ih7 (i + 1) _ w (O) V (O) ⟨Z,trivial⟩ ⟨(congrArg str ((congrArg (fun t=>(zox gn bd (l.map InstP.L) i ++ t) ++ [10]) hye).trans (zp5 hyg))),(Vi O),trivial⟩
 have hi:i = l.length:=by omega
 refine zaU (id:=0) Z<|SR<|MS Z<|AS Z<|G<|zag func42 Z (TP (v:=str _) Z) ?_
 rw [← zmX (gn:=gn) (bd:=bd),List.length_map,← hi]
 exact ⟨Z,V.pure⟩
end Go.SK
namespace Go.SK
abbrev byI (b:List UInt8):List Int:=b.map fun c=>(c.toNat:Int)
theorem zg5 {b:List UInt8} {k:Nat} (h:k < b.length):zcN ((byI b).getD k 0) = zcN ((b.getD k 0).toNat:Int):=by
  simp [byI,List.getD,h]
theorem zff {s:Tx} {i:Nat} (h:i < s.length):(s.drop ((i:Int).toNat)).take (((i:Int) + 1).toNat - ((i:Int).toNat)) = [s.getD i 0]:=by
  rw [show ((i:Int) + 1).toNat - ((i:Int).toNat) = 1 by omega,show ((i:Int).toNat) = i by omega]
  rw [zgw h]; rfl
theorem noteC0 {c:Int} (h:c % 4 = 0):zcN c = [59,32,37,49,10]:=by unfold zcN; rw [if_pos h]
theorem noteC1 {c:Int} (h0:¬ c % 4 = 0) (h:c % 4 = 1):zcN c = [32,9,10]:=by unfold zcN; rw [if_neg h0,if_pos h]
theorem noteC2 {c:Int} (h0:¬ c % 4 = 0) (h1:¬ c % 4 = 1) (h:c % 4 = 2):zcN c = [32,32]:=by unfold zcN; rw [if_neg h0,if_neg h1,if_pos h]
theorem noteC3 {c:Int} (h0:¬ c % 4 = 0) (h1:¬ c % 4 = 1) (h:¬ c % 4 = 2):zcN c = []:=by unfold zcN; rw [if_neg h0,if_neg h1,if_neg h]
theorem ztQ {gn bd:Int} {l:List InstP} (hs:(zbG bd (l.map InstP.L)).1 = 0) (hu:∀ x ∈ l,x.L.U32) (hg:0 ≤ gn ∧ gn < 4294967296) (hb:0 ≤ bd ∧ bd < 4294967296):(zlH gn bd ++ 10 :: za0 (l.map InstP.L)).length ≤ 226492456:=by
  have:=zmW (gn:=gn) (bd:=bd) (k:=(l.map InstP.L).length) hg hb (zdM hs (zsG hu))
  rw [zmX] at this; exact this
theorem znF {gn bd:Int} {l:List InstP} {b:List UInt8} {t o:Tx} {k:Nat} (ht:zlH gn bd ++ 10 :: za0 (l.map InstP.L) = t) (hJ:noteJ t (byI b) t.length k o) (hs:(zbG bd (l.map InstP.L)).1 = 0) (hg:0 ≤ gn ∧ gn < 4294967296) (hb0:0 ≤ bd) (hu:∀ x ∈ l,x.L.U32) (hl:t.length + 6 * b.length ≤ 16777216) :
    zda o = ((gn,bd,l.map InstP.L),(0,0)):=by
  rw [hJ.fin,← ht]
  exact zpu hs hg hb0 (zsG hu) (by rw [ht,List.length_map]; exact hl)
open Go Go.Proofs Go.Proofs.Tryz
theorem ent42:zaJ prog 42:=⟨f42,_,func42,Kr,rfl⟩
open Go.RowKit
theorem zlV {gn bd:Int} {l:List InstP} {t:Tx} (ht:zlH gn bd ++ 10 :: za0 (l.map InstP.L) = t) (ao:Option Addr) (cp:Nat) (w:World) (hA0:(Res.rmod ao l).holds w) (hs:Small l) (hu:∀ x ∈ l,x.L.U32) (hgn:0 ≤ gn ∧ gn < 4294967296) (hbd:0 ≤ bd ∧ bd < 4294967296) (hs0:(zbG bd (l.map InstP.L)).1 = 0):Ret prog 42 #[.agg #[.int .u32 gn,.int .u32 bd,.slice ao l.length cp]] w (fun v w'=>v = str t ∧ St w NoM [] [] w'):=by
 subst ht; exact zn6 gn bd l ao cp w hA0 hs hu hgn hbd hs0
theorem zqW (gn bd:Int) (l:List InstP) (ao:Option Addr) (cp:Nat) (b:List UInt8) (bo:Option Addr) (cq:Nat) (w:World) (hG:LxG.holds w) (hA0:(Res.rmod ao l).holds w) (hA1:(Res.rs bo b.length 1 (b.flatMap byC)).holds w) (hs:Small l) (hu:∀ x ∈ l,x.L.U32) (hgn:0 ≤ gn ∧ gn < 4294967296) (hbd:0 ≤ bd ∧ bd < 4294967296) (hb:b.length ≤ 140737488355328):Ret prog 11 #[.agg #[.int .u32 gn,.int .u32 bd,.slice ao l.length cp],.slice bo b.length cq] w (fun v w'=>v = .bool true ∧ St w NoM [] [] w'):=by
 refine zax (args:=[.agg #[.int .u32 gn,.int .u32 bd,.slice ao l.length cp],.slice bo b.length cq]) func11 Z Z Z ?_
 have V:St w NoM [] [LxG,Res.rmod ao l,Res.rs bo b.length 1 (b.flatMap byC)] w:=St.init_Ds (by simp only [List.forall_mem_cons]; exact ⟨hG,hA0,hA1,fun _ h=>absurd h List.not_mem_nil⟩)
 obtain ⟨se,sa,hS⟩:∃ se sa,zbG bd (l.map InstP.L) = (se,sa):=⟨_,_,rfl⟩
 have hln:=hs.len
 refine SR<|Q<|zbn (v:=zex _ _ _ _ _) V Z Z fun w b2 V=>AB Z<|G<|SQ<|SR<|Q<|zaC (vs:=zmF _ _ _ _ _) zem Z Z Z (zab (n:=3) (V.objL Q0) _ Z)<|Q (zav (v1:=zex _ _ _ _ _) ent20 Z Z ((zeE _ _ l _ _ _ (V.hD _ Q1) hs.lenC hs.laC).mono fun v w hp=>?_))
 obtain ⟨bM1,dM1,rfl,hdM1,hp⟩:=hp
 replace V:St _ _ (_ :: _) _ _:=V.call0 hp
 refine Q<|zav (v1:=zex _ _ _ _ _) ent19 rfl rfl<|Ret.det (zhY (se:=se) (sa:=sa) (by rw [hdM1]; exact hS) _ _ _ (Res.rmod_of_omod (V.hL _ Q0)) (Small.of hdM1 hs)) V fun w V=>Q<|ziQ (v:=.int .i64 _) underlying28 rfl rfl (PartOk.one zhj rfl rfl)<|Q<|za8 rfl rfl<|G<|zaa rfl (fun g1=>?_) (fun g1=>?_)
 ·refine SR <| AB Z <| G <| zag func11 Z (TP (v := .bool _) Z) ?_
  first | exact ⟨rfl,V.pure⟩ | exact ⟨Vb (by simp),V.pure⟩
 have hs0:(zbG bd (l.map InstP.L)).1 = 0:=by rw [hS]; exact Nn g1
 obtain ⟨tt,htt⟩:∃ t,zlH gn bd ++ 10 :: za0 (l.map InstP.L) = t:=⟨_,rfl⟩
 have htl:=ztQ hs0 hu hgn hbd
 rw [htt] at htl
 refine zaj<|SR<|AS Z<|NSR<|MS Z<|Q (zav (v1:=str _) ztO Z Z ((zfs zoV _ (V.hD _ Q0) De).mono fun v w hp=>?_))
 obtain ⟨aO2,cO2,dO2,hdO2,rfl,hsO2,hp⟩:=hp
 replace V:St _ _ (_ :: _) _ _:=V.call0 hp
 refine Q<|zad (v:=.tuple #[zex _ _ _ _ _,gII _ _]) Z<|Q<|Ex (zex _ _ _ _ _) Z Z<|Q<|Ex (gII _ _) Z Z<|Q<|zaw V zem fun w b6 V=>Q<|zaw V zbr fun w b7 V=>Q (SO (v:=zex _ _ _ _ _) V zem Z Z .u1 fun w V=>?_)
 refine Q (SO (v:=gII _ _) V zbr Z Z .u0 fun w V=>?_)
 refine G<|SQ<|SQ ?_
 have hz2:dO2.length = 0:=by simpa using congrArg List.length hdO2
 refine RG<|Q<|zac zco Z<|Q<|zae (v:=.int .i64 _) zhj Z Z (V.cellL Q0 Z)<|Q<|za8 Z Z<|MB Z<|zaz (d:=24) Z (fun g2=>?_) (fun g2=>?_)
 ·exfalso
  exact g2 Z
 refine TK (t:=24) Z (Vb (Df g2))<|zac zfq Z<|TK (t:=24) Z (Vb (Df g2))<|zae (v:=.int .u32 _) zbM Z Z (V.cellL Q1 Z)<|TK (t:=24) Z (Vb (Df g2))<|za8 Z Z<|Q<|zay (u:=.bool _) (Vb (Df g2)) Z<|MB Z<|zaz (d:=29) Z (fun g3=>?_) (fun g3=>?_)
 ·exfalso
  exact g3 Z
 refine TK (t:=29) Z (Vb (Df g3))<|zac zcU Z<|TK (t:=29) Z (Vb (Df g3))<|zae (v:=.int .u32 _) zbM Z Z (V.cellL Q1 Z)<|TK (t:=29) Z (Vb (Df g3))<|za8 Z Z<|Q<|zay (u:=.bool _) (Vb (Df g3)) Z<|MB Z<|zaz (d:=34) Z (fun g4=>?_) (fun g4=>?_)
 ·exfalso
  exact g4 Z
 refine TK (t:=34) Z (Vb (Df g4))<|zac zbR Z<|TK (t:=34) Z (Vb (Df g4))<|zae (v:=.slice _ _ _) zdD Z Z (V.cellL Q1 Z)<|TK (t:=34) Z (Vb (Df g4))<|zaQ (rest:=[]) zdD Z<|TK (t:=34) Z (Vb (Df g4))<|za8 Z Z<|Q<|zay (u:=.bool _) (Vb (Df g4)) Z<|G<|zal [(1,.slice _ _ _),(2,Pp _ _),(6,Pp _ _),(7,Pp _ _),(39,.bool _)] E5 fun f=>zaa Z (fun g5=>?_) (fun g5=>?_)
 ·exfalso
  omega
 refine zaj<|SR<|Q<|zaC (vs:=zmF _ _ _ _ _) zem Z Z Z (zab (n:=3) (V.objL Q4) _ Z)<|Q<|zav (v1:=zex _ _ _ _ _) ent42 Z Z<|Ret.det (zlV htt _ _ _ (V.hD _ Q1) hs hu hgn hbd hs0) V fun w V=>AS Z<|G<|SQ<|SR<|MS Z<|Q<|zaX (rest:=[]) ty9 Z<|ML Z<|Q (zaQ (rest:=[]) zgh Z ?_)
 first | refine Q (zcw rfl rfl rfl zbS ?_) | refine Q (znc rfl rfl O O O O (fun hm6 hm7=>?_))
 refine Q<|zaD Z Z Z zbS<|Q<|zbW Z Z<|G<|zaa Z (fun g8=>?_) (fun g8=>?_)
 ·refine SR <| AB Z <| G <| zag func11 Z (TP (v := .bool _) Z) ?_
  first | exact ⟨rfl,V.pure⟩ | exact ⟨Vb (by simp),V.pure⟩
 refine zaj<|SR<|AS Z<|NSR<|AI Z<|G<|SQ<|SR<|AI Z<|G<|zau ?_
 refine zba<|za7 [(1,.slice _ _ _),(2,Pp _ _),(5,str _),(6,Pp _ _),(7,Pp _ _)] E5 (fun (qr:Nat × Nat × Tx)=>[(8,str qr.2.2),(9,.int .i64 (qr.2.1:Int)),(10,.int .i64 (qr.1:Int))]) (fun (qr:Nat × Nat × Tx)=>[]) (fun (qr:Nat × Nat × Tx)=>noteJ tt (byI b) qr.1 qr.2.1 qr.2.2) (fun (qr:Nat × Nat × Tx)=>tt.length - qr.1) ((0,0,[])) V (noteJ.start _ _) E3 ?_
 intro ⟨i,k,o⟩ f w V hJ ih9
 replace V:St _ _ ([] ++ [_,_,_,_,_]) _ _:=V
 replace hJ:noteJ tt (byI b) i k o:=hJ
 refine zbj (sl:=[(8,str o),(9,.int .i64 (k:Int)),(10,.int .i64 (i:Int))]) E3 ?_
 have hi1:=hJ.1
 have hk1:=hJ.2.1
 have hol:=hJ.2.2.2
 rw [List.length_map] at hk1
 refine SQ<|SR<|MI Z<|MS Z<|Q<|zaX (rest:=[]) ty9 Z<|Q<|zaY Z Z<|G<|zaa Z (fun g10=>?_) (fun g10=>?_)
 ·have hi : i < tt.length := by omega
  have hso:=congrArg List.length (zff hi)
  rw [List.length_singleton] at hso
  have hidx:(tt.getD ((i:Int).toNat) 0).toNat = (tt.getD i 0).toNat:=rfl
  refine zaj<|SQ<|zau<|SR<|MS rfl<|MS rfl<|MI rfl<|MI rfl<|Q<|zaD rfl rfl rfl zbS<|Q<|zeG ty9 rfl rfl rfl (by omega) (by omega) (by omega)<|Q<|za2 rfl rfl (by first | omega | (simp only [List.length_cons,List.length_nil,List.length_append]; omega) | (simp; omega))<|AS rfl<|G<|SQ ?_
  refine RG<|MS Z<|MI Z<|Q<|zaZ ty9 Z Z O O<|Q<|zai Z Z<|MB Z<|zaz (d:=66) Z (fun g11=>?_) (fun g11=>?_)
  ·refine TK (t := 66) Z (Vb (Dt g11)) <| zad (v := .int .i64 _) Z <| TK (t := 66) Z (Vb (Dt g11)) <| zad (v := .slice _ _ _) Z <| TK (t := 66) Z (Vb (Dt g11)) <| zaQ (rest := []) zgh Z <| TK (t := 66) Z (Vb (Dt g11)) <| zaY Z Z <| Q <| zaE (u := .bool _) (Vb (Dt g11)) Z <| G <| zal [(1, .slice _ _ _), (2, Pp _ _), (5, str _), (6, Pp _ _), (7, Pp _ _), (8, str _), (9, .int .i64 _), (10, .int .i64 _), (71, .bool _)] E9 fun f => zaa Z (fun g12 => ?_) (fun g12 => ?_)
   ·have hkn : k < b.length := by omega
    refine SQ<|SR<|ML Z<|MI Z<|Q<|zbe zgh ty5 (V.hD _ Q2) Z Z O O<|Q (zae (v:=.int .u8 _) ty5 Z Z (Res.rs2_cell (V.hD _ Q2) (zc3 (g:=byC) (d:=0) zjw Z O)) ?_)
    first | refine Q (zcl rfl rfl O O rfl ?_) | refine Q (zcV rfl rfl O ?_)
    refine Q<|zai Z Z<|G<|zaa Z (fun g13=>?_) (fun g13=>?_)
    ·refine RG <| MS rfl <| Q <| za2 rfl rfl (by first | omega | (simp only [List.length_cons, List.length_nil, List.length_append]; omega) | (simp; omega)) <| AS rfl <| NR <| MI rfl <| Q <| zaD rfl rfl rfl zbS <| AI rfl <| G <| zan <| RG <| MI rfl <| Q <| zaD rfl rfl rfl zbS <| AI rfl ?_
     refine G<|zaG ?_
     exact ih9 ((i + 1,k + 1,o ++ [tt.getD i 0] ++ zcN ((byI b).getD k 0))) _ w ((by (try dsimp only); omega)) V ((hJ.hit hi (by omega) (by rw [List.length_map]; omega))) E5 ⟨(congrArg str (by rw [show zcN ((byI b).getD k 0) = _ from (zg5 hkn).trans (noteC0 (show ( ((b.getD k 0).toNat:Int) % 4 = 0) from g13)),← zff hi])),(Vi (by (try dsimp only); omega)),(Vi (by (try dsimp only); omega)),trivial⟩
    refine SR<|ML Z<|MI Z<|Q<|zbe zgh ty5 (V.hD _ Q2) Z Z O O<|Q (zae (v:=.int .u8 _) ty5 Z Z (Res.rs2_cell (V.hD _ Q2) (zc3 (g:=byC) (d:=0) zjw Z O)) ?_)
    first | refine Q (zcl rfl rfl O O rfl ?_) | refine Q (zcV rfl rfl O ?_)
    refine Q<|zai Z Z<|G<|zaa Z (fun g14=>?_) (fun g14=>?_)
    ·refine RG <| MS rfl <| Q <| za2 rfl rfl (by first | omega | (simp only [List.length_cons, List.length_nil, List.length_append]; omega) | (simp; omega)) <| AS rfl <| NR <| MI rfl <| Q <| zaD rfl rfl rfl zbS <| AI rfl <| G <| zan <| RG <| MI rfl <| Q <| zaD rfl rfl rfl zbS <| AI rfl ?_
     refine G<|zaG ?_
     exact ih9 ((i + 1,k + 1,o ++ [tt.getD i 0] ++ zcN ((byI b).getD k 0))) _ w ((by (try dsimp only); omega)) V ((hJ.hit hi (by omega) (by rw [List.length_map]; omega))) E5 ⟨(congrArg str (by rw [show zcN ((byI b).getD k 0) = _ from (zg5 hkn).trans (noteC1 (show (¬ ((b.getD k 0).toNat:Int) % 4 = 0) from g13) (show ( ((b.getD k 0).toNat:Int) % 4 = 1) from g14)),← zff hi])),(Vi (by (try dsimp only); omega)),(Vi (by (try dsimp only); omega)),trivial⟩
    refine SR<|ML Z<|MI Z<|Q<|zbe zgh ty5 (V.hD _ Q2) Z Z O O<|Q (zae (v:=.int .u8 _) ty5 Z Z (Res.rs2_cell (V.hD _ Q2) (zc3 (g:=byC) (d:=0) zjw Z O)) ?_)
    first | refine Q (zcl rfl rfl O O rfl ?_) | refine Q (zcV rfl rfl O ?_)
    refine Q<|zai Z Z<|G<|zaa Z (fun g15=>?_) (fun g15=>?_)
    ·refine RG <| MS rfl <| Q <| za2 rfl rfl (by first | omega | (simp only [List.length_cons, List.length_nil, List.length_append]; omega) | (simp; omega)) <| AS rfl <| G <| zal [(1, .slice _ _ _), (2, Pp _ _), (5, str _), (6, Pp _ _), (7, Pp _ _), (8, str _), (9, .int .i64 _), (10, .int .i64 _)] E8 fun f => RG <| MI rfl <| Q <| zaD rfl rfl rfl zbS <| AI rfl <| G <| zan <| RG <| MI rfl <| Q (zaD rfl rfl rfl zbS ?_)
     refine AI Z<|G<|zaG ?_
     exact ih9 ((i + 1,k + 1,o ++ [tt.getD i 0] ++ zcN ((byI b).getD k 0))) _ w ((by (try dsimp only); omega)) V ((hJ.hit hi (by omega) (by rw [List.length_map]; omega))) E5 ⟨(congrArg str (by rw [show zcN ((byI b).getD k 0) = _ from (zg5 hkn).trans (noteC2 (show (¬ ((b.getD k 0).toNat:Int) % 4 = 0) from g13) (show (¬ ((b.getD k 0).toNat:Int) % 4 = 1) from g14) (show ( ((b.getD k 0).toNat:Int) % 4 = 2) from g15)),← zff hi])),(Vi (by (try dsimp only); omega)),(Vi (by (try dsimp only); omega)),trivial⟩
    refine zaj<|RG<|MI Z<|Q<|zaD Z Z Z zbS<|AI Z<|G<|zan<|zal [(1,.slice _ _ _),(2,Pp _ _),(5,str _),(6,Pp _ _),(7,Pp _ _),(8,str _),(9,.int .i64 _),(10,.int .i64 _)] E8 fun f=>RG<|MI Z<|Q<|zaD Z Z Z zbS<|AI Z<|G<|zaG ?_
    exact ih9 ((i + 1,k + 1,o ++ [tt.getD i 0] ++ zcN ((byI b).getD k 0))) _ w ((by (try dsimp only); omega)) V ((hJ.hit hi (by omega) (by rw [List.length_map]; omega))) E5 ⟨(congrArg str (by rw [show zcN ((byI b).getD k 0) = _ from (zg5 hkn).trans (noteC3 (show (¬ ((b.getD k 0).toNat:Int) % 4 = 0) from g13) (show (¬ ((b.getD k 0).toNat:Int) % 4 = 1) from g14) (show (¬ ((b.getD k 0).toNat:Int) % 4 = 2) from g15)),← zff hi]; simp)),(Vi (by (try dsimp only); omega)),(Vi (by (try dsimp only); omega)),trivial⟩
   refine zaj<|zan<|RG<|MI Z<|Q<|zaD Z Z Z zbS<|AI Z<|G<|zaG ?_
   exact ih9 ((i + 1,k,o ++ [tt.getD i 0])) _ w ((by (try dsimp only); omega)) V ((hJ.last hi (by rw [List.length_map]; omega))) E5 ⟨(congrArg str (congrArg (o ++ ·) (zff hi))),rfl,(Vi (by (try dsimp only); omega)),trivial⟩
  refine OM (t:=66) Z (Vb (Df g11)) Z<|OM (t:=66) Z (Vb (Df g11)) Z<|OM (t:=66) Z (Vb (Df g11)) Z<|OM (t:=66) Z (Vb (Df g11)) Z<|Q<|zay (u:=.bool _) (Vb (Df g11)) Z<|G<|zas (Vb (Z:false = _))<|zaj<|zan<|RG<|MI Z<|Q<|zaD Z Z Z zbS<|AI Z<|G<|zaG ?_
  exact ih9 ((i + 1,k,o ++ [tt.getD i 0])) _ w (Od) V ((hJ.no hi O)) E5 ⟨(congrArg str (congrArg (o ++ ·) (zff hi))),Z,(Vi Od),trivial⟩
 refine zaU (id:=0) Z<|SQ ?_
 obtain rfl:i = tt.length:=by omega
 have hpx:=znF htt hJ hs0 hgn hbd.1 hu O
 refine RG<|MS Z<|Q (zav (v1:=str _) ztO Z Z ((zfs hpx _ (V.hD _ Q0) O).mono fun v w hp=>?_))
 obtain ⟨aO3,cO3,dO3,hdO3,rfl,hsO3,hp⟩:=hp
 replace V:St _ _ (_ :: _) _ _:=V.call0 hp
 refine Q<|zad (v:=.tuple #[zex _ _ _ _ _,gII _ _]) Z<|Q<|Ex (zex _ _ _ _ _) Z Z<|Q<|Ex (gII _ _) Z Z<|Q (SO (v:=zex _ _ _ _ _) V zem Z Z .u2 fun w V=>?_)
 refine Q (SO (v:=gII _ _) V zbr Z Z .u1 fun w V=>?_)
 refine NSR<|Q<|zaC (vs:=lII _ _) zbr Z Z Z (zab (n:=2) (V.objL Q1) _ Z)<|Q (zaf zbr zc7 .nil ?_)
 refine Q<|znd (xs:=(lII _ _)) (ys:=(lII _ _)) Z Z Kr (zfv underlying28 Kr (.cons De (PartOk.one zhj Z Z) (PartOk.one zhj Z Z) (ze5 zhj) (.cons De (PartOk.one ty3 Z Z) (PartOk.one ty3 Z Z) (ze5 ty3) .nil)))<|MB Z<|zcF (d:=106) Z (fun g16=>?_) (fun g16=>?_)
 ·refine TK (t := 106) Z (Vb g16) <| zaC (vs := zmF _ _ _ _ _) zem Z Z Z (zab (n := 3) (V.objL Q2) _ Z) <| TK (t := 106) Z (Vb g16) <| zaC (vs := zmF _ _ _ _ _) zem Z Z Z (zab (n := 3) (V.objL Q5) _ Z) <| TK (t := 106) Z (Vb g16) (zaK (v1 := zex _ _ _ _ _) (v2 := zex _ _ _ _ _) ent22 Z Z Z ((zlW _ _ _ _ dO3 l _ _ _ _ _ (Res.rmod_of_omod (V.hL _ Q0)) (V.hD _ Q1) (by have := hsO3.1; omega) (fun i hi => (hsO3.2 i hi).len9)).mono fun v w hp => ?_))
  obtain ⟨he,hp⟩:=hp
  replace he:=he.trans (Vb (znr hdO3))
  subst he
  replace V:=V.keepc hp
  refine Q<|zaE (u:=.bool _) (Vb g16) Z<|AB Z<|G<|zag func11 Z (TP (v:=.bool _) Z) ?_
  first | exact ⟨rfl,V.pure⟩ | exact ⟨Vb (by simp),V.pure⟩
 exfalso
 first | exact g16 rfl | (simp at g16; done)
end Go.SK
