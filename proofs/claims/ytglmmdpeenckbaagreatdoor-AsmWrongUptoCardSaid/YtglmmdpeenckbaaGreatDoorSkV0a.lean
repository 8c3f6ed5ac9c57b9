/-
  Steps of functions,plain law,and walks of functions: what the laws rest on.
-/
import Derived.WalkKit
import Derived.WalkSpells
import Derived.KernelRfl
import Derived.ProofKit
import Derived.OpenShut
import Derived.ShutString
import Derived.ChangeOld
import Derived.Below
import Derived.Laws.MakeOwn
import Derived.ArgAppend
import Derived.SizedLaws
import Derived.Laws.BytesArg
import Derived.Laws.StandIn
import Derived.Lib.ConvBytes
import Derived.Shelf.Strings.OnBuilder
import Derived.Shelf.Strconv.Itoa2
import Derived.Shelf.Strconv.Itoa1
import Derived.Shelf.Strconv.ToError
import Derived.Shelf.Strings.Search2
import Derived.Shelf.Pu.ErrVarParseUint
import Derived.Shelf.Small.Strs
import Derived.Shelf.Small.Wraps
import Derived.Shelf.Strconv.Lower
import Derived.Test.YtglmmdpeenckbaaGreatDoorProg
import Derived.Test.YtglmmdpeenckbaaGreatDoorCards
import Derived.Test.YtglmmdpeenckbaaGreatDoorTie
import Derived.Deep.DeepHandedRow
import Derived.Deep.DeepWitnessRowRef
import Derived.Lib.LaidTab
import Derived.Stop.LaidErr
import Derived.LaidMore
import Derived.ChangeMaps5
import Derived.Lib.AppendStr
import Derived.Lib.Builder
import Derived.Lib.UnsafeStr
set_option linter.unusedVariables false
set_option linter.unusedSimpArgs false
set_option linter.unusedSectionVars false
namespace Go.SK
theorem Dt {p:Prop} [inst:Decidable p] (h:p):decide p = true:=decide_eq_true h
theorem Df {p:Prop} [inst:Decidable p] (h:¬ p):decide p = false:=decide_eq_false h
theorem Nn {a:Prop} (h:¬¬a):a:=Classical.not_not.1 h
theorem Vb {a b:Bool} (h:a = b):Value.bool a = Value.bool b:=congrArg Value.bool h
theorem Vi {a b:Int} (h:a = b):Value.int .i64 a = Value.int .i64 b:=congrArg (Value.int .i64) h
theorem Z {α:Sort _} {a:α}:a = a:=rfl
theorem O {p:Prop} (h:p:=by omega):p:=h
theorem Od {p:Prop} (h:p:=by (try dsimp only); omega):p:=h
theorem De {p:Prop} (h:p:=by decide):p:=h
theorem Kr {p:Prop} (h:p:=by kernel_rfl):p:=h
open Go.RowKit
structure Base where
  fn:FuncId
  n:Nat
  defers:List Deferred
  kind:CallKind
  ro:Option Nat
def tm (n:Nat) (f:Nat → Value):Array Value:=Array.ofFn (n:=n) fun i=>f i.1
def Base.fr (b:Base) (k:List Item) (f:Nat → Value):Frame :=
  { fn:=b.fn,tmps:=tm b.n f,todo:=k,defers:=b.defers,mode:=.run,kind:=b.kind,roundOf:=b.ro }
def ev (n:Nat) (f:Nat → Value):Operand → Value
  | .tmp t=>bif Nat.blt t n then f t else undef
  | .const v=>v
  | .global g=>.pointer (some ⟨g,0,none⟩)
  | .func g=>.func (.func g) #[] #[]
def upd (f:Nat → Value) (d:Nat) (v:Value):Nat → Value:=fun t=>bif Nat.beq t d then v else f t
def zfw (f:Nat → Value):Option Tmp → Value → (Nat → Value)
  | some d,v=>upd f d v
  | none,_=>f
theorem zgY (f:Nat → Value) (d:Nat) (v:Value):upd f d v d = v:=by simp [upd]
theorem ziq (f:Nat → Value) {d t:Nat} (v:Value) (h:t ≠ d):upd f d v t = f t:=by
  have:Nat.beq t d = false:=by
    cases hb:Nat.beq t d with
    | false=>rfl
    | true=>exact absurd (Nat.eq_of_beq_eq_true hb) h
  simp [upd,this]
theorem zi2 (n:Nat) (f:Nat → Value) (t:Nat):(tm n f).getD t undef = ev n f (.tmp t):=by
  by_cases h:t < n
  · have : Nat.blt t n = true := by simpa using h
    simp [tm,ev,this,h]
  · have:Nat.blt t n = false:=by
      cases hb:Nat.blt t n with
      | false=>rfl
      | true=>exact absurd (by simpa using hb) h
    simp [tm,ev,this,h]
theorem zo3? (n:Nat) (f:Nat → Value) (t:Nat):(tm n f)[t]? = if t < n then some (f t) else none:=by
  by_cases h:t < n <;> simp [tm,h]
theorem zsB (n:Nat) (f:Nat → Value) (d:Nat) (v:Value):tm n (upd f d v) = (tm n f).setIfInBounds d v:=by
  apply Array.ext
  · simp [tm]
  · intro i h1 h2
    simp only [tm,Array.size_ofFn] at h1
    by_cases h:d = i
    · subst h; simp [tm,zgY]
    · rw [Array.getElem_setIfInBounds_ne _ h]
      · simp [tm,ziq _ v (Ne.symm h)]
      · simpa [tm] using h1
theorem zlI (b:Base) (k:List Item) (f:Nat → Value):(b.fr k f).eval = ev b.n f:=by
  funext x
  cases x with
  | tmp t=>exact zi2 b.n f t
  | _=>rfl
def Run (P:Program) (b:Base) (k:List Item) (f:Nat → Value) (w:World) (E:Frame → World → Prop):Prop :=
  ∀ cs,∃ fr w',Steps P (lone (b.fr k f) cs w) (lone fr cs w') ∧ E fr w'
section
variable {P:Program} {b:Base} {k:List Item} {f:Nat → Value} {w:World} {E:Frame → World → Prop}
theorem zbs {k':List Item} {f':Nat → Value} {w':World} (h:∀ cs,step P (lone (b.fr k f) cs w) = .next (lone (b.fr k' f') cs w'))
    (hr:Run P b k' f' w' E):Run P b k f w E:=fun cs =>
  let ⟨fr,w2,hs,he⟩:=hr cs
  ⟨fr,w2,.head (h cs) hs,he⟩
theorem Run.mono {E':Frame → World → Prop} (h:Run P b k f w E) (he:∀ fr w,E fr w → E' fr w):Run P b k f w E':=fun cs =>
  let ⟨fr,w2,hs,h⟩:=h cs
  ⟨fr,w2,hs,he _ _ h⟩
theorem zaj (h:Run P b k f w E):Run P b (.code .skip :: k) f w E :=
  zbs (fun cs=>step_lone_go (by simp [stepG,stepG.exec,Base.fr])) h
theorem zfG {l:Nat} (h:Run P b k f w E):Run P b (.code (.label l) :: k) f w E :=
  zbs (fun cs=>step_lone_go (by simp [stepG,stepG.exec,Base.fr])) h
theorem zan {id:Nat} (h:Run P b k f w E):Run P b (.inBlock id :: k) f w E :=
  zbs (fun cs=>step_lone_go (by simp [stepG,stepG.exec,Base.fr])) h
theorem zls {x y:Code} (h:Run P b (.code x :: .code y :: k) f w E):Run P b (.code (.seq x y) :: k) f w E :=
  zbs (fun cs=>step_lone_go (by simp [stepG,stepG.exec,Base.fr])) h
theorem zau {id:Nat} {c:Code} (h:Run P b (.code c :: .inBlock id :: k) f w E):Run P b (.code (.block id c) :: k) f w E :=
  zbs (fun cs=>step_lone_go (by simp [stepG,stepG.exec,Base.fr])) h
theorem zhs {c:Code} (h:Run P b (.code c :: .inScope c :: k) f w E):Run P b (.code (.scope c) :: k) f w E :=
  zbs (fun cs=>step_lone_go (by simp [stepG,stepG.exec,Base.fr])) h
theorem zba {c:Code} (h:Run P b (.code c :: .inLoop c :: k) f w E):Run P b (.code (.loop c) :: k) f w E :=
  zbs (fun cs=>step_lone_go (by simp [stepG,stepG.exec,Base.fr])) h
theorem zaG {c:Code} (h:Run P b (.code c :: .inLoop c :: k) f w E):Run P b (.inLoop c :: k) f w E :=
  zbs (fun cs=>step_lone_go (by simp [stepG,stepG.exec,Base.fr])) h
theorem zaU {id:Nat} {k':List Item} (hx:exitTo id k = some k') (h:Run P b k' f w E):Run P b (.code (.exit id) :: k) f w E :=
  zbs (fun cs=>step_lone_go (by simp [stepG,stepG.exec,Base.fr,hx])) h
theorem zg1 {l:Nat} {k':List Item} (hx:gotoIn l k = some k') (h:Run P b k' f w E):Run P b (.code (.goto l) :: k) f w E :=
  zbs (fun cs=>step_lone_go (by simp [stepG,stepG.exec,Base.fr,hx])) h
theorem zg3 {c:Operand} {x y:Code} {t:Bool} (hc:ev b.n f c = .bool t) (h:Run P b (.code (if t then x else y) :: k) f w E):Run P b (.code (.cond c x y) :: k) f w E :=
  zbs (fun cs=>step_lone_go (by
    have:=zlI b (.code (.cond c x y) :: k) f
    simp only [Base.fr] at this
    simp [stepG,stepG.exec,Base.fr,this,hc])) h
theorem zat {c:Operand} {x y:Code} (hc:ev b.n f c = .bool true) (h:Run P b (.code x :: k) f w E):Run P b (.code (.cond c x y) :: k) f w E:=zg3 hc h
theorem zas {c:Operand} {x y:Code} (hc:ev b.n f c = .bool false) (h:Run P b (.code y :: k) f w E):Run P b (.code (.cond c x y) :: k) f w E:=zg3 hc h
theorem zaR {c:Operand} {x y:Code} {t:Bool} (hc:ev b.n f c = .bool t) (h1:t = true → Run P b (.code x :: k) f w E) (h2:t = false → Run P b (.code y :: k) f w E) :
    Run P b (.code (.cond c x y) :: k) f w E:=by
  cases t with
  | true=>exact zg3 hc (h1 rfl)
  | false=>exact zg3 hc (h2 rfl)
def RunL (P:Program) (b:Base) (ops:Array Oper) (l:List Oper) (k:List Item) (f:Nat → Value) (w:World) (E:Frame → World → Prop):Prop :=
  ∀ idxs:List Nat,idxs.map (ops[·]?) = l.map some → Run P b (.inRegion ops idxs :: k) f w E
theorem zeN {id:Nat} {l:List Oper} (h:RunL P b l.toArray l k f w E):Run P b (.code (.region id l.toArray false) :: k) f w E:=by
  have hh:=h (List.range l.length) (by
    apply List.ext_getElem
    · simp
    · intro i h1 h2
      simp at h1
      simp [h1])
  exact zbs (fun cs=>step_lone_go (by simp [stepG,stepG.exec,Base.fr])) hh
theorem RunL.nil {ops:Array Oper} (h:Run P b k f w E):RunL P b ops [] k f w E:=by
  intro idxs hi
  have:idxs = []:=by simpa using hi
  subst this
  exact zbs (fun cs=>step_lone_go (by simp [stepG,stepG.exec,Base.fr])) h
end
def zsJ:List Item → Bool
  | .inRegion _ _ :: _ | .inRangeFunc _ :: _ | .beginRound :: _=>true
  | _=>false
def Inv (P:Program) (s:Sem Next) (w:World) (C:Value → World → Prop):Prop :=
  ∀ (fr : Frame) (cs : List Frame), zsJ fr.todo = true →
    (stepG P true { frame:=fr,callers:=cs,status:=.running,dying:=none } w).bare = (stepG.apply P true fr cs none s w).bare →
    ∃ v w',C v w' ∧ Steps P (lone fr cs w) (lone (fr.finish v) cs w')
def Ret (P:Program) (g:FuncId) (args:Array Value) (w:World) (C:Value → World → Prop):Prop :=
  Calls P g args w fun e w'=>∃ v,e = .returned v ∧ C v w'
section
variable {P:Program} {s:Sem Next} {w:World} {C:Value → World → Prop}
theorem Ret.mono {g:FuncId} {args:Array Value} {C':Value → World → Prop} (h:Ret P g args w C) (hc:∀ v w,C v w → C' v w):Ret P g args w C' :=
  Calls.mono h fun e w' ⟨v,he,h⟩=>⟨v,he,hc v w' h⟩
theorem Inv.mono {C':Value → World → Prop} (h:Inv P s w C) (hc:∀ v w,C v w → C' v w):Inv P s w C' :=
  fun fr cs h1 h3=>let ⟨v,w',c,st⟩:=h fr cs h1 h3; ⟨v,w',hc _ _ c,st⟩
theorem Inv.value {v:Value} {w':World} (hr:s.run P w = .ok (.value v) w') (hc:C v w'):Inv P s w C:=fun fr cs _ h =>
  ⟨v,w',hc,.one (step_lone_go (by rw [h]; simp only [stepG.apply,Sem.runT_eq,hr,GStep.bare_after,if_true]; rfl))⟩
theorem Inv.skip {w':World} (hr:s.run P w = .ok .skip w') (hc:C undef w'):Inv P s w C:=fun fr cs _ h =>
  ⟨undef,w',hc,.one (step_lone_go (by rw [h]; simp only [stepG.apply,Sem.runT_eq,hr,GStep.bare_after,if_true]; rfl))⟩
theorem Inv.enter {g:FuncId} {args:Array Value} {w':World} (hr:s.run P w = .ok (.enter g args) w') (hc:Ret P g args w' C):Inv P s w C:=fun fr cs hn1 h=>by
  obtain ⟨e,w2,fr2,⟨v,rfl,hC⟩,hcomes,hfn,hleave⟩:=hc (fr :: cs)
  refine ⟨v,w2,hC,.head (m₁:=lone (Frame.enter P g args .normal) (fr :: cs) w') (step_lone_go ?_) (hcomes.trans (.one (step_leave_returned hleave)))⟩
  rw [h]
  simp only [stepG.apply,Sem.runT_eq,hr,GStep.bare_after,if_true]
  cases ht:fr.todo with
  | nil=>rfl
  | cons x k=>cases x <;> first | rfl | (rw [ht] at hn1; simp [zsJ] at hn1)
end
def Op1 (P:Program) (op:Op) (ty:TypeId) (ρ:Operand → Value) (w:World) (C:Value → World → Prop):Prop :=
  Inv P (execOp ρ ⟨none, op, ty, "", #[], none⟩) w C
theorem zky (ρ : Operand → Value) (o : Oper) : execOp ρ o = execOp ρ ⟨none, o.op, o.type, "", #[], none⟩ := by
  cases o with
  | mk d op ty pos aft g=>cases op <;> rfl
def zcr:Op → Bool
  | .defer _=>true
  | _=>false
section
variable {P:Program} {b:Base} {k:List Item} {f:Nat → Value} {w:World} {E:Frame → World → Prop} {ops:Array Oper} {l:List Oper}
theorem zhM (b:Base) (ops:Array Oper) (i:Nat) (rest:List Nat) (k:List Item) (f:Nat → Value) (v:Value) :
    (b.fr (.inRegion ops (i :: rest) :: k) f).finish v = b.fr (.inRegion ops rest :: k) (zfw f ((ops[i]?).bind (·.dst)) v):=by
  cases h:(ops[i]?).bind (·.dst) with
  | none=>simp [Frame.finish,Base.fr,h,zfw]
  | some d=>simp [Frame.finish,Base.fr,h,zfw,zsB]
theorem zpq {i:Nat} {rest:List Nat} {o:Oper} (ho:ops[i]? = some o) (hw:Region.wanted o (yielded ops (tm b.n f)) = true) (hd:zcr o.op = false) (cs:List Frame) :
    (stepG P true { frame:=b.fr (.inRegion ops (i :: rest) :: k) f,callers:=cs,status:=.running,dying:=none } w).bare =
      (stepG.apply P true (b.fr (.inRegion ops (i :: rest) :: k) f) cs none (execOp (ev b.n f) o) w).bare:=by
  have he:=zlI b (.inRegion ops (i :: rest) :: k) f
  simp only [Base.fr] at he
  cases o with
  | mk d op ty pos aft g =>
    cases op <;> first | (simp [zcr] at hd; done) | (simp [stepG,stepG.exec,stepG.oper,Frame.oper?,Base.fr,ho,hw,he]; try (cases b.ro <;> rfl))
theorem zlx {i:Nat} {rest:List Nat} (h:((ops[i]?).map (Region.wanted · (yielded ops (tm b.n f)))).getD false = false) (cs:List Frame) :
    step P (lone (b.fr (.inRegion ops (i :: rest) :: k) f) cs w) = .next (lone (b.fr (.inRegion ops rest :: k) (zfw f ((ops[i]?).bind (·.dst)) undef)) cs w):=by
  rw [← zhM]
  refine step_lone_go ?_
  have h':=h
  simp only [Base.fr] at *
  simp [stepG,stepG.exec,h']
theorem RunL.step {o:Oper} (hw:Region.wanted o (yielded ops (tm b.n f)) = true) (hd:zcr o.op = false)
    (h:Op1 P o.op o.type (ev b.n f) w (fun v w'=>RunL P b ops l k (zfw f o.dst v) w' E)):RunL P b ops (o :: l) k f w E:=by
  intro idxs hi cs
  cases idxs with
  | nil=>simp at hi
  | cons i rest =>
    simp only [List.map_cons,List.cons.injEq] at hi
    obtain ⟨ho,hrest⟩:=hi
    have hs:=zpq (P:=P) (k:=k) (w:=w) (rest:=rest) ho hw hd cs
    rw [zky] at hs
    obtain ⟨v,w',hC,hsteps⟩:=h (b.fr (.inRegion ops (i :: rest) :: k) f) cs rfl hs
    rw [zhM,ho] at hsteps
    obtain ⟨fr,w2,hs2,he⟩:=hC rest hrest cs
    exact ⟨fr,w2,hsteps.trans hs2,he⟩
theorem RunL.cons {d:Option Tmp} {op:Op} {ty:TypeId} {pos:String} {aft:Array Edge} (h:Op1 P op ty (ev b.n f) w (fun v w'=>RunL P b ops l k (zfw f d v) w' E))
    (hd:zcr op = false:=by rfl):RunL P b ops (⟨d,op,ty,pos,aft,none⟩ :: l) k f w E :=
  RunL.step (by rfl) hd h
theorem zeJ {j t:Nat} {c:Bool} (hj:(ops[j]?).bind (·.dst) = some t) (hv:ev b.n f (.tmp t) = .bool c):yielded ops (tm b.n f) j = some c:=by
  have ht:t < b.n:=by
    rcases Nat.lt_or_ge t b.n with h | h
    · exact h
    · have:Nat.blt t b.n = false:=by
        cases hb:Nat.blt t b.n with
        | false=>rfl
        | true=>exact absurd (by simpa using hb) (by omega)
      simp [ev,this,undef] at hv
  have hb:Nat.blt t b.n = true:=by simpa using ht
  simp only [ev,hb,cond_true] at hv
  simp [yielded,hj,zo3?,ht,hv]
theorem RunL.take {d:Option Tmp} {op:Op} {ty:TypeId} {pos:String} {aft:Array Edge} {j t:Nat} {c:Bool} (hj:(ops[j]?).bind (·.dst) = some t) (hv:ev b.n f (.tmp t) = .bool c)
    (h:Op1 P op ty (ev b.n f) w (fun v w'=>RunL P b ops l k (zfw f d v) w' E))
    (hd:zcr op = false:=by rfl):RunL P b ops (⟨d,op,ty,pos,aft,some (j,c)⟩ :: l) k f w E :=
  RunL.step (by simp [Region.wanted,zeJ hj hv]) hd h
theorem ziS {j t:Nat} (hj:(ops[j]?).bind (·.dst) = some t) (hv:ev b.n f (.tmp t) = undef):yielded ops (tm b.n f) j = none:=by
  by_cases ht:t < b.n
  · have hb : Nat.blt t b.n = true := by simpa using ht
    simp only [ev,hb,cond_true] at hv
    simp [yielded,hj,zo3?,ht,hv,undef]
  · simp [yielded,hj,zo3?,ht]
theorem zaM {d:Option Tmp} {op:Op} {ty:TypeId} {pos:String} {aft:Array Edge} {j t:Nat} {c:Bool} (hj:(ops[j]?).bind (·.dst) = some t) (hv:ev b.n f (.tmp t) = undef)
    (h:RunL P b ops l k (zfw f d undef) w E):RunL P b ops (⟨d,op,ty,pos,aft,some (j,c)⟩ :: l) k f w E:=by
  intro idxs hi
  cases idxs with
  | nil=>simp at hi
  | cons i rest =>
    simp only [List.map_cons,List.cons.injEq] at hi
    obtain ⟨ho,hrest⟩:=hi
    have hs:=fun cs=>zlx (P:=P) (k:=k) (w:=w) (b:=b) (f:=f) (ops:=ops) (i:=i) (rest:=rest) (by
      simp [ho,Region.wanted,ziS hj hv]) cs
    refine zbs hs ?_
    rw [ho]
    exact h rest hrest
theorem zqq {d:Option Tmp} {op:Op} {ty:TypeId} {pos:String} {aft:Array Edge} {j t:Nat} {c c':Bool} (hj:(ops[j]?).bind (·.dst) = some t) (hv:ev b.n f (.tmp t) = .bool c')
    (hne:c' = !c) (h:RunL P b ops l k (zfw f d undef) w E):RunL P b ops (⟨d,op,ty,pos,aft,some (j,c)⟩ :: l) k f w E:=by
  intro idxs hi
  cases idxs with
  | nil=>simp at hi
  | cons i rest =>
    simp only [List.map_cons,List.cons.injEq] at hi
    obtain ⟨ho,hrest⟩:=hi
    have hs:=fun cs=>zlx (P:=P) (k:=k) (w:=w) (b:=b) (f:=f) (ops:=ops) (i:=i) (rest:=rest) (by
      subst hne
      cases c <;> simp [ho,Region.wanted,zeJ hj hv]) cs
    refine zbs hs ?_
    rw [ho]
    exact h rest hrest
end
def zeI (P:Program) (fid:FuncId) (C:Value → World → Prop):Frame → World → Prop :=
  fun fr w'=>∃ v,fr.fn = fid ∧ fr.leaving P w' (.returned v) ∧ C v w'
def zt0:List Value → Nat → (Nat → Value)
  | [],_=>fun _=>undef
  | v :: l,i=>upd (zt0 l (i + 1)) i v
theorem zn3 (l:List Value):∀ (i t:Nat),zt0 l i t = if i ≤ t then l.getD (t - i) undef else undef:=by
  induction l with
  | nil=>intro i t; simp [zt0]
  | cons v l ih =>
    intro i t
    by_cases h:t = i
    · subst h; simp [zt0,zgY]
    · simp only [zt0]
      rw [ziq _ v h,ih]
      by_cases h2:i ≤ t
      · rw [if_pos (by omega), if_pos h2]
        obtain ⟨m,hm⟩:∃ m,t - i = m + 1:=⟨t - i - 1,by omega⟩
        have hm2:t - (i + 1) = m:=by omega
        rw [hm,hm2]; rfl
      · rw [if_neg (by omega),if_neg h2]
def zbT (fid:FuncId) (n:Nat) (ds:List Deferred):Base:=⟨fid,n,ds,.normal,none⟩
theorem zax {P:Program} {fid:FuncId} {fn:Func} {c:Code} {args:List Value} {w:World} {C:Value → World → Prop} {n:Nat}
    (hf:P.funcs[fid]? = some fn) (hb:fn.body = some c) (hn:fn.ntmps = n) (ha:Nat.ble args.length n = true)
    (h:Run P (zbT fid n []) [.code c] (zt0 args 0) w (zeI P fid C)):Ret P fid args.toArray w C:=by
  intro cs
  obtain ⟨fr,w',hs,v,hfn,hl,hC⟩:=h cs
  refine ⟨.returned v,w',fr,⟨v,rfl,hC⟩,?_,hfn,hl⟩
  have he:Frame.enter P fid args.toArray .normal = (zbT fid n []).fr [.code c] (zt0 args 0):=by
    have ha':args.length ≤ n:=Nat.le_of_ble_eq_true ha
    simp only [Frame.enter,zbT,Base.fr,hf,hb,Option.map_some,Option.bind_some,Option.getD_some,hn]
    congr 1
    apply Array.ext
    · simp [tm]; omega
    · intro i h1 h2
      simp only [tm,Array.getElem_ofFn,zn3,Nat.zero_le,if_true,Nat.sub_zero]
      by_cases hi:i < args.length
      · simp [hi]
      · simp [Array.getElem_append,hi]
  rw [he]
  exact hs
def zhr (tmps:Array Value):ResultVar → Sem Value
  | .tmp t=>pure (tmps.getD t undef)
  | .cell a t=>do loadVar t (← asAddr (tmps.getD a undef))
theorem zeP (fn:Func) (tmps:Array Value):results fn tmps = (do let vs ← fn.results.mapM (zhr tmps); pure (if h:vs.size = 1 then vs[0] else .tuple vs)):=by
  unfold results
  congr 1
section
variable {P:Program} {fn:Func} {tmps:Array Value} {w:World} {r1 r2 r3 r4:ResultVar} {v1 v2 v3 v4:Value}
theorem res0 (h:fn.results = #[]):(results fn tmps).run P w = .ok (.tuple #[]) w:=by
  rw [zeP]; simp [h]
theorem res1 (h:fn.results = #[r1]) (h1:(zhr tmps r1).run P w = .ok v1 w):(results fn tmps).run P w = .ok v1 w:=by
  rw [zeP]; simp [h,h1]
theorem zqS (h:fn.results = #[r1,r2]) (h1:(zhr tmps r1).run P w = .ok v1 w) (h2:(zhr tmps r2).run P w = .ok v2 w):(results fn tmps).run P w = .ok (.tuple #[v1,v2]) w:=by
  rw [zeP]; simp [h,Sem.run_bind,h1,h2]
theorem res3 (h:fn.results = #[r1,r2,r3]) (h1:(zhr tmps r1).run P w = .ok v1 w) (h2:(zhr tmps r2).run P w = .ok v2 w) (h3:(zhr tmps r3).run P w = .ok v3 w):(results fn tmps).run P w = .ok (.tuple #[v1,v2,v3]) w:=by
  rw [zeP]; simp [h,Sem.run_bind,h1,h2,h3]
end
def RV (P:Program) (n:Nat) (f:Nat → Value) (w:World) (r:ResultVar) (v:Value):Prop:=(zhr (tm n f) r).run P w = .ok v w
theorem RV.tmp {P:Program} {n:Nat} {f:Nat → Value} {w:World} {t:Tmp} {v:Value} (h:ev n f (.tmp t) = v):RV P n f w (.tmp t) v:=by
  simp only [RV,zhr,zi2,h]; rfl
theorem zji {P:Program} {fid:FuncId} {fn:Func} {n:Nat} {f:Nat → Value} {k:List Item} {w:World} {v:Value} {C:Value → World → Prop}
    (hf:P.funcs[fid]? = some fn) (hr:(results fn (tm n f)).run P w = .ok v w) (hC:C v w) :
    zeI P fid C { (zbT fid n []).fr k f with mode:=.returning } w :=
  ⟨v,rfl,⟨rfl,rfl,rfl,fn,hf,hr⟩,hC⟩
theorem zeM {P:Program} {fid:FuncId} {fn:Func} {n:Nat} {f:Nat → Value} {k:List Item} {w:World} {v:Value} {C:Value → World → Prop}
    (hf:P.funcs[fid]? = some fn) (hr:(results fn (tm n f)).run P w = .ok v w) (hC:C v w):Run P (zbT fid n []) (.code .ret :: k) f w (zeI P fid C):=fun cs =>
  ⟨_,w,.one (step_lone_go (fr':={ (zbT fid n []).fr (.code .ret :: k) f with mode:=.returning }) (by simp [stepG,stepG.exec,Base.fr,zbT])),zji hf hr hC⟩
theorem znt {P:Program} {fid:FuncId} {fn:Func} {n:Nat} {f:Nat → Value} {w:World} {v:Value} {C:Value → World → Prop}
    (hf:P.funcs[fid]? = some fn) (hr:(results fn (tm n f)).run P w = .ok v w) (hC:C v w):Run P (zbT fid n []) [] f w (zeI P fid C):=fun cs =>
  ⟨_,w,.one (step_lone_go (fr':={ (zbT fid n []).fr [] f with mode:=.returning }) (by simp [stepG,stepG.exec,Base.fr,zbT])),zji hf hr hC⟩
section
variable {P:Program} {fid:FuncId} {fn:Func} {n:Nat} {f:Nat → Value} {k:List Item} {w:World} {C:Value → World → Prop} {r1 r2 r3:ResultVar} {v1 v2 v3:Value}
theorem zi4 (hf:P.funcs[fid]? = some fn) (h:fn.results = #[]) (hC:C (.tuple #[]) w):Run P (zbT fid n []) (.code .ret :: k) f w (zeI P fid C) :=
  zeM hf (res0 h) hC
theorem zg2 (hf:P.funcs[fid]? = some fn) (h:fn.results = #[]) (hC:C (.tuple #[]) w):Run P (zbT fid n []) [] f w (zeI P fid C) :=
  znt hf (res0 h) hC
theorem zag (hf:P.funcs[fid]? = some fn) (h:fn.results = #[r1]) (h1:RV P n f w r1 v1) (hC:C v1 w):Run P (zbT fid n []) (.code .ret :: k) f w (zeI P fid C) :=
  zeM hf (res1 h h1) hC
theorem zah (hf:P.funcs[fid]? = some fn) (h:fn.results = #[r1,r2]) (h1:RV P n f w r1 v1) (h2:RV P n f w r2 v2) (hC:C (.tuple #[v1,v2]) w):Run P (zbT fid n []) (.code .ret :: k) f w (zeI P fid C) :=
  zeM hf (zqS h h1 h2) hC
theorem zbP (hf:P.funcs[fid]? = some fn) (h:fn.results = #[r1,r2,r3]) (h1:RV P n f w r1 v1) (h2:RV P n f w r2 v2) (h3:RV P n f w r3 v3) (hC:C (.tuple #[v1,v2,v3]) w) :
    Run P (zbT fid n []) (.code .ret :: k) f w (zeI P fid C) :=
  zeM hf (res3 h h1 h2 h3) hC
end
section
variable {P:Program} {ty:TypeId} {ρ:Operand → Value} {w:World} {C:Value → World → Prop}
theorem zb5 {op : Op} {v : Value} {w' : World} (h : (execOp ρ ⟨none, op, ty, "", #[], none⟩).run P w = .ok (.value v) w') (hc : C v w') : Op1 P op ty ρ w C := Inv.value h hc
theorem zad {x:Operand} {v:Value} (hx:ρ x = v) (h:C v w):Op1 P (.move x) ty ρ w C:=Inv.value (by simp [execOp,hx]) h
theorem zao {x:Operand} {v:Value} (hx:ρ x = v) (h:C v w):Op1 P (.assign x) ty ρ w C:=Inv.value (by simp [execOp,hx]) h
theorem zaE {c x y:Operand} {u:Value} (hc:ρ c = .bool true) (hx:ρ x = u) (h:C u w):Op1 P (.pick c x y) ty ρ w C :=
  Inv.value (by simp [execOp,hc,hx,asBool]) h
theorem zay {c x y:Operand} {u:Value} (hc:ρ c = .bool false) (hx:ρ y = u) (h:C u w):Op1 P (.pick c x y) ty ρ w C :=
  Inv.value (by simp [execOp,hc,hx,asBool]) h
theorem zaT {x:Operand} {t:Bool} {T:TypeId} (hx:ρ x = .bool t) (h:C (.bool (!t)) w):Op1 P (.unOp .not T x) ty ρ w C :=
  Inv.value (v:=.bool (!t)) (w':=w) (by simp [execOp,hx,Op.unary]) h
end
structure Res where
  foot:Nat → Prop
  holds:World → Prop
  stable:∀ w w':World,(∀ b,foot b → w'.heap[b]? = w.heap[b]?) → holds w → holds w'
  inb:∀ w,holds w → ∀ b,foot b → b < w.heap.size
def Res.obj (b:Nat) (o:Obj):Res :=
  ⟨(· = b),fun w=>w.heap[b]? = some o,fun w w' h hh=>by rw [h b rfl]; exact hh,fun w h c hc=>by subst hc; exact (Array.getElem?_eq_some_iff.1 h).1⟩
abbrev Res.row (b:Nat) (T:TypeId) (l:List Value):Res:=Res.obj b (.cells l.toArray T (0,0))
structure Kept (M:Nat → Prop) (w w':World):Prop where
  os:w'.os = w.os
  tape:w'.tape = w.tape
  output:w'.output = w.output
  size:w.heap.size ≤ w'.heap.size
  block:∀ b,b < w.heap.size → ¬ M b → w'.heap[b]? = w.heap[b]?
def NoM:Nat → Prop:=fun _=>False
theorem Kept.refl (M:Nat → Prop) (w:World):Kept M w w:=⟨rfl,rfl,rfl,Nat.le_refl _,fun _ _ _=>rfl⟩
theorem Kept.trans {M N:Nat → Prop} {a b c:World} (h:Kept M a b) (k:Kept N b c) (hN:∀ x,x < a.heap.size → N x → M x):Kept M a c :=
  ⟨k.os.trans h.os,k.tape.trans h.tape,k.output.trans h.output,Nat.le_trans h.size k.size,
    fun x hx hm=>(k.block x (Nat.lt_of_lt_of_le hx h.size) (fun hn=>hm (hN x hx hn))).trans (h.block x hx hm)⟩
theorem Kept.mono {M N:Nat → Prop} {a b:World} (h:Kept M a b) (hN:∀ x,x < a.heap.size → M x → N x):Kept N a b :=
  ⟨h.os,h.tape,h.output,h.size,fun x hx hn=>h.block x hx (fun hm=>hn (hN x hx hm))⟩
theorem Kept.below {w w':World} (h:Kept NoM w w'):Below w.heap.size w w':=⟨h.os,h.tape,h.output,h.size,fun k hk=>h.block k hk id⟩
theorem Kept.of_below {w w':World} (h:Below w.heap.size w w'):Kept NoM w w':=⟨h.os,h.tape,h.output,h.size,fun k hk _=>h.block k hk⟩
theorem Kept.alloc (M:Nat → Prop) (w:World) (o:Obj):Kept M w (w.alloc o):=⟨rfl,rfl,rfl,by simp,fun b hb _=>Below.heap_alloc w o b hb⟩
theorem Kept.drawn (M:Nat → Prop) (w:World) (n:Nat):Kept M w { w with drawn:=n }:=⟨rfl,rfl,rfl,Nat.le_refl _,fun _ _ _=>rfl⟩
theorem Kept.put (w:World) (b:Nat) (o:Obj):Kept (· = b) w { w with heap:=w.heap.setIfInBounds b o } :=
  ⟨rfl,rfl,rfl,by simp,fun c hc hne=>by simp [Array.getElem?_setIfInBounds,show b ≠ c from fun h=>hne h.symm]⟩
def Apart (r s:Res):Prop:=∀ b,r.foot b → ¬ s.foot b
structure St (w0:World) (M:Nat → Prop) (L D:List Res) (w:World):Prop where
  kept:Kept M w0 w
  hL:∀ r ∈ L,r.holds w
  hD:∀ r ∈ D,r.holds w
  new:∀ r ∈ L,∀ b,r.foot b → w0.heap.size ≤ b ∨ M b
  sep:L.Pairwise Apart
  sepD:∀ r ∈ L,∀ d ∈ D,Apart r d
inductive Sel (r r':Res):List Res → List Res → Prop
  | here {L:List Res}:Sel r r' (r :: L) (r' :: L)
  | there {s:Res} {L L':List Res}:Sel r r' L L' → Sel r r' (s :: L) (s :: L')
inductive Rem (r:Res):List Res → List Res → Prop
  | here {L:List Res}:Rem r (r :: L) L
  | there {s:Res} {L L':List Res}:Rem r L L' → Rem r (s :: L) (s :: L')
theorem Sel.mem {r r':Res} {L L':List Res} (h:Sel r r' L L'):r ∈ L:=by
  induction h with
  | here=>exact .head _
  | there _ ih=>exact .tail _ ih
theorem Sel.mem' {r r' s:Res} {L L':List Res} (h:Sel r r' L L') (hs:s ∈ L'):s = r' ∨ s ∈ L:=by
  induction h with
  | here => cases hs with
    | head=>exact .inl rfl
    | tail _ h=>exact .inr (.tail _ h)
  | there _ ih => cases hs with
    | head=>exact .inr (.head _)
    | tail _ h=>exact (ih h).imp id (.tail _)
theorem Apart.symm {r s:Res} (h:Apart r s):Apart s r:=fun b hs hr=>h b hr hs
theorem Sel.other {r r':Res} {L L':List Res} (h:Sel r r' L L') (hp:L.Pairwise Apart) {w w':World} (hL:∀ s ∈ L,s.holds w) (hr':r'.holds w') (hk:Kept r.foot w w') :
    ∀ s ∈ L',s.holds w':=by
  induction h with
  | here =>
    intro s hs
    cases hs with
    | head=>exact hr'
    | tail _ hs =>
      have ha:Apart r s:=(List.pairwise_cons.1 hp).1 s hs
      have hh:=hL s (.tail _ hs)
      exact s.stable w w' (fun b hb=>hk.block b (s.inb w hh b hb) (fun hr=>ha b hr hb)) hh
  | @there s0 L L' h ih =>
    intro s hs
    have hp':=List.pairwise_cons.1 hp
    cases hs with
    | head =>
      have ha:Apart s0 r:=hp'.1 r h.mem
      have hh:=hL s0 (.head _)
      exact s0.stable w w' (fun b hb=>hk.block b (s0.inb w hh b hb) (fun hr=>ha b hb hr)) hh
    | tail _ hs=>exact ih hp'.2 (fun s hs=>hL s (.tail _ hs)) s hs
theorem Sel.pair {r r':Res} {L L':List Res} (h:Sel r r' L L') (hp:L.Pairwise Apart) {w:World} (hL:∀ s ∈ L,s.holds w) (hf:∀ b,r'.foot b → r.foot b ∨ w.heap.size ≤ b):L'.Pairwise Apart:=by
  have key:∀ s ∈ L,Apart r s → Apart r' s:=fun s hs ha b hb hsb=>by
    rcases hf b hb with hr | hge
    · exact ha b hr hsb
    · exact absurd (s.inb w (hL s hs) b hsb) O
  induction h with
  | here =>
    have hp':=List.pairwise_cons.1 hp
    exact List.pairwise_cons.2 ⟨fun s hs=>key s (.tail _ hs) (hp'.1 s hs),hp'.2⟩
  | @there s0 L L' h ih =>
    have hp':=List.pairwise_cons.1 hp
    refine List.pairwise_cons.2 ⟨fun s hs=>?_,ih hp'.2 (fun s hs=>hL s (.tail _ hs)) (fun s hs=>key s (.tail _ hs))⟩
    rcases h.mem' hs with rfl | hs
    · exact (key s0 (.head _) (hp'.1 r h.mem).symm).symm
    · exact hp'.1 s hs
section
variable {w0 w w':World} {M:Nat → Prop} {L L' D:List Res} {r r':Res}
theorem St.init (w:World):St w NoM [] [] w:=⟨Kept.refl _ _,by simp,by simp,by simp,.nil,by simp⟩
theorem St.upd (h:St w0 M L D w) (hs:Sel r r' L L') (hk:Kept r.foot w w') (hr':r'.holds w') (hf:∀ b,r'.foot b → r.foot b ∨ w.heap.size ≤ b):St w0 M L' D w' where
  kept:=h.kept.trans hk fun b hb hr=>(h.new r hs.mem b hr).resolve_left O
  hL:=hs.other h.sep h.hL hr' hk
  hD:=fun d hd=>d.stable w w' (fun b hb=>hk.block b (d.inb w (h.hD d hd) b hb) (fun hr=>h.sepD r hs.mem d hd b hr hb)) (h.hD d hd)
  new:=fun s hm b hb=>by
    rcases hs.mem' hm with rfl | hm
    · rcases hf b hb with hr | hge
      · exact h.new r hs.mem b hr
      · exact .inl (Nat.le_trans h.kept.size hge)
    · exact h.new s hm b hb
  sep:=hs.pair h.sep h.hL hf
  sepD:=fun s hm d hd b hb hdb=>by
    rcases hs.mem' hm with rfl | hm
    · rcases hf b hb with hr | hge
      · exact h.sepD r hs.mem d hd b hr hdb
      · exact absurd (d.inb w (h.hD d hd) b hdb) O
    · exact h.sepD s hm d hd b hb hdb
theorem St.keep (h:St w0 M L D w) (hk:Kept NoM w w'):St w0 M L D w' where
  kept:=h.kept.trans hk (fun _ _ hf=>hf.elim)
  hL:=fun s hs=>s.stable w w' (fun b hb=>hk.block b (s.inb w (h.hL s hs) b hb) id) (h.hL s hs)
  hD:=fun s hs=>s.stable w w' (fun b hb=>hk.block b (s.inb w (h.hD s hs) b hb) id) (h.hD s hs)
  new:=h.new
  sep:=h.sep
  sepD:=h.sepD
theorem St.push (h:St w0 M L D w) (hk:Kept NoM w w') (hr':r'.holds w') (hf:∀ b,r'.foot b → w.heap.size ≤ b):St w0 M (r' :: L) D w' where
  kept:=h.kept.trans hk (fun _ _ hf=>hf.elim)
  hL:=fun s hs=>by
    cases hs with
    | head=>exact hr'
    | tail _ hs=>exact (h.keep hk).hL s hs
  hD:=(h.keep hk).hD
  new:=fun s hs b hb=>by
    cases hs with
    | head=>exact .inl (Nat.le_trans h.kept.size (hf b hb))
    | tail _ hs=>exact h.new s hs b hb
  sep:=List.pairwise_cons.2 ⟨fun s hs b hb hsb=>absurd (s.inb w (h.hL s hs) b hsb) (by have:=hf b hb; omega),h.sep⟩
  sepD:=fun s hs d hd b hb hdb=>by
    cases hs with
    | head=>exact absurd (d.inb w (h.hD d hd) b hdb) (by have:=hf b hb; omega)
    | tail _ hs=>exact h.sepD s hs d hd b hb hdb
theorem St.call {L1 L2 Lc:List Res} {Mc:Nat → Prop} (h:St w0 M (L1 ++ L2) D w) (hc:St w Mc Lc [] w') (hM:∀ b,Mc b → ∃ r ∈ L1,r.foot b):St w0 M (Lc ++ L2) D w':=by
  have old2:∀ s ∈ L2,s.holds w':=fun s hs=>s.stable w w' (fun b hb=>hc.kept.block b (s.inb w (h.hL s (List.mem_append_right _ hs)) b hb) (fun hm=>by
    obtain ⟨r,hr,hrb⟩:=hM b hm
    exact (List.pairwise_append.1 h.sep).2.2 r hr s hs b hrb hb)) (h.hL s (List.mem_append_right _ hs))
  have oldD:∀ d ∈ D,d.holds w':=fun d hd=>d.stable w w' (fun b hb=>hc.kept.block b (d.inb w (h.hD d hd) b hb) (fun hm=>by
    obtain ⟨r,hr,hrb⟩:=hM b hm
    exact h.sepD r (List.mem_append_left _ hr) d hd b hrb hb)) (h.hD d hd)
  refine ⟨h.kept.trans hc.kept fun b hb hm=>?_,?_,oldD,?_,?_,?_⟩
  · obtain ⟨r, hr, hrb⟩ := hM b hm
    exact (h.new r (List.mem_append_left _ hr) b hrb).resolve_left O
  · intro s hs
    rcases List.mem_append.1 hs with hs | hs
    · exact hc.hL s hs
    · exact old2 s hs
  · intro s hs b hb
    rcases List.mem_append.1 hs with hs | hs
    · rcases hc.new s hs b hb with hge | hm
      · exact .inl (Nat.le_trans h.kept.size hge)
      · obtain ⟨r, hr, hrb⟩ := hM b hm
        exact h.new r (List.mem_append_left _ hr) b hrb
    · exact h.new s (List.mem_append_right _ hs) b hb
  · refine List.pairwise_append.2 ⟨hc.sep, (List.pairwise_append.1 h.sep).2.1, fun s hs t ht b hsb htb => ?_⟩
    rcases hc.new s hs b hsb with hge | hm
    · exact absurd (t.inb w (h.hL t (List.mem_append_right _ ht)) b htb) O
    · obtain ⟨r, hr, hrb⟩ := hM b hm
      exact (List.pairwise_append.1 h.sep).2.2 r hr t ht b hrb htb
  · intro s hs d hd b hsb hdb
    rcases List.mem_append.1 hs with hs | hs
    · rcases hc.new s hs b hsb with hge | hm
      · exact absurd (d.inb w (h.hD d hd) b hdb) O
      · obtain ⟨r, hr, hrb⟩ := hM b hm
        exact h.sepD r (List.mem_append_left _ hr) d hd b hrb hdb
    · exact h.sepD s (List.mem_append_right _ hs) d hd b hsb hdb
theorem St.call0 {Lc:List Res} (h:St w0 M L D w) (hc:St w NoM Lc [] w'):St w0 M (Lc ++ L) D w' :=
  St.call (L1:=[]) h hc (fun _ hf=>hf.elim)
theorem Rem.mem (h:Rem r L L'):r ∈ L:=by
  induction h with
  | here=>exact .head _
  | there _ ih=>exact .tail _ ih
theorem Rem.sub (h:Rem r L L'):∀ s ∈ L',s ∈ L:=by
  induction h with
  | here=>exact fun s hs=>.tail _ hs
  | there _ ih => intro s hs; cases hs with
    | head=>exact .head _
    | tail _ hs=>exact .tail _ (ih s hs)
theorem Rem.apart (h:Rem r L L') (hp:L.Pairwise Apart):L'.Pairwise Apart ∧ ∀ s ∈ L',Apart r s:=by
  induction h with
  | here=>exact ⟨(List.pairwise_cons.1 hp).2,(List.pairwise_cons.1 hp).1⟩
  | @there s0 L L' h ih =>
    have hp':=List.pairwise_cons.1 hp
    obtain ⟨h1,h2⟩:=ih hp'.2
    refine ⟨List.pairwise_cons.2 ⟨fun s hs=>hp'.1 s (h.sub s hs),h1⟩,fun s hs=>?_⟩
    cases hs with
    | head=>exact (hp'.1 r h.mem).symm
    | tail _ hs=>exact h2 s hs
theorem St.front (h:St w0 M L D w) (hr:Rem r L L'):St w0 M (r :: L') D w where
  kept:=h.kept
  hL:=fun s hs=>by cases hs with
    | head=>exact h.hL r hr.mem
    | tail _ hs=>exact h.hL s (hr.sub s hs)
  hD:=h.hD
  new:=fun s hs=>by cases hs with
    | head=>exact h.new r hr.mem
    | tail _ hs=>exact h.new s (hr.sub s hs)
  sep:=List.pairwise_cons.2 ⟨(hr.apart h.sep).2,(hr.apart h.sep).1⟩
  sepD:=fun s hs=>by cases hs with
    | head=>exact h.sepD r hr.mem
    | tail _ hs=>exact h.sepD s (hr.sub s hs)
theorem St.drop (h:St w0 M L D w) (hr:Rem r L L'):St w0 M L' D w where
  kept:=h.kept
  hL:=fun s hs=>h.hL s (hr.sub s hs)
  hD:=h.hD
  new:=fun s hs=>h.new s (hr.sub s hs)
  sep:=(hr.apart h.sep).1
  sepD:=fun s hs d hd=>h.sepD s (hr.sub s hs) d hd
theorem St.nil (h:St w0 M L D w):St w0 M [] [] w:=⟨h.kept,by simp,by simp,by simp,.nil,by simp⟩
theorem St.noD (h:St w0 M L D w):St w0 M L [] w:=⟨h.kept,h.hL,by simp,h.new,h.sep,by simp⟩
end
structure TyF (P:Program) (T:TypeId) (d:TypeDesc) (sz bytes:Nat) (zs:List Value):Prop where
  info:∃ i z,P.info? T = some i ∧ i.size = sz ∧ i.bytes = bytes ∧ i.zero = some z ∧ z.cells = zs.toArray
  und:P.underlying T = some d
def zoz:TypeDesc → Bool
  | .struct _ | .array _ _=>true
  | _=>false
section
variable {P:Program} {T:TypeId} {d:TypeDesc} {sz bytes:Nat} {zs:List Value} {w:World}
theorem TyF.run_und (h:TyF P T d sz bytes zs) (w:World):(underlying T).run P w = .ok d w:=run_underlying h.und w
theorem TyF.run_size (h:TyF P T d sz bytes zs) (w:World):(sizeOf T).run P w = .ok sz w:=by
  obtain ⟨i,z,h1,h2,h3,h4,h5⟩:=h.info
  simp [sizeOf,typeInfo,h1,h2]
theorem TyF.run_zero (h:TyF P T d sz bytes zs) (w:World):∃ z,(zeroValue T).run P w = .ok z w ∧ z.cells = zs.toArray:=by
  obtain ⟨i,z,h1,h2,h3,h4,h5⟩:=h.info
  exact ⟨z,by simp [zeroValue,typeInfo,h1,h4],h5⟩
theorem TyF.run_isAgg (h:TyF P T d sz bytes zs) (w:World):(isAgg T).run P w = .ok (zoz d) w:=by
  simp only [isAgg,Sem.run_bind,h.run_und,Result.andThen]
  cases d <;> rfl
end
theorem zcL (b off n:Nat):(⟨b,off,none⟩:Addr).add n = ⟨b,off + n,none⟩:=by
  unfold Addr.add; split <;> simp_all
theorem St.cellL {w0 w:World} {M:Nat → Prop} {L D:List Res} {b:Nat} {T:TypeId} {l:List Value} {fr:Nat × Nat} {off:Nat} {v:Value} (h:St w0 M L D w)
    (hm:Res.obj b (.cells l.toArray T fr) ∈ L) (hv:l[off]? = some v):w.cell? ⟨b,off,none⟩ = some v:=by
  have:=h.hL _ hm
  simp only [Res.obj] at this
  simp [World.cell?,this,hv]
theorem St.cellD {w0 w:World} {M:Nat → Prop} {L D:List Res} {b:Nat} {T:TypeId} {l:List Value} {fr:Nat × Nat} {off:Nat} {v:Value} (h:St w0 M L D w)
    (hm:Res.obj b (.cells l.toArray T fr) ∈ D) (hv:l[off]? = some v):w.cell? ⟨b,off,none⟩ = some v:=by
  have:=h.hD _ hm
  simp only [Res.obj] at this
  simp [World.cell?,this,hv]
theorem St.objL {w0 w:World} {M:Nat → Prop} {L D:List Res} {b:Nat} {o:Obj} (h:St w0 M L D w) (hm:Res.obj b o ∈ L):w.heap[b]? = some o:=h.hL _ hm
def zh2 (w:World) (b off:Nat) (vs:List Value):Prop:=∀ i v,vs[i]? = some v → w.cell? ⟨b,off + i,none⟩ = some v
theorem zab {w:World} {b off n:Nat} {T:TypeId} {l:List Value} {fr:Nat × Nat} (h:w.heap[b]? = some (.cells l.toArray T fr)) (vs:List Value) (hv:(l.drop off).take n = vs) :
    zh2 w b off vs:=by
  subst hv
  intro i v hi
  rw [List.getElem?_take] at hi
  split at hi
  · rw [List.getElem?_drop] at hi
    simp [World.cell?,h,hi]
  · simp at hi
theorem zdG {P:Program} {w:World} {b off:Nat}:∀ (vs:List Value) (i:Nat) (acc:Array Value),(∀ j v,vs[j]? = some v → w.cell? ⟨b,off + (i + j),none⟩ = some v) →
    (loadCellsFrom ⟨b,off,none⟩ i vs.length acc).run P w = .ok (acc ++ vs.toArray) w
  | [],i,acc,h=>by simp [loadCellsFrom]
  | v :: vs, i, acc, h => by
    have h0:w.cell? ⟨b,off + i,none⟩ = some v:=by simpa using h 0 v (by simp)
    have ih:=zdG (P:=P) vs (i + 1) (acc.push v) (fun j u hj=>by
      have:=h (j + 1) u (by simpa using hj)
      rw [show i + 1 + j = i + (j + 1) by omega]; exact this)
    simp only [List.length_cons,loadCellsFrom,Sem.run_bind,zcL]
    have hl:(load ⟨b,off + i,none⟩).run P w = .ok v w:=by simp [load,Sem.run,h0]
    rw [hl]
    simp only [Result.andThen]
    rw [ih]
    simp
theorem zi5 {P:Program} {w:World} {b off:Nat} {vs:List Value} (h:zh2 w b off vs):(loadCells ⟨b,off,none⟩ vs.length).run P w = .ok vs.toArray w:=by
  have:=zdG (P:=P) (w:=w) (b:=b) (off:=off) vs 0 #[] (fun j v hj=>by simpa using h j v hj)
  simpa [loadCells] using this
theorem zgI {P:Program} {T:TypeId} {d:TypeDesc} {sz bytes:Nat} {zs:List Value} {w:World} {a:Addr} {v:Value} (hT:TyF P T d sz bytes zs) (hd:zoz d = false) (hc:w.cell? a = some v) :
    (loadVar T a).run P w = .ok v w:=by
  simp only [loadVar,Sem.run_bind,hT.run_isAgg,hd,Result.andThen]
  simp [load,Sem.run,hc]
theorem zgH {P:Program} {T:TypeId} {d:TypeDesc} {sz bytes:Nat} {zs:List Value} {w:World} {b off:Nat} {vs:List Value} (hT:TyF P T d sz bytes zs) (hd:zoz d = true)
    (hn:vs.length = sz) (hc:zh2 w b off vs):(loadVar T ⟨b,off,none⟩).run P w = .ok (.agg vs.toArray) w:=by
  subst hn
  simp only [loadVar,Sem.run_bind,hT.run_isAgg,hd,Result.andThen,if_true,hT.run_size,zi5 hc]
  rfl
theorem zcM {P:Program} {n:Nat} {f:Nat → Value} {w:World} {p:Tmp} {T:TypeId} {d:TypeDesc} {sz bytes:Nat} {zs:List Value} {a:Addr} {v:Value} (hp:ev n f (.tmp p) = .pointer (some a))
    (hT:TyF P T d sz bytes zs) (hd:zoz d = false) (hc:w.cell? a = some v):RV P n f w (.cell p T) v:=by
  simp only [RV,zhr,zi2,hp,Sem.run_bind]
  simp [asAddr,zgI hT hd hc]
theorem zak {P:Program} {n:Nat} {f:Nat → Value} {w:World} {p:Tmp} {T:TypeId} {d:TypeDesc} {sz bytes:Nat} {zs:List Value} {b off:Nat} {vs:List Value} (hp:ev n f (.tmp p) = .pointer (some ⟨b,off,none⟩))
    (hT:TyF P T d sz bytes zs) (hd:zoz d = true) (hn:vs.length = sz) (hc:zh2 w b off vs):RV P n f w (.cell p T) (.agg vs.toArray):=by
  simp only [RV,zhr,zi2,hp,Sem.run_bind]
  simp [asAddr,zgH hT hd hn hc]
def zbH (l:List Value) (off:Nat):List Value → List Value
  | []=>l
  | v :: vs=>zbH (l.set off v) (off + 1) vs
theorem zfE (l:List Value) (off:Nat) (vs:List Value):(zbH l off vs).length = l.length:=by
  induction vs generalizing l off with
  | nil=>rfl
  | cons v vs ih=>simp [zbH,ih]
inductive Put:List Value → Nat → List Value → List Value → Prop
  | nil {l:List Value} {n:Nat}:Put l n [] l
  | put {x v:Value} {l vs l':List Value}:Put l 0 vs l' → Put (x :: l) 0 (v :: vs) (v :: l')
  | skip {x:Value} {n:Nat} {l vs l':List Value}:Put l n vs l' → Put (x :: l) (n + 1) vs (x :: l')
theorem zfh (x:Value) (l:List Value) (n:Nat) (vs:List Value):zbH (x :: l) (n + 1) vs = x :: zbH l n vs:=by
  induction vs generalizing l n with
  | nil=>rfl
  | cons v vs ih=>simp [zbH,ih]
theorem Put.eq {l vs l':List Value} {n:Nat} (h:Put l n vs l'):zbH l n vs = l' ∧ (n + vs.length ≤ l.length ∨ vs = []):=by
  induction h with
  | nil=>exact ⟨rfl,.inr rfl⟩
  | @put x v l vs l' h ih =>
    refine ⟨?_,?_⟩
    · simp only [zbH, List.set_cons_zero, Nat.zero_add]
      rw [show (1:Nat) = 0 + 1 from rfl,zfh,ih.1]
    · left
      rcases ih.2 with h | h
      · simp at h ⊢; omega
      · subst h; simp
  | @skip x n l vs l' h ih =>
    refine ⟨by rw [zfh,ih.1],ih.2.imp (fun h=>by simp; omega) id⟩
def zdH:Value → Bool
  | .agg _ | .tuple _=>false
  | _=>true
theorem zlq {w:World} {b off:Nat} {T:TypeId} {l:List Value} (v:Value) (h:w.heap[b]? = some (.cells l.toArray T (0,0))) :
    (w.setCell ⟨b,off,none⟩ v).heap[b]? = some (.cells (l.set off v).toArray T (0,0)) ∧ Kept (· = b) w (w.setCell ⟨b,off,none⟩ v):=by
  refine ⟨?_,⟨rfl,rfl,rfl,by simp [World.setCell],fun c hc hne=>?_⟩⟩
  · simp [World.setCell,Array.getElem?_modify,h]
  · simp only [World.setCell, Array.getElem?_modify]
    rw [if_neg (fun e=>hne e.symm)]
theorem ze9 {P:Program} {b:Nat} {T:TypeId} {off:Nat}:∀ (vs:List Value) (i:Nat) (l:List Value) (w:World),vs.all zdH = true → off + i + vs.length ≤ l.length →
    w.heap[b]? = some (.cells l.toArray T (0,0)) →
    ∃ w',(storeCells ⟨b,off,none⟩ vs i).run P w = .ok () w' ∧ w'.heap[b]? = some (.cells (zbH l (off + i) vs).toArray T (0,0)) ∧ Kept (· = b) w w'
  | [],i,l,w,_,_,h=>⟨w,by simp [storeCells],h,Kept.refl _ _⟩
  | v :: vs, i, l, w, hok, hl, h => by
    simp only [List.length_cons] at hl
    simp only [List.all_cons,Bool.and_eq_true] at hok
    obtain ⟨h1,h2⟩:=zlq (off:=off + i) v h
    have hc:w.cell? ⟨b,off + i,none⟩ = some l[off + i]:=by simp [World.cell?,h]
    have hfz:w.frozen? ⟨b,off + i,none⟩ = false:=by simp [World.frozen?,h]
    obtain ⟨w',hr,hb,hk⟩:=ze9 (P:=P) (off:=off) vs (i + 1) (l.set (off + i) v) _ hok.2 (by rw [List.length_set]; omega) h1
    refine ⟨w',?_,by simpa [zbH,Nat.add_assoc] using hb,h2.trans hk (fun _ _ h=>h)⟩
    simp only [storeCells,Sem.run_bind,zcL]
    have hs:(store ⟨b,off + i,none⟩ v).run P w = .ok () (w.setCell ⟨b,off + i,none⟩ v):=by
      have:=hok.1
      cases v <;> simp [zdH] at this <;> simp [store,Sem.run,hc,hfz]
    rw [hs]
    exact hr
theorem zeq {P:Program} {T T':TypeId} {d:TypeDesc} {sz bytes:Nat} {zs:List Value} {w:World} {b off:Nat} {l vs:List Value} {v:Value} (hT:TyF P T d sz bytes zs)
    (hv:v.cells = vs.toArray) (hn:vs.length = sz) (hok:vs.all zdH = true) (h:w.heap[b]? = some (.cells l.toArray T' (0,0))) (hl:vs = [] ∨ off + vs.length ≤ l.length) :
    ∃ w',(storeVar T ⟨b,off,none⟩ v).run P w = .ok () w' ∧ w'.heap[b]? = some (.cells (zbH l off vs).toArray T' (0,0)) ∧ Kept (· = b) w w':=by
  rcases hl with rfl | hl
  · refine ⟨w, ?_, h, Kept.refl _ _⟩
    have:v.cells.size = sz:=by rw [hv,← hn]; simp
    simp only [storeVar,Sem.run_bind,hT.run_size,Result.andThen,this]
    simp [hv,storeCells]
  · obtain ⟨w', hr, hb, hk⟩ := ze9 (P := P) (b := b) (T := T') (off := off) vs 0 l w hok O h
    refine ⟨w',?_,by simpa using hb,hk⟩
    have:v.cells.size = sz:=by rw [hv,← hn]; simp
    simp only [storeVar,Sem.run_bind,hT.run_size,Result.andThen,this]
    simp [hv,hr]
theorem zde (w:World) (o:Obj):(w.alloc o).heap[w.heap.size]? = some o:=by
  show (w.heap.push o)[w.heap.size]? = some o
  simp
section
variable {P:Program} {ty:TypeId} {ρ:Operand → Value} {w0 w:World} {C:Value → World → Prop} {M:Nat → Prop} {L L' D:List Res}
variable {T T':TypeId} {d:TypeDesc} {sz bytes:Nat} {zs:List Value}
theorem zaw (V:St w0 M L D w) (hT:TyF P T d sz bytes zs) (h:∀ (w':World) (b:Nat),St w0 M (Res.row b T zs :: L) D w' → C (.pointer (some ⟨b,0,none⟩)) w'):Op1 P (.alloc T) ty ρ w C:=by
  obtain ⟨z,hz,hzs⟩:=hT.run_zero w
  refine Inv.value (v:=.pointer (some ⟨w.heap.size,0,none⟩)) (w':=w.alloc (.cells z.cells T)) ?_ (h _ _ ?_)
  · simp [execOp,Instr.alloc,Sem.run_bind,hz,newVar,newRow,Result.andThen]
  · refine V.push (Kept.alloc _ _ _) ?_ ?_
    · simp only [Res.obj]; rw [zde,hzs]
    · intro b hb; exact Nat.le_of_eq hb.symm
theorem zbn {x:Operand} {v:Value} {vs:List Value} (V:St w0 M L D w) (hx:ρ x = v) (hv:v.cells = vs.toArray) (h:∀ (w':World) (b:Nat),St w0 M (Res.row b T vs :: L) D w' → C (.pointer (some ⟨b,0,none⟩)) w') :
    Op1 P (.box T x) ty ρ w C:=by
  refine Inv.value (v:=.pointer (some ⟨w.heap.size,0,none⟩)) (w':=w.alloc (.cells v.cells T)) ?_ (h _ _ ?_)
  · simp [execOp,Instr.box,hx,newVar,newRow,Result.andThen]
  · refine V.push (Kept.alloc _ _ _) ?_ ?_
    · simp only [Res.obj]; rw [zde,hv]
    · intro b hb; exact Nat.le_of_eq hb.symm
theorem zae {x:Operand} {a:Addr} {v:Value} (hT:TyF P T d sz bytes zs) (hd:zoz d = false) (hx:ρ x = .pointer (some a)) (hc:w.cell? a = some v) (h:C v w):Op1 P (.load T x) ty ρ w C :=
  Inv.value (by simp [execOp,Instr.loadAt,hx,Instr.sureAddr,zgI hT hd hc]) h
theorem zaC {x:Operand} {b off:Nat} {vs:List Value} (hT:TyF P T d sz bytes zs) (hd:zoz d = true) (hx:ρ x = .pointer (some ⟨b,off,none⟩)) (hn:vs.length = sz) (hc:zh2 w b off vs) (h:C (.agg vs.toArray) w) :
    Op1 P (.load T x) ty ρ w C :=
  Inv.value (by simp [execOp,Instr.loadAt,hx,Instr.sureAddr,zgH hT hd hn hc]) h
theorem zbI {x y:Operand} {b off:Nat} {v:Value} {l vs l':List Value} (V:St w0 M L D w) (hT:TyF P T d sz bytes zs) (hx:ρ x = .pointer (some ⟨b,off,none⟩)) (hy:ρ y = v) (hv:v.cells = vs.toArray)
    (hn:vs.length = sz) (hok:vs.all zdH = true) (hs:Sel (Res.row b T' l) (Res.row b T' l') L L') (hp:Put l off vs l') (h:∀ w':World,St w0 M L' D w' → C undef w'):Op1 P (.store T x y) ty ρ w C:=by
  have hb:=V.hL _ hs.mem
  simp only [Res.obj] at hb
  obtain ⟨w',hr,hb',hk⟩:=zeq (P:=P) (T':=T') (off:=off) (l:=l) hT hv hn hok hb (hp.eq.2.symm)
  refine Inv.skip (w':=w') ?_ (h w' (V.upd hs hk ?_ (fun c hc=>.inl hc)))
  · simp [execOp,Instr.storeAt,hx,hy,Instr.sureAddr,hr]
  · simpa [Res.obj,hp.eq.1] using hb'
theorem zl6 {x y:Operand} {b off:Nat} {v:Value} {l vs:List Value} (V:St w0 M L D w) (hT:TyF P T d sz bytes zs) (hx:ρ x = .pointer (some ⟨b,off,none⟩)) (hy:ρ y = v) (hv:v.cells = vs.toArray)
    (hn:vs.length = sz) (hok:vs.all zdH = true) (hs:Sel (Res.row b T' l) (Res.row b T' (zbH l off vs)) L L') (hl:off + vs.length ≤ l.length) (h:∀ w':World,St w0 M L' D w' → C undef w'):Op1 P (.store T x y) ty ρ w C:=by
  have hb:=V.hL _ hs.mem
  simp only [Res.obj] at hb
  obtain ⟨w',hr,hb',hk⟩:=zeq (P:=P) (T':=T') (off:=off) (l:=l) hT hv hn hok hb (.inr hl)
  refine Inv.skip (w':=w') ?_ (h w' (V.upd hs hk (by simpa [Res.obj] using hb') (fun c hc=>.inl hc)))
  simp [execOp,Instr.storeAt,hx,hy,Instr.sureAddr,hr]
def FldF (P:Program) (S i o:Nat):Prop:=∃ fs fd inf,P.underlying S = some (.struct fs) ∧ fs[i]? = some fd ∧ fd.offset = o ∧ P.info? fd.type = some inf ∧ inf.size ≠ 0
theorem zac {S i o:Nat} {x:Operand} {b off:Nat} (hf:FldF P S i o) (hx:ρ x = .pointer (some ⟨b,off,none⟩)) (h:C (.pointer (some ⟨b,off + o,none⟩)) w):Op1 P (.fieldAddr S x i) ty ρ w C:=by
  obtain ⟨fs,fd,inf,h1,h2,rfl,h4,h5⟩:=hf
  refine Inv.value (v:=.pointer (some ⟨b,off + fd.offset,none⟩)) (w':=w) ?_ h
  simp [execOp,Instr.fieldAt,hx,Sem.run_bind,run_underlying h1,h2,Instr.sureAddr,fieldPlace,sizeOf,typeInfo,h4,h5,zcL,Result.andThen]
theorem zbK {e:TypeId} {de:TypeDesc} {es eb:Nat} {ez:List Value} {n:Nat} {x y:Operand} {b off:Nat} {k:IntKind} {i:Int} (hT:TyF P T (.array n e) sz bytes zs) (he:TyF P e de es eb ez)
    (hx:ρ x = .pointer (some ⟨b,off,none⟩)) (hy:ρ y = .int k i) (h0:0 ≤ i) (h1:i < n) (h:C (.pointer (some ⟨b,off + i.toNat * es,none⟩)) w):Op1 P (.indexAddr T x y) ty ρ w C:=by
  refine Inv.value (v:=.pointer (some ⟨b,off + i.toNat * es,none⟩)) (w':=w) ?_ h
  simp [execOp,Instr.indexAt,hx,hy,asIntOf,Sem.run_bind,hT.run_und,Instr.sureAddr,he.run_size,zcL,Result.andThen,h0,h1]
theorem zbb {e:TypeId} {de:TypeDesc} {es eb:Nat} {ez:List Value} {x y:Operand} {b off len cap:Nat} {k:IntKind} {i:Int} (hT:TyF P T (.slice e) sz bytes zs) (he:TyF P e de es eb ez)
    (hx:ρ x = .slice (some ⟨b,off,none⟩) len cap) (hy:ρ y = .int k i) (h0:0 ≤ i) (h1:i < len) (h:C (.pointer (some ⟨b,off + i.toNat * es,none⟩)) w):Op1 P (.indexAddr T x y) ty ρ w C:=by
  refine Inv.value (v:=.pointer (some ⟨b,off + i.toNat * es,none⟩)) (w':=w) ?_ h
  simp [execOp,Instr.indexAt,hx,hy,asIntOf,Sem.run_bind,hT.run_und,Instr.sureAddr,he.run_size,zcL,Result.andThen,h0,h1]
inductive Fills (ρ:Operand → Value) (place:Nat → Option (Nat × Nat)):List Value → List (Nat × Operand) → List Value → Prop
  | nil {l:List Value}:Fills ρ place l [] l
  | cons {l vs l1 l':List Value} {i:Nat} {x:Operand} {off size:Nat} {v:Value} {rest:List (Nat × Operand)} (hp:place i = some (off,size)) (hx:ρ x = v) (hv:v.cells = vs.toArray) (hn:vs.length = size) (hs:Nat.ble 1 size = true) (hput:Put l off vs l1)
      (h:Fills ρ place l1 rest l'):Fills ρ place l ((i,x) :: rest) l'
theorem zkp:∀ (vs:List Value) (l:List Value) (off k:Nat),(vs.zipIdx k).foldl (fun (cs:Array Value) (p:Value × Nat)=>cs.setIfInBounds (off + p.2) p.1) l.toArray = (zbH l (off + k) vs).toArray
  | [],l,off,k=>rfl
  | v :: vs, l, off, k => by
    simp only [List.zipIdx_cons,List.foldl_cons,List.setIfInBounds_toArray,zbH]
    exact zkp vs _ off (k + 1)
theorem Fills.fill {place:Nat → Option (Nat × Nat)} {l l':List Value} {parts:List (Nat × Operand)} (h:Fills ρ place l parts l'):Instr.fill place l.toArray (parts.map fun p=>(p.1,ρ p.2)) = some l'.toArray:=by
  induction h with
  | nil=>rfl
  | @cons l vs l1 l' i x off size v rest hp hx hv hn hs hput h ih =>
    have h2:=hput.eq
    have hf:(vs.toArray.zipIdx).foldl (fun (cs:Array Value) (p:Value × Nat)=>cs.setIfInBounds (off + p.2) p.1) l.toArray = l1.toArray:=by
      rw [← h2.1]
      have:=zkp vs l off 0
      simpa [← Array.foldl_toList] using this
    simp only [List.map_cons,Instr.fill,hp,hx,hv]
    rw [if_neg]
    · rw [← ih,← hf]
    · rcases h2.2 with h | h
      · simp; omega
      · subst h; simp at hn; subst hn; simp at hs
theorem Fills.build {place:Nat → Option (Nat × Nat)} {l l':List Value} {parts:List (Nat × Operand)} (h:Fills ρ place l parts l') :
    Instr.fill place l.toArray (parts.toArray.map fun p=>(p.1,ρ p.2)).toList = some l'.toArray:=by
  have:=h.fill
  simpa using this
def zm4 (es:Nat):Nat → Option (Nat × Nat):=fun i=>some (i * es,es)
def zcE (P:Program) (S:TypeId) (pl:List (Nat × Nat)):Prop :=
  ∃ fs:Array Field,P.underlying S = some (.struct fs) ∧ ∀ w:World,(fs.mapM fun f=>do pure (f.offset,← sizeOf f.type):Sem (Array (Nat × Nat))).run P w = .ok pl.toArray w
theorem zaf {pl:List (Nat × Nat)} {parts:List (Nat × Operand)} {l':List Value} (hT:TyF P T d sz bytes zs) (hS:zcE P T pl)
    (hf:Fills ρ (fun i=>pl[i]?) zs parts l') (h:C (.agg l'.toArray) w):Op1 P (.build T parts.toArray) ty ρ w C:=by
  obtain ⟨z,hz,hzs⟩:=hT.run_zero w
  obtain ⟨fs,h1,h2⟩:=hS
  have hb:=hf.build
  have hr:(Instr.build T (parts.toArray.map fun p=>(p.1,ρ p.2))).run P w = .ok (.agg l'.toArray) w:=by
    unfold Instr.build
    simp only [Sem.run_bind,hz,Result.andThen,run_underlying h1,hzs]
    have e:=h2 w
    rw [e]
    simp only [List.getElem?_toArray]
    rw [hb]
    rfl
  refine Inv.value (v:=.agg l'.toArray) (w':=w) ?_ h
  simp only [execOp,Sem.run_bind]
  rw [hr]
  rfl
end
def str (l:List UInt8):Value:=.string ⟨l.toArray⟩
theorem str_of (s:ByteArray):Value.string s = str s.data.toList:=by cases s; simp [str]
theorem zhm (s:ByteArray):s.toList = s.data.toList:=ByteArray.toList_eq s
section
variable {P:Program} {ty:TypeId} {ρ:Operand → Value} {w:World} {C:Value → World → Prop} {T T2:TypeId} {x y:Operand} {k:IntKind} {a b:Int}
theorem zbL {op:BinOp} {v:Value} (hx:ρ x = .int k a) (hy:ρ y = .int k b) (h0:(op matches .eql | .neq) = false) (hr:(binOp op T (.int k a) (.int k b)).run P w = .ok v w) (h:C v w):Op1 P (.binOp op T x y T2) ty ρ w C:=by
  refine Inv.value (v:=v) (w':=w) ?_ h
  simp only [execOp,hx,hy]
  cases op <;> simp at h0 <;> simp [eqGuard,hr]
theorem zt8 (hx:ρ x = .int k a) (hy:ρ y = .int k b) (h:C (.int k (k.wrap (a + b))) w):Op1 P (.binOp .add T x y T2) ty ρ w C :=
  zbL hx hy rfl (by simp [binOp,Op.intArith]) h
theorem zqK (hx:ρ x = .int k a) (hy:ρ y = .int k b) (h:C (.int k (k.wrap (a - b))) w):Op1 P (.binOp .sub T x y T2) ty ρ w C :=
  zbL hx hy rfl (by simp [binOp,Op.intArith]) h
theorem zt7 (hx:ρ x = .int k a) (hy:ρ y = .int k b) (h:C (.int k (k.wrap (a * b))) w):Op1 P (.binOp .mul T x y T2) ty ρ w C :=
  zbL hx hy rfl (by simp [binOp,Op.intArith]) h
theorem zaD {c:Int} (hx:ρ x = .int k a) (hy:ρ y = .int k b) (hc:a + b = c) (hw:k.wrap c = c) (h:C (.int k c) w):Op1 P (.binOp .add T x y T2) ty ρ w C :=
  zbL hx hy rfl (by simp [binOp,Op.intArith,hc,hw]) h
theorem zbV {c:Int} (hx:ρ x = .int k a) (hy:ρ y = .int k b) (hc:a - b = c) (hw:k.wrap c = c) (h:C (.int k c) w):Op1 P (.binOp .sub T x y T2) ty ρ w C :=
  zbL hx hy rfl (by simp [binOp,Op.intArith,hc,hw]) h
theorem zcw {c:Int} (hx:ρ x = .int k a) (hy:ρ y = .int k b) (hc:a * b = c) (hw:k.wrap c = c) (h:C (.int k c) w):Op1 P (.binOp .mul T x y T2) ty ρ w C :=
  zbL hx hy rfl (by simp [binOp,Op.intArith,hc,hw]) h
theorem zgz (hx:ρ x = .int k a) (hy:ρ y = .int k b) (h0:b ≠ 0) (h:C (.int k (k.wrap (a.tdiv b))) w):Op1 P (.binOp .quo T x y T2) ty ρ w C :=
  zbL hx hy rfl (by simp [binOp,Op.intDiv,h0]) h
theorem zcV (hx:ρ x = .int k a) (hy:ρ y = .int k b) (h0:b ≠ 0) (h:C (.int k (a.tmod b)) w):Op1 P (.binOp .rem T x y T2) ty ρ w C :=
  zbL hx hy rfl (by simp [binOp,Op.intDiv,h0]) h
theorem ze3 {c:Int} (hx:ρ x = .int k a) (hy:ρ y = .int k b) (ha:0 ≤ a) (h0:0 < b) (hc:a / b = c) (hw:k.wrap c = c) (h:C (.int k c) w):Op1 P (.binOp .quo T x y T2) ty ρ w C :=
  zbL hx hy rfl (by simp [binOp,Op.intDiv,show b ≠ 0 by omega,Int.tdiv_eq_ediv_of_nonneg ha,hc,hw]) h
theorem zcl {c:Int} (hx:ρ x = .int k a) (hy:ρ y = .int k b) (ha:0 ≤ a) (h0:0 < b) (hc:a % b = c) (h:C (.int k c) w):Op1 P (.binOp .rem T x y T2) ty ρ w C :=
  zbL hx hy rfl (by simp [binOp,Op.intDiv,show b ≠ 0 by omega,Int.tmod_eq_emod_of_nonneg ha,hc]) h
theorem zaY (hx:ρ x = .int k a) (hy:ρ y = .int k b) (h:C (.bool (decide (a < b))) w):Op1 P (.binOp .lss T x y T2) ty ρ w C :=
  zbL hx hy rfl (by simp [binOp,Op.intCmp]) h
theorem zby (hx:ρ x = .int k a) (hy:ρ y = .int k b) (h:C (.bool (decide (a ≤ b))) w):Op1 P (.binOp .leq T x y T2) ty ρ w C :=
  zbL hx hy rfl (by simp [binOp,Op.intCmp]) h
theorem zbW (hx:ρ x = .int k a) (hy:ρ y = .int k b) (h:C (.bool (decide (b < a))) w):Op1 P (.binOp .gtr T x y T2) ty ρ w C :=
  zbL hx hy rfl (by simp [binOp,Op.intCmp]) h
theorem zbh (hx:ρ x = .int k a) (hy:ρ y = .int k b) (h:C (.bool (decide (b ≤ a))) w):Op1 P (.binOp .geq T x y T2) ty ρ w C :=
  zbL hx hy rfl (by simp [binOp,Op.intCmp]) h
theorem zai (hx:ρ x = .int k a) (hy:ρ y = .int k b) (h:C (.bool (decide (a = b))) w):Op1 P (.binOp .eql T x y T2) ty ρ w C:=by
  refine Inv.value (v:=.bool (decide (a = b))) (w':=w) ?_ h
  simp only [execOp,hx,hy,eqGuard]
  simp [binOp,Op.intCmp]
  rfl
theorem za8 (hx:ρ x = .int k a) (hy:ρ y = .int k b) (h:C (.bool (decide (a ≠ b))) w):Op1 P (.binOp .neq T x y T2) ty ρ w C:=by
  refine Inv.value (v:=.bool (decide (a ≠ b))) (w':=w) ?_ h
  simp only [execOp,hx,hy,eqGuard]
  simp [binOp,Op.intCmp]
  rfl
theorem zsr {k2:IntKind} {n:Nat} {c:Int} (hx:ρ x = .int k a) (hy:ρ y = .int k2 (n:Int)) (hn:n ≤ k.bits) (hc:k.wrap (a * 2 ^ n) = c) (h:C (.int k c) w):Op1 P (.binOp .shl T x y T2) ty ρ w C:=by
  refine zb5 (v:=.int k c) (w':=w) ?_ h
  simp only [execOp,hx,hy,eqGuard]
  have h0:¬ ((n:Int) < 0):=by omega
  simp [binOp,Op.shift,Nat.min_eq_left hn,hc,h0]
theorem zsv {op:BinOp} {v:Value} (hx:ρ x = .int k a) (hy:ρ y = .int k b) (ho:(op matches .and | .or | .xor | .andNot) = true) (hr:(Op.intBits op k a b).run P w = .ok v w) (h:C v w):Op1 P (.binOp op T x y T2) ty ρ w C:=by
  refine zb5 (v:=v) (w':=w) ?_ h
  simp only [execOp,hx,hy]
  cases op <;> simp at ho <;> simp [eqGuard,binOp,hr]
theorem zt6 (hx:ρ x = .int k a) (h:C (.int k (k.wrap (0 - a))) w):Op1 P (.unOp .neg T x) ty ρ w C :=
  zb5 (by simp [execOp,hx,Op.unary,Op.intArith]) h
theorem zst {c:Int} (hx:ρ x = .int k a) (hc:-a = c) (hw:k.wrap c = c) (h:C (.int k c) w):Op1 P (.unOp .neg T x) ty ρ w C :=
  zb5 (v:=.int k c) (w':=w) (by simp [execOp,hx,Op.unary,Op.intArith,hc,hw]) h
theorem za4 {S D:TypeId} {k':IntKind} {ds:TypeDesc} {sz bytes sz' bytes':Nat} {zs zs':List Value} (hS:TyF P S ds sz bytes zs) (hD:TyF P D (.int k') sz' bytes' zs') (hx:ρ x = .int k a) (h:C (.int k' (k'.wrap a)) w):Op1 P (.convert S D x) ty ρ w C:=by
  refine Inv.value (v:=.int k' (k'.wrap a)) (w':=w) ?_ h
  simp only [execOp,hx,convert,Sem.run_bind,hS.run_und,hD.run_und,Result.andThen]
  cases ds <;> simp [Conv.intToInt]
theorem zaW {S D:TypeId} {k':IntKind} {ds:TypeDesc} {sz bytes sz' bytes':Nat} {zs zs':List Value} (hS:TyF P S ds sz bytes zs) (hD:TyF P D (.int k') sz' bytes' zs') (hx:ρ x = .int k a) (hw:k'.wrap a = a) (h:C (.int k' a) w):Op1 P (.convert S D x) ty ρ w C :=
  za4 hS hD hx (by rw [hw]; exact h)
theorem znb {s t:Bool} {sz bytes:Nat} {zs:List Value} (hT:TyF P T .bool sz bytes zs) (hx:ρ x = .bool s) (hy:ρ y = .bool t) (h:C (.bool (s != t)) w):Op1 P (.binOp .neq T x y T2) ty ρ w C:=by
  refine zb5 (v:=.bool (s != t)) (w':=w) ?_ h
  have hr:(Op.equal T (.bool s) (.bool t)).run P w = .ok (s == t) w:=by
    show (Op.equalIn (9999 + 1) T (.bool s) (.bool t)).run P w = _
    rw [Op.equalIn]
    simp [Sem.run_bind,hT.run_und,Result.andThen]
  simp only [execOp,hx,hy,eqGuard]
  simp [binOp,hr,Result.andThen]
  cases s <;> cases t <;> rfl
theorem zdx {s t:List UInt8} (hx:ρ x = str s) (hy:ρ y = str t) (h:C (.bool (decide (s = t))) w):Op1 P (.binOp .eql T x y T2) ty ρ w C:=by
  refine zb5 (v:=.bool (decide (s = t))) (w':=w) ?_ h
  have e:(s == t) = decide (s = t):=by by_cases h:s = t <;> simp [h]
  simp only [execOp,hx,hy,eqGuard,str]
  simp [binOp,Op.stringOp,zhm,e]
theorem ze4 {s t:List UInt8} (hx:ρ x = str s) (hy:ρ y = str t) (h:C (.bool (decide (s ≠ t))) w):Op1 P (.binOp .neq T x y T2) ty ρ w C:=by
  refine zb5 (v:=.bool (decide (s ≠ t))) (w':=w) ?_ h
  have e:(s == t) = decide (s = t):=by by_cases h:s = t <;> simp [h]
  simp only [execOp,hx,hy,eqGuard,str]
  simp [binOp,Op.stringOp,zhm,e]
theorem za2 {s t:List UInt8} (hx:ρ x = str s) (hy:ρ y = str t) (hl:s.length + t.length ≤ 9223372036854775807) (h:C (str (s ++ t)) w):Op1 P (.binOp .add T x y T2) ty ρ w C:=by
  refine zb5 (v:=str (s ++ t)) (w':=w) ?_ h
  simp only [execOp,hx,hy,eqGuard,str]
  have h1:¬ (((ByteArray.mk s.toArray).size + (ByteArray.mk t.toArray).size:Nat):Int) > IntKind.i64.max:=by
    simp only [ByteArray.size,List.size_toArray]
    have:IntKind.i64.max = 9223372036854775807:=by decide
    omega
  have h2:(ByteArray.mk s.toArray) ++ (ByteArray.mk t.toArray) = ⟨(s ++ t).toArray⟩:=by
    apply ByteArray.ext
    simp [ByteArray.data_append]
  simp only [binOp,Op.stringOp,if_neg h1,h2]
  rfl
end
theorem zmb {n:Int} (h1:-9223372036854775808 ≤ n) (h2:n ≤ 9223372036854775807):IntKind.i64.wrap n = n:=by
  simp [IntKind.wrap,IntKind.bits,IntKind.signed]; omega
theorem zq2 {n:Int} (h1:-2147483648 ≤ n) (h2:n ≤ 2147483647):IntKind.i32.wrap n = n:=by
  simp [IntKind.wrap,IntKind.bits,IntKind.signed]; omega
theorem zs6 {n:Int} (h1:0 ≤ n) (h2:n ≤ 255):IntKind.u8.wrap n = n:=by
  simp [IntKind.wrap,IntKind.bits,IntKind.signed]; omega
theorem zq1 {n:Int} (h1:0 ≤ n) (h2:n ≤ 65535):IntKind.u16.wrap n = n:=by
  simp [IntKind.wrap,IntKind.bits,IntKind.signed]; omega
theorem wrap_u32 {n:Int} (h1:0 ≤ n) (h2:n ≤ 4294967295):IntKind.u32.wrap n = n:=by
  simp [IntKind.wrap,IntKind.bits,IntKind.signed]; omega
theorem zq0 {n:Int} (h1:0 ≤ n) (h2:n ≤ 18446744073709551615):IntKind.u64.wrap n = n:=by
  simp [IntKind.wrap,IntKind.bits,IntKind.signed]; omega
theorem ztx {a b B:Int} (h0:0 ≤ B) (h1:-B ≤ a) (h2:a ≤ B) (h3:-B ≤ b) (h4:b ≤ B):-(B * B) ≤ a * b ∧ a * b ≤ B * B:=by
  have e1:a.natAbs ≤ B.natAbs:=by omega
  have e2:b.natAbs ≤ B.natAbs:=by omega
  have e3:(a * b).natAbs ≤ B.natAbs * B.natAbs:=by rw [Int.natAbs_mul]; exact Nat.mul_le_mul e1 e2
  have e4:(B * B).natAbs = B.natAbs * B.natAbs:=Int.natAbs_mul B B
  have e5:0 ≤ B * B:=Int.mul_nonneg h0 h0
  omega
theorem znc {P:Program} {ty:TypeId} {ρ:Operand → Value} {w:World} {C:Value → World → Prop} {T T2:TypeId} {x y:Operand} {a b:Int} (hx:ρ x = .int .i64 a) (hy:ρ y = .int .i64 b)
    (h1:-1048576 ≤ a) (h2:a ≤ 1048576) (h3:-1048576 ≤ b) (h4:b ≤ 1048576) (h:-1099511627776 ≤ a * b → a * b ≤ 1099511627776 → C (.int .i64 (a * b)) w):Op1 P (.binOp .mul T x y T2) ty ρ w C:=by
  have:=ztx O h1 h2 h3 h4
  exact zcw hx hy rfl (zmb O O) (h O O)
def zaJ (P : Program) (g : FuncId) : Prop := ∃ fn c, P.funcs[g]? = some fn ∧ (fn.name == "runtime.NumGoroutine") = false ∧ fn.body = some c
def CallV (P:Program) (fv:Value) (args:List Value) (w:World) (C:Value → World → Prop):Prop :=
  Inv P (do let d ← Deferred.ofValue fv args.toArray; invoke d.target d.args) w C
theorem ziR {P:Program} {g:FuncId} {args:List Value} {cap:List Value} {w:World} {C:Value → World → Prop} (hg:zaJ P g) (hc:Ret P g (args ++ cap).toArray w C) :
    CallV P (.func (.func g) #[] cap.toArray) args w C:=by
  obtain ⟨fn,c,h1,h2,h3⟩:=hg
  have h2' : fn.name ≠ "runtime.NumGoroutine" := by simpa using h2
  refine Inv.enter (g:=g) (args:=(args ++ cap).toArray) (w':=w) ?_ hc
  simp [Deferred.ofValue,invoke,callFunc,Sem.run_bind,program,Sem.run,h1,h2',h3,Result.andThen]
section
variable {P:Program} {ty:TypeId} {ρ:Operand → Value} {w:World} {C:Value → World → Prop} {g:FuncId} {tys:Array TypeId}
theorem zeH {c:Operand} {args:List Operand} {fv:Value} {vs:List Value} (hf:ρ c = fv) (ha:args.map ρ = vs) (hc:CallV P fv vs w C):Op1 P (.call ⟨.value c,args.toArray,tys⟩) ty ρ w C:=by
  subst hf; subst ha
  intro fr cs h1 h3
  refine hc fr cs h1 ?_
  rw [h3]
  simp [execOp,resolve]
theorem zdh {args:List Operand} {vs:List Value} (hg:zaJ P g) (hf:ρ (.func g) = .func (.func g) #[] #[]) (ha:args.map ρ = vs) (hc:Ret P g vs.toArray w C):Op1 P (.call ⟨.value (.func g),args.toArray,tys⟩) ty ρ w C :=
  zeH hf ha (ziR (cap:=[]) hg (by simpa using hc))
variable {a1 a2 a3 a4 a5:Operand} {v1 v2 v3 v4 v5:Value}
theorem zk3 (hg:zaJ P g) (hf:ρ (.func g) = .func (.func g) #[] #[]) (hc:Ret P g #[] w C):Op1 P (.call ⟨.value (.func g),#[],tys⟩) ty ρ w C :=
  zdh (args:=[]) hg hf rfl hc
theorem zav (hg:zaJ P g) (hf:ρ (.func g) = .func (.func g) #[] #[]) (h1:ρ a1 = v1) (hc:Ret P g #[v1] w C):Op1 P (.call ⟨.value (.func g),#[a1],tys⟩) ty ρ w C :=
  zdh (args:=[a1]) (vs:=[v1]) hg hf (by simp [h1]) hc
theorem zaK (hg:zaJ P g) (hf:ρ (.func g) = .func (.func g) #[] #[]) (h1:ρ a1 = v1) (h2:ρ a2 = v2) (hc:Ret P g #[v1,v2] w C):Op1 P (.call ⟨.value (.func g),#[a1,a2],tys⟩) ty ρ w C :=
  zdh (args:=[a1,a2]) (vs:=[v1,v2]) hg hf (by simp [h1,h2]) hc
theorem zbm (hg:zaJ P g) (hf:ρ (.func g) = .func (.func g) #[] #[]) (h1:ρ a1 = v1) (h2:ρ a2 = v2) (h3:ρ a3 = v3) (hc:Ret P g #[v1,v2,v3] w C):Op1 P (.call ⟨.value (.func g),#[a1,a2,a3],tys⟩) ty ρ w C :=
  zdh (args:=[a1,a2,a3]) (vs:=[v1,v2,v3]) hg hf (by simp [h1,h2,h3]) hc
theorem zk2 (hg:zaJ P g) (hf:ρ (.func g) = .func (.func g) #[] #[]) (h1:ρ a1 = v1) (h2:ρ a2 = v2) (h3:ρ a3 = v3) (h4:ρ a4 = v4) (hc:Ret P g #[v1,v2,v3,v4] w C):Op1 P (.call ⟨.value (.func g),#[a1,a2,a3,a4],tys⟩) ty ρ w C :=
  zdh (args:=[a1,a2,a3,a4]) (vs:=[v1,v2,v3,v4]) hg hf (by simp [h1,h2,h3,h4]) hc
theorem zqO (hg:zaJ P g) (hf:ρ (.func g) = .func (.func g) #[] #[]) (h1:ρ a1 = v1) (h2:ρ a2 = v2) (h3:ρ a3 = v3) (h4:ρ a4 = v4) (h5:ρ a5 = v5) (hc:Ret P g #[v1,v2,v3,v4,v5] w C):Op1 P (.call ⟨.value (.func g),#[a1,a2,a3,a4,a5],tys⟩) ty ρ w C :=
  zdh (args:=[a1,a2,a3,a4,a5]) (vs:=[v1,v2,v3,v4,v5]) hg hf (by simp [h1,h2,h3,h4,h5]) hc
theorem zou {c:Operand} {fv:Value} (hf:ρ c = fv) (hc:CallV P fv [] w C):Op1 P (.call ⟨.value c,#[],tys⟩) ty ρ w C:=zeH (args:=[]) hf rfl hc
theorem zgB {c:Operand} {fv:Value} (hf:ρ c = fv) (h1:ρ a1 = v1) (hc:CallV P fv [v1] w C):Op1 P (.call ⟨.value c,#[a1],tys⟩) ty ρ w C:=zeH (args:=[a1]) hf (by simp [h1]) hc
theorem zgA {c:Operand} {fv:Value} (hf:ρ c = fv) (h1:ρ a1 = v1) (h2:ρ a2 = v2) (hc:CallV P fv [v1,v2] w C):Op1 P (.call ⟨.value c,#[a1,a2],tys⟩) ty ρ w C:=zeH (args:=[a1,a2]) hf (by simp [h1,h2]) hc
theorem zef {b:Builtin} {args:List Operand} {v:Value} {w':World} (h:∀ cs,(builtin b tys ty cs (args.map ρ).toArray).run P w = .ok (.value v) w') (hc:C v w'):Op1 P (.call ⟨.builtin b,args.toArray,tys⟩) ty ρ w C:=by
  refine zb5 (v:=v) (w':=w') ?_ hc
  simp [execOp,resolve,invoke,Sem.run_bind,Result.andThen,h]
variable {T:TypeId} {d:TypeDesc} {sz bytes:Nat} {zs:List Value} {k:IntKind} {a b:Int}
theorem zaX {s:List UInt8} {rest:List TypeId} (hT:TyF P T .string sz bytes zs) (h1:ρ a1 = str s) (hc:C (.int .i64 s.length) w):Op1 P (.call ⟨.builtin .len,#[a1],(T :: rest).toArray⟩) ty ρ w C :=
  zef (args:=[a1]) (fun cs=>by
    have hz:(ByteArray.mk s.toArray).size = s.length:=by simp [ByteArray.size]
    simp [h1,Go.builtin,Builtin.len_,str,Sem.run_bind,hT.run_und,Result.andThen,goInt,hz]) hc
theorem zaQ {e:TypeId} {ad:Option Addr} {n c:Nat} {rest:List TypeId} (hT:TyF P T (.slice e) sz bytes zs) (h1:ρ a1 = .slice ad n c) (hc:C (.int .i64 n) w):Op1 P (.call ⟨.builtin .len,#[a1],(T :: rest).toArray⟩) ty ρ w C :=
  zef (args:=[a1]) (fun cs=>by simp [h1,Go.builtin,Builtin.len_,Sem.run_bind,hT.run_und,Result.andThen,goInt]) hc
theorem zaZ {x y:Operand} {s:List UInt8} {i:Int} (hT:TyF P T .string sz bytes zs) (hx:ρ x = str s) (hy:ρ y = .int k i) (h0:0 ≤ i) (h1:i < s.length) (hc:C (.int .u8 (s.getD i.toNat 0).toNat) w) :
    Op1 P (.index T x y) ty ρ w C:=by
  have hi:i.toNat < s.length:=by omega
  refine zb5 (v:=.int .u8 (s.getD i.toNat 0).toNat) (w':=w) ?_ hc
  have hb:(ByteArray.mk s.toArray)[i.toNat]? = some (s.getD i.toNat 0):=by
    have hs:i.toNat < (ByteArray.mk s.toArray).size:=by simpa [ByteArray.size] using hi
    rw [getElem?_pos (ByteArray.mk s.toArray) i.toNat hs]
    have:(ByteArray.mk s.toArray)[i.toNat] = s.toArray[i.toNat]'(by simpa using hi):=rfl
    rw [this]
    simp [hi]
  simp [execOp,Instr.index,hx,hy,str,asIntOf,Sem.run_bind,hT.run_und,Result.andThen,h0,hb]
theorem zgu (s:List UInt8) (l h:Nat):(ByteArray.mk s.toArray).extract l h = ⟨((s.drop l).take (h - l)).toArray⟩:=by
  apply ByteArray.ext
  simp [ByteArray.data_extract]
theorem zcd {x y:Operand} {s:List UInt8} {a:Int} (hT:TyF P T .string sz bytes zs) (hx:ρ x = str s) (hy:ρ y = .int k a) (h0:0 ≤ a) (h1:a ≤ s.length)
    (hc:C (str (s.drop a.toNat)) w):Op1 P (.slice T x (some y) none none) ty ρ w C:=by
  refine zb5 (v:=str (s.drop a.toNat)) (w':=w) ?_ hc
  have hz:(ByteArray.mk s.toArray).size = s.length:=by simp [ByteArray.size]
  simp [execOp,Instr.sliceAt,Instr.slice,Instr.sliceBounds,Instr.sliceBound,asIntOf,hx,hy,str,Sem.run_bind,hT.run_und,Result.andThen,hz,zgu,h0,h1]
  rw [List.take_of_length_le (by simp)]
theorem zcG {x y:Operand} {s:List UInt8} {a:Int} (hT:TyF P T .string sz bytes zs) (hx:ρ x = str s) (hy:ρ y = .int k a) (h0:0 ≤ a) (h1:a ≤ s.length)
    (hc:C (str (s.take a.toNat)) w):Op1 P (.slice T x none (some y) none) ty ρ w C:=by
  refine zb5 (v:=str (s.take a.toNat)) (w':=w) ?_ hc
  have hz:(ByteArray.mk s.toArray).size = s.length:=by simp [ByteArray.size]
  simp [execOp,Instr.sliceAt,Instr.slice,Instr.sliceBounds,Instr.sliceBound,asIntOf,hx,hy,str,Sem.run_bind,hT.run_und,Result.andThen,hz,zgu,h0,h1]
theorem zeG {x y z:Operand} {s:List UInt8} {k2:IntKind} {a b:Int} (hT:TyF P T .string sz bytes zs) (hx:ρ x = str s) (hy:ρ y = .int k a) (hz:ρ z = .int k2 b) (h0:0 ≤ a) (h1:a ≤ b) (h2:b ≤ s.length)
    (hc:C (str ((s.drop a.toNat).take (b.toNat - a.toNat))) w):Op1 P (.slice T x (some y) (some z) none) ty ρ w C:=by
  refine zb5 (v:=str ((s.drop a.toNat).take (b.toNat - a.toNat))) (w':=w) ?_ hc
  have hs:(ByteArray.mk s.toArray).size = s.length:=by simp [ByteArray.size]
  have h3:0 ≤ b:=by omega
  have h4:max b 0 = b:=by omega
  simp [execOp,Instr.sliceAt,Instr.slice,Instr.sliceBounds,Instr.sliceBound,asIntOf,hx,hy,hz,str,Sem.run_bind,hT.run_und,Result.andThen,hs,zgu,h0,h1,h2,h3,h4]
theorem zdg {x:Operand} {i:Nat} {vs:List Value} {v:Value} (hx:ρ x = .tuple vs.toArray) (hv:vs[i]? = some v) (hc:C v w):Op1 P (.extract x i) ty ρ w C :=
  zb5 (by simp [execOp,Instr.extract,hx,hv]) hc
theorem zbJ {fn:Fn} {first cap:List Operand} (hc:C (.func fn (first.map ρ).toArray (cap.map ρ).toArray) w):Op1 P (.makeFunc fn first.toArray cap.toArray) ty ρ w C :=
  zb5 (v:=.func fn (first.map ρ).toArray (cap.map ρ).toArray) (w':=w) (by simp [execOp,Instr.makeFunc]) hc
theorem zaF {x:Operand} {ad:Addr} (hx:ρ x = .pointer (some ad)) (hc:C (.pointer (some ad)) w):Op1 P (.nilCheck x) ty ρ w C :=
  zb5 (v:=.pointer (some ad)) (w':=w) (by simp [execOp,hx]) hc
end
theorem St.perm {w0 w:World} {M:Nat → Prop} {L L' D:List Res} (h:St w0 M L D w) (hp:L.Perm L'):St w0 M L' D w where
  kept:=h.kept
  hL:=fun r hr=>h.hL r (hp.mem_iff.2 hr)
  hD:=h.hD
  new:=fun r hr=>h.new r (hp.mem_iff.2 hr)
  sep:=(hp.pairwise_iff (fun {a b} hab=>hab.symm)).1 h.sep
  sepD:=fun r hr=>h.sepD r (hp.mem_iff.2 hr)
def waits (ops:Array Oper) (i j:Nat):Bool:=((Region.before ops).getD i 0).testBit j
def dstOf (ops:Array Oper) (i:Nat):Option Nat:=(ops[i]?).bind (·.dst)
abbrev zqJ:=Value → List Res → Prop
abbrev zgc:=(Nat → Value) → Value → List Res → Prop
abbrev cw (p:zqJ):zgc:=fun _=>p
def mask (ops:Array Oper) (j:Nat) (f:Nat → Value):Nat → Value:=fun t=>if (List.range ops.size).any (fun l=>waits ops j l && dstOf ops l == some t) then f t else undef
theorem zty {ops:Array Oper} {j:Nat} {f1 f2:Nat → Value} (h:∀ l t,waits ops j l = true → dstOf ops l = some t → f1 t = f2 t):mask ops j f1 = mask ops j f2:=by
  funext t
  unfold mask
  by_cases hb:(List.range ops.size).any (fun l=>waits ops j l && dstOf ops l == some t) = true
  · rw [if_pos hb, if_pos hb]
    obtain ⟨l,_,hl⟩:=List.any_eq_true.1 hb
    simp only [Bool.and_eq_true,beq_iff_eq] at hl
    exact h l t hl.1 hl.2
  · rw [if_neg hb,if_neg hb]
theorem zeU {ops:Array Oper} {j l t:Nat} (f:Nat → Value) (hw:waits ops j l = true) (hd:dstOf ops l = some t):mask ops j f t = f t:=by
  unfold mask
  rw [if_pos]
  refine List.any_eq_true.2 ⟨l,List.mem_range.2 ?_,by simp [hw,hd]⟩
  simp only [dstOf] at hd
  rcases Nat.lt_or_ge l ops.size with h | h
  · exact h
  · rw [Array.getElem?_eq_none h] at hd; cases hd
abbrev det (v:Value):zqJ:=fun u rs=>u = v ∧ rs = []
abbrev zjB:=List (Nat × Res × Res)
def zdp (pd:zjB) (done:Array Bool):List Res:=pd.map fun p=>if done[p.1]? = some true then p.2.2 else p.2.1
abbrev zcR:=List (Nat × Nat)
def zep (tk:zcR) (done:Array Bool) (j:Nat):Bool:=tk.any fun p=>Nat.beq p.1 j && (done[p.2]? == some true)
def zdz (tk:zcR) (done:Array Bool) (R:Nat → List Res) (j:Nat):List Res:=if zep tk done j = true then [] else R j
def zk6 (tk:zcR) (R:Nat → List Res) (j:Nat):List Res:=if (tk.any fun p=>Nat.beq p.1 j) = true then [] else R j
def zo4 (tk:zcR) (j i:Nat):Bool:=tk.all fun p=>!(Nat.beq p.1 j) || Nat.beq p.2 i
structure Turn (pd:zjB) (tk:zcR) (i:Nat) (L' L'':List Res):Prop where
  own:∀ r r',(i,r,r') ∈ pd → (∀ p ∈ tk,p.2 ≠ i) → Sel r r' L' L''
  same:(∀ p ∈ pd,p.1 ≠ i) → (∀ p ∈ tk,p.2 ≠ i) → L'' = L'
structure TkOk (tk:zcR) (pd:zjB) (ops:Array Oper) (m:Nat):Prop where
  waits:∀ p ∈ tk,waits ops p.2 p.1 = true
  src:∀ p ∈ tk,∀ q ∈ tk,p.1 = q.1 → p = q
  dst:∀ p ∈ tk,∀ q ∈ tk,p.2 = q.2 → p = q
  pend:∀ p ∈ tk,∀ q ∈ pd,q.1 ≠ p.2
  lt:∀ p ∈ tk,p.1 < m ∧ p.2 < m
theorem takenBy_iff {tk:zcR} {done:Array Bool} {j:Nat}:zep tk done j = true ↔ ∃ p ∈ tk,p.1 = j ∧ done[p.2]? = some true:=by
  unfold zep
  rw [List.any_eq_true]
  constructor
  · rintro ⟨p, hp, h⟩
    simp only [Bool.and_eq_true,beq_iff_eq] at h
    exact ⟨p,hp,Nat.eq_of_beq_eq_true h.1,h.2⟩
  · rintro ⟨p, hp, rfl, h⟩
    exact ⟨p,hp,by simp [h]⟩
theorem zln {tk:zcR} {j i:Nat} (h:zo4 tk j i = true):∀ p ∈ tk,p.1 = j → p.2 = i:=fun p hp e=>by
  have:=List.all_eq_true.1 h p hp
  simp only [Bool.or_eq_true,Bool.not_eq_true'] at this
  rcases this with h1 | h1
  · rw [e,Nat.beq_refl] at h1; cases h1
  · exact Nat.eq_of_beq_eq_true h1
theorem zgq {tk:zcR} {done:Array Bool} {R:Nat → List Res} {j:Nat} (h:∀ p ∈ tk,p.1 = j → done[p.2]? ≠ some true):zdz tk done R j = R j:=by
  unfold zdz
  rw [if_neg]
  intro ht
  obtain ⟨p,hp,e,hd⟩:=takenBy_iff.1 ht
  exact h p hp e hd
theorem znP {tk:zcR} {done:Array Bool} {R:Nat → List Res} {j:Nat} {p:Nat × Nat} (hp:p ∈ tk) (e:p.1 = j) (hd:done[p.2]? = some true):zdz tk done R j = []:=by
  unfold zdz; rw [if_pos (takenBy_iff.2 ⟨p,hp,e,hd⟩)]
theorem zeZ {done:Array Bool} {i j:Nat} (hi:i < done.size):(done.setIfInBounds i true)[j]? = some true ↔ j = i ∨ done[j]? = some true:=by
  by_cases hj:j = i
  · subst hj; simp [hi]
  · rw [Array.getElem?_setIfInBounds_ne (Ne.symm hj)]; simp [hj]
theorem znO {tk:zcR} {done:Array Bool} {R:Nat → List Res} {i:Nat} (hi:i < done.size) (hn:∀ p ∈ tk,p.2 ≠ i):zdz tk (done.setIfInBounds i true) R = zdz tk done R:=by
  funext j
  unfold zdz
  have:zep tk (done.setIfInBounds i true) j = zep tk done j:=by
    rw [Bool.eq_iff_iff,takenBy_iff,takenBy_iff]
    constructor
    · rintro ⟨p, hp, e, h⟩
      rcases (zeZ hi).1 h with h | h
      · exact absurd h (hn p hp)
      · exact ⟨p,hp,e,h⟩
    · rintro ⟨p, hp, e, h⟩
      exact ⟨p,hp,e,(zeZ hi).2 (.inr h)⟩
  rw [this]
theorem zkr {f g:Nat → List Res} {j:Nat} (hg:g j = []) (hfg:∀ x,x ≠ j → g x = f x):∀ (l:List Nat),l.Nodup → j ∈ l → (l.flatMap f).Perm (f j ++ l.flatMap g)
  | [],_,h=>by cases h
  | a :: l, hn, h => by
    rw [List.nodup_cons] at hn
    rw [List.flatMap_cons,List.flatMap_cons]
    by_cases e:a = j
    · subst e
      rw [hg,List.nil_append]
      have:l.flatMap g = l.flatMap f:=by
        simp only [List.flatMap]
        congr 1
        exact List.map_congr_left fun x hx=>hfg x fun e=>hn.1 (e ▸ hx)
      rw [this]
    · have hj:j ∈ l:=by
        cases h with
        | head=>exact absurd rfl e
        | tail _ h=>exact h
      rw [hfg a e]
      have:=zkr hg hfg l hn.2 hj
      exact (List.Perm.append_left _ this).trans (by rw [← List.append_assoc,← List.append_assoc]; exact List.Perm.append_right _ List.perm_append_comm)
theorem Sel.left {r r':Res} {L L':List Res} (h:Sel r r' L L'):∀ A:List Res,Sel r r' (A ++ L) (A ++ L')
  | []=>h
  | _ :: A=>.there (h.left A)
theorem Sel.right {r r':Res} {L L':List Res} (h:Sel r r' L L') (B:List Res):Sel r r' (L ++ B) (L' ++ B):=by
  induction h with
  | here=>exact .here
  | there _ ih=>exact .there ih
theorem zny {pd:zjB} {tk:zcR} {done:Array Bool} {i:Nat} (hi:done[i]? = some false) (hn:(pd.map (·.1)).Nodup) (A A2:List Res) (hA:(∀ p ∈ tk,p.2 ≠ i) → A2 = A):Turn pd tk i (A ++ zdp pd done) (A2 ++ zdp pd (done.setIfInBounds i true)):=by
  have hlt:i < done.size:=(Array.getElem?_eq_some_iff.1 hi).1
  have hget:∀ j:Nat,j ≠ i → (done.setIfInBounds i true)[j]? = done[j]?:=fun j hj=>by simp [Array.getElem?_setIfInBounds,Ne.symm hj]
  have hsame:∀ pd:zjB,(∀ p ∈ pd,p.1 ≠ i) → zdp pd (done.setIfInBounds i true) = zdp pd done:=fun pd hp=>by
    apply List.map_congr_left
    intro p hp'
    rw [hget _ (hp p hp')]
  refine ⟨fun r r' hm ht=>?_,fun hp ht=>by rw [hsame pd hp,hA ht]⟩
  rw [hA ht]
  clear hA
  refine Sel.left ?_ A
  induction pd with
  | nil=>cases hm
  | cons p pd ih =>
    rw [List.map_cons,List.nodup_cons] at hn
    simp only [zdp,List.map_cons]
    cases hm with
    | head =>
      have hrest:=hsame pd (fun q hq e=>hn.1 (List.mem_map.2 ⟨q,hq,e⟩))
      simp only [zdp] at hrest
      rw [hrest]
      simp only [hi,Array.getElem?_setIfInBounds_self_of_lt hlt]
      exact .here
    | tail _ hm =>
      have hne:p.1 ≠ i:=fun e=>hn.1 (List.mem_map.2 ⟨_,hm,e.symm⟩)
      rw [hget _ hne]
      exact .there (ih hn.2 hm)
structure Ctx (tk:zcR) (pd:zjB) (ops:Array Oper) (f:Nat → Value) (w0:World) (M:Nat → Prop) (L D:List Res) (φ:Nat → zgc) (i:Nat) (f':Nat → Value) (L' L'':List Res) (w':World):Prop where
  st:St w0 M (L' ++ L) D w'
  turn:Turn pd tk i L' L''
  slot:∀ t,(∀ j,j < ops.size → dstOf ops j = some t → j = i ∨ waits ops j i = true) → f' t = f t
  dep:∀ j t,waits ops i j = true → dstOf ops j = some t → ∃ rs,φ j (mask ops j f') (f' t) rs ∧ (zo4 tk j i = true → ∀ r ∈ rs,r ∈ L')
  took:∀ j t,(j,i) ∈ tk → dstOf ops j = some t → ∃ rs,φ j (mask ops j f') (f' t) rs ∧ L'.Perm (rs ++ L'')
  later:∀ p ∈ pd,waits ops p.1 i = true → p.2.1 ∈ L'
def zt2 (tk:zcR) (pd:zjB) (P:Program) (n:Nat) (ops:Array Oper) (f:Nat → Value) (w0:World) (M:Nat → Prop) (L D:List Res) (φ:Nat → zgc) (i:Nat):Prop :=
  ∀ o, ops[i]? = some o → ∀ f' L' L'' w', Ctx tk pd ops f w0 M L D φ i f' L' L'' w' →
    (Region.wanted o (yielded ops (tm n f')) = true ∧ zcr o.op = false ∧
      Op1 P o.op o.type (ev n f') w' (fun v w''=>∃ rs,φ i (mask ops i f') v rs ∧ St w0 M (rs ++ (L'' ++ L)) D w'')) ∨
    (Region.wanted o (yielded ops (tm n f')) = false ∧ φ i (mask ops i f') undef [] ∧ L'' = L')
structure Mid (tk:zcR) (pd:zjB) (ops:Array Oper) (f:Nat → Value) (w0:World) (M:Nat → Prop) (L D:List Res) (φ:Nat → zgc) (order:List Nat) (R:Nat → List Res) (done:Array Bool) (f':Nat → Value) (w':World):Prop where
  st:St w0 M ((order.flatMap (zdz tk done R) ++ zdp pd done) ++ L) D w'
  size:done.size = ops.size
  ord:∀ j,j ∈ order ↔ done[j]? = some true
  nodup:order.Nodup
  down:∀ i j,done[i]? = some true → waits ops i j = true → done[j]? = some true
  slot:∀ t,(∀ j,dstOf ops j = some t → done[j]? ≠ some true) → f' t = f t
  dep:∀ j t,done[j]? = some true → dstOf ops j = some t → φ j (mask ops j f') (f' t) (R j)
  res:∀ j,done[j]? = some true → ∃ v,φ j (mask ops j f') v (R j)
def zl7 (ops:Array Oper):Prop:=∀ i j t,dstOf ops i = some t → dstOf ops j = some t → i = j
def zjC (ops:Array Oper):Prop:=∀ i j o,ops[i]? = some o → waits ops i j = true → ∃ e ∈ o.after,Region.binds .any e = true ∧ (e.on = j ∨ waits ops e.on j = true)
variable {P:Program} {b:Base} {k:List Item} {E:Frame → World → Prop} {ops:Array Oper} {f:Nat → Value} {w0 w:World} {M:Nat → Prop} {L D:List Res} {φ:Nat → zgc} {pd:zjB} {tk:zcR}
theorem Mid.step {order:List Nat} {R:Nat → List Res} {done:Array Bool} {f':Nat → Value} {w' w'':World} {i:Nat} {v:Value} {rs:List Res} {o:Oper}
    (hone:zl7 ops) (h:Mid tk pd ops f w0 M L D φ order R done f' w') (hi:done[i]? = some false) (ho:ops[i]? = some o) (hr:∀ j,waits ops i j = true → done[j]? = some true)
    (htk:∀ p ∈ tk,waits ops p.2 p.1 = true) (hv:φ i (mask ops i f') v rs) (V:St w0 M (rs ++ ((order.flatMap (zdz tk (done.setIfInBounds i true) R) ++ zdp pd (done.setIfInBounds i true)) ++ L)) D w'') :
    Mid tk pd ops f w0 M L D φ (i :: order) (fun j=>if j = i then rs else R j) (done.setIfInBounds i true) (zfw f' o.dst v) w'':=by
  have hlt:i < done.size:=(Array.getElem?_eq_some_iff.1 hi).1
  have hni:i ∉ order:=fun hm=>by rw [(h.ord i).1 hm] at hi; simp at hi
  have hget:∀ j:Nat,(done.setIfInBounds i true)[j]? = if j = i then some true else done[j]?:=by
    intro j
    by_cases hj:j = i
    · subst hj; simp [hlt]
    · simp [Array.getElem?_setIfInBounds,hj,Ne.symm hj]
  have hd:dstOf ops i = o.dst:=by simp [dstOf,ho]
  have hmask:∀ j,(∀ l,waits ops j l = true → done[l]? = some true) → mask ops j (zfw f' o.dst v) = mask ops j f':=fun j hj=>zty fun l t hw hl=>by
    cases hdst:o.dst with
    | none=>rfl
    | some d =>
      have:t ≠ d:=fun e=>by
        have hli:l = i:=hone l i t hl (by rw [hd,hdst,e])
        rw [hli] at hw
        have:=hj i hw
        rw [hi] at this; simp at this
      exact ziq _ _ this
  refine ⟨?_,by simpa using h.size,?_,?_,?_,?_,?_,fun j hj=>?_⟩
  · have e:(i :: order).flatMap (zdz tk (done.setIfInBounds i true) (fun j=>if j = i then rs else R j)) = rs ++ order.flatMap (zdz tk (done.setIfInBounds i true) R):=by
      have e1:zdz tk (done.setIfInBounds i true) (fun j=>if j = i then rs else R j) i = rs:=by
        rw [zgq]
        · simp
        · intro p hp e hd
          rcases (zeZ hlt).1 hd with h1 | h1
          · have h2 := htk p hp
            rw [e,h1] at h2
            have:=hr i h2
            rw [hi] at this; simp at this
          · have h2 := htk p hp
            rw [e] at h2
            have:=h.down p.2 i h1 h2
            rw [hi] at this; simp at this
      rw [List.flatMap_cons,e1]
      congr 1
      simp only [List.flatMap]
      congr 1
      apply List.map_congr_left
      intro j hj
      unfold zdz
      dsimp only
      rw [if_neg (fun (e:j = i)=>hni (e ▸ hj))]
    rw [e,List.append_assoc rs,List.append_assoc rs]
    exact V
  · intro j
    rw [hget,List.mem_cons,h.ord]
    by_cases hj:j = i <;> simp [hj]
  · exact List.nodup_cons.2 ⟨hni,h.nodup⟩
  · intro i' j hi' hw
    rw [hget] at hi' ⊢
    by_cases hj:j = i
    · simp [hj]
    · rw [if_neg hj]
      by_cases he:i' = i
      · subst he; exact hr j hw
      · rw [if_neg he] at hi'; exact h.down i' j hi' hw
  · intro t ht
    have hne:o.dst ≠ some t:=fun e=>ht i (hd.trans e) (by rw [hget]; simp)
    have:zfw f' o.dst v t = f' t:=by
      cases hdst:o.dst with
      | none=>rfl
      | some d =>
        have:t ≠ d:=fun e=>hne (by rw [hdst,e])
        exact ziq _ _ this
    rw [this]
    refine h.slot t fun j hj hdone=>ht j hj ?_
    rw [hget]; split
    · rfl
    · exact hdone
  · intro j t hj hdt
    rw [hget] at hj
    by_cases he:j = i
    · subst he
      rw [hd] at hdt
      have hm:=hmask j hr
      simp only [hdt] at hm ⊢
      rw [hm]
      simp only [if_true,zfw,zgY]
      exact hv
    · rw [if_neg he] at hj
      have:zfw f' o.dst v t = f' t:=by
        cases hdst:o.dst with
        | none=>rfl
        | some d =>
          have:t ≠ d:=fun e=>he (hone j i t hdt (by rw [hd,hdst,e]))
          exact ziq _ _ this
      rw [this,hmask j (fun l hw=>h.down j l hj hw)]
      simp only [if_neg he]
      exact h.dep j t hj hdt
  · rw [hget] at hj
    by_cases he:j = i
    · subst he; exact ⟨v,by rw [hmask j hr]; simpa using hv⟩
    · rw [if_neg he] at hj
      simp only [if_neg he]
      rw [hmask j (fun l hw=>h.down j l hj hw)]
      exact h.res j hj
theorem zj7 {done:Array Bool} {i:Nat} (h:i ∈ Region.ready .any ops done) (hs:done.size = ops.size) :
    ∃ o,ops[i]? = some o ∧ done[i]? = some false ∧ ∀ e ∈ o.after,Region.binds .any e = true → done[e.on]? = some true:=by
  simp only [Region.ready,List.mem_filter,List.mem_range,Bool.and_eq_true,Bool.not_eq_true'] at h
  obtain ⟨hlt,hnd,hall⟩:=h
  have hi:i < ops.size:=hlt
  refine ⟨ops[i],by simp [hi],?_,?_⟩
  · have hd : i < done.size := by omega
    simp [hd] at hnd ⊢
    exact hnd
  · simp only [hi, getElem?_pos, Option.map_some, Option.getD_some, Array.all_eq_true, Bool.or_eq_true, Bool.not_eq_true'] at hall
    intro e he hb
    obtain ⟨m,hm,rfl⟩:=Array.mem_iff_getElem.1 he
    have:=hall m hm
    rw [hb] at this
    simp at this
    by_cases hlt2:ops[i].after[m].on < done.size
    · simp [hlt2] at this ⊢; exact this
    · simp [hlt2] at this
theorem zjY {done:Array Bool} {order:List Nat} {R:Nat → List Res} {f':Nat → Value} {w':World} (h:Mid tk pd ops f w0 M L D φ order R done f' w')
    (hlow:∀ i o,ops[i]? = some o → ∀ e ∈ o.after,Region.binds .any e = true → e.on < i) (hr:Region.ready .any ops done = []):∀ i,i < ops.size → done[i]? = some true:=by
  intro i
  induction i using Nat.strongRecOn with
  | _ i ih =>
    intro hi
    by_cases hd:done[i]? = some true
    · exact hd
    · exfalso
      have hsz:i < done.size:=by rw [h.size]; exact hi
      have hf:done[i] = false:=by
        cases hc:done[i] with
        | false=>rfl
        | true=>exact absurd (by simp [hsz,hc]) hd
      have:i ∈ Region.ready .any ops done:=by
        simp only [Region.ready,List.mem_filter,List.mem_range,Bool.and_eq_true,Bool.not_eq_true']
        refine ⟨hi,by simp [hsz,hf],?_⟩
        simp only [hi,getElem?_pos,Option.map_some,Option.getD_some,Array.all_eq_true,Bool.or_eq_true,Bool.not_eq_true']
        intro m hm
        cases hb:Region.binds .any ops[i].after[m] with
        | false=>exact .inl rfl
        | true =>
          right
          have hlt:=hlow i ops[i] (by simp [hi]) ops[i].after[m] (Array.getElem_mem hm) hb
          have:=ih _ hlt O
          have h2:ops[i].after[m].on < done.size:=by rw [h.size]; omega
          simp [h2] at this ⊢
          exact this
      rw [hr] at this
      cases this
theorem zhi (hedges:zjC ops) (hlow:∀ i o,ops[i]? = some o → ∀ e ∈ o.after,Region.binds .any e = true → e.on < i):∀ i,∀ j o,ops[i]? = some o → waits ops i j = true → j < i:=by
  intro i
  induction i using Nat.strongRecOn with
  | _ i ih =>
    intro j o ho hw
    obtain ⟨e,he,hb,hor⟩:=hedges i j o ho hw
    have hlt:=hlow i o ho e he hb
    rcases hor with rfl | hor
    · exact hlt
    · have hi : i < ops.size := (Array.getElem?_eq_some_iff.1 ho).1
      have:=ih _ hlt j ops[e.on] (by simp [show e.on < ops.size by omega]) hor
      omega
def Pre (ops:Array Oper) (i:Nat) (done:Array Bool):Prop:=done.size = ops.size ∧ ∀ j,done[j]? = some true ↔ j < i
theorem ztH (hedges:zjC ops) (hlow:∀ i o,ops[i]? = some o → ∀ e ∈ o.after,Region.binds .any e = true → e.on < i) {m:Nat} (htail:∀ i,m ≤ i → i < ops.size → ∀ j,j < i → waits ops i j = true) :
    ∀ (fuel t i:Nat) (done:Array Bool),m ≤ i → i + fuel = ops.size → Pre ops i done → Region.linearise.go .any ops fuel t done [] = List.range' i fuel:=by
  intro fuel
  induction fuel with
  | zero=>intro t i done _ _ _; simp [Region.linearise.go]
  | succ fuel ih =>
    intro t i done hm hn hp
    have hi:i < ops.size:=by omega
    have hready:Region.ready .any ops done = [i]:=by
      have key:∀ j,j < ops.size → ((!done.getD j true && ((ops[j]?).map (·.after.all fun e=>!Region.binds .any e || done.getD e.on false)).getD false) = true ↔ j = i):=by
        intro j hj
        have hjd:j < done.size:=by rw [hp.1]; exact hj
        constructor
        · intro h
          have hr:j ∈ Region.ready .any ops done:=List.mem_filter.2 ⟨List.mem_range.2 hj,h⟩
          obtain ⟨o,ho,hnd,hdeps⟩:=zj7 hr hp.1
          have hge:¬ j < i:=fun hlt=>by rw [(hp.2 j).2 hlt] at hnd; simp at hnd
          rcases Nat.lt_or_ge i j with hij | hij
          · exfalso
            have hw:=htail j O hj i hij
            have:∀ n j,j = n → ∀ o,ops[j]? = some o → (∀ e ∈ o.after,Region.binds .any e = true → done[e.on]? = some true) → ∀ l,waits ops j l = true → done[l]? = some true:=by
              intro n j _ o ho hdeps l hw
              obtain ⟨e,he,hb,hor⟩:=hedges j l o ho hw
              have h1:=hdeps e he hb
              rcases hor with rfl | hor
              · exact h1
              · have h2 := (hp.2 e.on).1 h1
                have h3:e.on < ops.size:=by omega
                have h4:=zhi hedges hlow e.on l ops[e.on] (by simp [h3]) hor
                exact (hp.2 l).2 O
            have:=(hp.2 i).1 (this j j rfl o ho hdeps i hw)
            omega
          · omega
        · rintro rfl
          have hnd:done[j]? ≠ some true:=fun h=>by have:=(hp.2 j).1 h; omega
          have hd:done[j] = false:=by
            cases hc:done[j] with
            | false=>rfl
            | true=>exact absurd (by simp [hjd,hc]) hnd
          simp only [Bool.and_eq_true,Bool.not_eq_true']
          refine ⟨by simp [hjd,hd],?_⟩
          simp only [hj,getElem?_pos,Option.map_some,Option.getD_some,Array.all_eq_true,Bool.or_eq_true,Bool.not_eq_true']
          intro x hx
          cases hb:Region.binds .any ops[j].after[x] with
          | false=>exact .inl rfl
          | true =>
            right
            have hlt:=hlow j ops[j] (by simp [hj]) ops[j].after[x] (Array.getElem_mem hx) hb
            have:=(hp.2 _).2 hlt
            have h2:ops[j].after[x].on < done.size:=by rw [hp.1]; omega
            simp [h2] at this ⊢
            exact this
      have:Region.ready .any ops done = (List.range ops.size).filter (fun j=>decide (j = i)):=by
        apply List.filter_congr
        intro j hj
        have:=key j (List.mem_range.1 hj)
        by_cases hji:j = i
        · rw [this.2 hji]; simp [hji]
        · simp only [hji, decide_false]
          cases hc:(!done.getD j true && ((ops[j]?).map (·.after.all fun e=>!Region.binds .any e || done.getD e.on false)).getD false) with
          | false=>rfl
          | true=>exact absurd (this.1 hc) hji
      rw [this]
      have e:List.range ops.size = List.range i ++ (i :: List.range' (i + 1) (ops.size - (i + 1))):=by
        rw [List.range_eq_range',List.range_eq_range',← List.range'_succ]
        have:=List.range'_append (s:=0) (m:=i) (n:=ops.size - (i + 1) + 1) (step:=1)
        rw [Nat.one_mul,Nat.zero_add] at this
        rw [this]
        congr 1
        omega
      rw [e,List.filter_append]
      have e1:(List.range i).filter (fun j=>decide (j = i)) = []:=by
        rw [List.filter_eq_nil_iff]
        intro j hj; have:=List.mem_range.1 hj; simp; omega
      have e2:(List.range' (i + 1) (ops.size - (i + 1))).filter (fun j=>decide (j = i)) = []:=by
        rw [List.filter_eq_nil_iff]
        intro j hj; have:=List.mem_range'_1.1 hj; simp; omega
      simp [e1,e2]
    simp only [Region.linearise.go]
    change (match (Region.ready .any ops done)[t % (Region.ready .any ops done).length]? with
      | some i=>Region.linearise.go .any ops fuel (t / (Region.ready .any ops done).length) (done.setIfInBounds i true) [i]
      | none=>[].reverse) = _
    rw [hready]
    simp only [List.length_cons,List.length_nil,Nat.zero_add,Nat.mod_one,List.getElem?_cons_zero]
    rw [linearise_go_acc,List.reverse_singleton,List.singleton_append,List.range'_succ]
    congr 1
    refine ih _ (i + 1) _ (by omega) (by omega) ⟨by simpa using hp.1,fun j=>?_⟩
    have hid:i < done.size:=by rw [hp.1]; exact hi
    by_cases hj:j = i
    · subst hj; simp [hid]
    · rw [Array.getElem?_setIfInBounds_ne (Ne.symm hj), hp.2]
      omega
theorem zns (hone:zl7 ops) (hedges:zjC ops) (hlow:∀ i o,ops[i]? = some o → ∀ e ∈ o.after,Region.binds .any e = true → e.on < i) {m:Nat} (hmn:m ≤ ops.size)
    (htail:∀ i,m ≤ i → i < ops.size → ∀ j,j < i → waits ops i j = true)
    (hpn:(pd.map (·.1)).Nodup) (hpm:∀ p ∈ pd,p.1 < m) (htk:TkOk tk pd ops m)
    (hval:∀ i,i < m → zt2 tk pd P b.n ops f w0 M L D φ i)
    (hend:∀ f' w' R,(∀ t,(∀ j,j < m → dstOf ops j ≠ some t) → f' t = f t) → (∀ j t,j < m → dstOf ops j = some t → φ j (mask ops j f') (f' t) (R j)) → (∀ j,j < m → ∃ v,φ j (mask ops j f') v (R j)) → St w0 M (((List.range m).flatMap (zk6 tk R) ++ pd.map (·.2.2)) ++ L) D w' →
      Run P b (.inRegion ops (List.range' m (ops.size - m)) :: k) f' w' E) :
    ∀ (fuel t : Nat) (done : Array Bool) (order : List Nat) (R : Nat → List Res) (f' : Nat → Value) (w' : World), order.length + fuel = ops.size → (∀ j ∈ order, j < m) → Mid tk pd ops f w0 M L D φ order R done f' w' →
      Run P b (.inRegion ops (Region.linearise.go .any ops fuel t done []) :: k) f' w' E:=by
  intro fuel
  have fin:∀ (done:Array Bool) (order:List Nat) (R:Nat → List Res) (f':Nat → Value) (w':World),(∀ j ∈ order,j < m) → Mid tk pd ops f w0 M L D φ order R done f' w' → (∀ i,i < m → done[i]? = some true) →
      Run P b (.inRegion ops (List.range' m (ops.size - m)) :: k) f' w' E:=by
    intro done order R f' w' hord h hall
    refine hend f' w' R ?_ ?_ (fun j hj=>h.res j (hall j hj)) ?_
    · refine fun t ht => h.slot t fun j hj hdone => ?_
      exact ht j (hord j ((h.ord j).2 hdone)) hj
    · exact fun j t hj hjt=>h.dep j t (hall j hj) hjt
    · have hp:order.Perm (List.range m):=by
        refine (List.perm_ext_iff_of_nodup h.nodup List.nodup_range).2 fun j=>?_
        rw [h.ord,List.mem_range]
        exact ⟨fun hj=>hord j ((h.ord j).2 hj),hall j⟩
      have hpe:zdp pd done = pd.map (·.2.2):=by
        apply List.map_congr_left
        intro p hp'
        rw [if_pos (hall _ (hpm p hp'))]
      have hlv:zdz tk done R = zk6 tk R:=by
        funext j
        unfold zdz zk6
        have:zep tk done j = tk.any fun p=>Nat.beq p.1 j:=by
          rw [Bool.eq_iff_iff,takenBy_iff,List.any_eq_true]
          constructor
          · rintro ⟨p,hp,rfl,_⟩; exact ⟨p,hp,by simp⟩
          · rintro ⟨p,hp,h1⟩; exact ⟨p,hp,Nat.eq_of_beq_eq_true h1,hall _ (htk.lt p hp).2⟩
        rw [this]
      have V:=h.st
      rw [hpe,hlv] at V
      exact V.perm (((hp.flatMap_right (zk6 tk R)).append_right _).append_right L)
  induction fuel with
  | zero =>
    intro t done order R f' w' hl hord h
    have hsub:∀ j ∈ order,j < ops.size:=fun j hj=>by have:=hord j hj; omega
    have hlen:order.length = ops.size:=by omega
    have hp:((List.range ops.size).filter (fun j=>decide (j ∈ order))).Perm order:=by
      refine (List.perm_ext_iff_of_nodup (List.nodup_range.filter _) h.nodup).2 fun j=>?_
      simp only [List.mem_filter,List.mem_range,decide_eq_true_eq]
      exact ⟨fun h=>h.2,fun h=>⟨hsub j h,h⟩⟩
    have hl2:((List.range ops.size).filter (fun j=>decide (j ∈ order))).length = (List.range ops.size).length:=by
      rw [hp.length_eq,hlen,List.length_range]
    have hall:∀ i,i < ops.size → i ∈ order:=fun i hi=>by
      have:=(List.length_filter_eq_length_iff).1 hl2 i (List.mem_range.2 hi)
      simpa using this
    have hmeq:m = ops.size:=by
      rcases Nat.lt_or_ge m ops.size with hlt | hge
      · have:=hord m (hall m hlt); omega
      · omega
    have:=fin done order R f' w' hord h (fun i hi=>(h.ord i).1 (hall i O))
    rw [hmeq,Nat.sub_self] at this
    simpa [Region.linearise.go] using this
  | succ fuel ih =>
    intro t done order R f' w' hl hord h
    by_cases hall:∀ i,i < m → done[i]? = some true
    · have hlen:order.length = m:=by
        have hp:order.Perm (List.range m):=by
          refine (List.perm_ext_iff_of_nodup h.nodup List.nodup_range).2 fun j=>?_
          rw [h.ord,List.mem_range]
          exact ⟨fun hj=>hord j ((h.ord j).2 hj),hall j⟩
        simpa using hp.length_eq
      have hpre:Pre ops m done:=⟨h.size,fun j=>⟨fun hj=>hord j ((h.ord j).2 hj),hall j⟩⟩
      rw [ztH hedges hlow htail (fuel + 1) t m done (Nat.le_refl _) (by omega) hpre]
      have:=fin done order R f' w' hord h hall
      rwa [show ops.size - m = fuel + 1 by omega] at this
    · simp only [Region.linearise.go]
      change Run P b (.inRegion ops (match (Region.ready .any ops done)[t % (Region.ready .any ops done).length]? with
        | some i=>Region.linearise.go .any ops fuel (t / (Region.ready .any ops done).length) (done.setIfInBounds i true) [i]
        | none=>[].reverse) :: k) f' w' E
      cases hi:(Region.ready .any ops done)[t % (Region.ready .any ops done).length]? with
      | none =>
        have hnil:Region.ready .any ops done = []:=by
          cases hr:Region.ready .any ops done with
          | nil=>rfl
          | cons x xs =>
            rw [hr] at hi
            have hlt:t % (x :: xs).length < (x :: xs).length:=Nat.mod_lt _ (by simp)
            simp at hi
            simp at hlt
            omega
        exact absurd (fun i hi=>zjY h hlow hnil i O) hall
      | some i =>
        simp only []
        rw [linearise_go_acc,List.reverse_singleton,List.singleton_append]
        obtain ⟨o,ho,hnd,hdeps⟩:=zj7 (List.mem_of_getElem? hi) h.size
        have hwait:∀ j,waits ops i j = true → done[j]? = some true:=fun j hw=>by
          obtain ⟨e,he,hb,h1⟩:=hedges i j o ho hw
          have hd:=hdeps e he hb
          rcases h1 with rfl | h1
          · exact hd
          · exact h.down e.on j hd h1
        have hiN:i < ops.size:=(Array.getElem?_eq_some_iff.1 ho).1
        have him:i < m:=by
          rcases Nat.lt_or_ge i m with hlt | hge
          · exact hlt
          · exact absurd (fun j hj=>hwait j (htail i hge hiN j O)) hall
        have hord':∀ j ∈ i :: order,j < m:=fun j hj=>by
          cases hj with
          | head=>exact him
          | tail _ hj=>exact hord j hj
        have hsz:i < done.size:=(Array.getElem?_eq_some_iff.1 hnd).1
        have hctx:Ctx tk pd ops f w0 M L D φ i f' (order.flatMap (zdz tk done R) ++ zdp pd done) (order.flatMap (zdz tk (done.setIfInBounds i true) R) ++ zdp pd (done.setIfInBounds i true)) w':=by
          refine ⟨h.st,zny hnd hpn _ _ (fun ht=>by rw [znO hsz ht]),fun t ht=>h.slot t fun j hj hdone=>?_,fun j t hw hj=>⟨R j,h.dep j t (hwait j hw) hj,fun hfree r hr=>List.mem_append_left _ (List.mem_flatMap.2 ⟨j,(h.ord j).2 (hwait j hw),?_⟩)⟩,fun j t hm hj=>?_,fun p hp hw=>List.mem_append_right _ (List.mem_map.2 ⟨p,hp,if_neg fun hd=>by have:=h.down p.1 i hd hw; rw [hnd] at this; simp at this⟩)⟩
          · have hjs : j < ops.size := by have := (Array.getElem?_eq_some_iff.1 hdone).1; rw [h.size] at this; exact this
            rcases ht j hjs hj with rfl | hw
            · rw [hnd] at hdone; simp at hdone
            · have := h.down j i hdone hw
              rw [hnd] at this; simp at this
          · rw [zgq (fun p hp e hd=>by have:=zln hfree p hp e; rw [this,hnd] at hd; simp at hd)]; exact hr
          · have hw := htk.waits _ hm
            have hdj:=hwait j hw
            refine ⟨R j,h.dep j t hdj hj,?_⟩
            have hnp:∀ q ∈ pd,q.1 ≠ i:=htk.pend _ hm
            have hpe:zdp pd (done.setIfInBounds i true) = zdp pd done:=by
              apply List.map_congr_left
              intro p hp
              rw [Array.getElem?_setIfInBounds_ne (Ne.symm (hnp p hp))]
            rw [hpe,← List.append_assoc]
            refine List.Perm.append_right _ ?_
            have hlive:zdz tk done R j = R j:=zgq fun p hp e hd=>by
              have:=htk.src p hp _ hm e
              rw [this,hnd] at hd; simp at hd
            have:=zkr (f:=zdz tk done R) (g:=zdz tk (done.setIfInBounds i true) R) (j:=j) (znP hm rfl ((zeZ hsz).2 (.inl rfl))) (fun x hx=>by
              unfold zdz
              have:zep tk (done.setIfInBounds i true) x = zep tk done x:=by
                rw [Bool.eq_iff_iff,takenBy_iff,takenBy_iff]
                constructor
                · rintro ⟨p, hp, e, hd⟩
                  rcases (zeZ hsz).1 hd with h1 | h1
                  · have := htk.dst p hp _ hm h1
                    rw [this] at e; exact absurd e.symm hx
                  · exact ⟨p,hp,e,h1⟩
                · rintro ⟨p,hp,e,hd⟩; exact ⟨p,hp,e,(zeZ hsz).2 (.inr hd)⟩
              rw [this]) order h.nodup ((h.ord j).2 hdj)
            rw [hlive] at this
            exact this
        rcases hval i him o ho f' _ _ w' hctx with ⟨hw,hdf,hop⟩ | ⟨hw,hphi,hsm⟩
        · intro cs
          have hs:=zpq (P:=P) (b:=b) (k:=k) (w:=w') (rest:=Region.linearise.go .any ops fuel (t / (Region.ready .any ops done).length) (done.setIfInBounds i true) []) ho hw hdf cs
          rw [zky] at hs
          obtain ⟨v,w2,⟨rs,hv,V⟩,hsteps⟩:=hop _ cs rfl hs
          rw [zhM,ho] at hsteps
          have hmid:=h.step hone hnd ho hwait htk.waits hv V
          obtain ⟨fr,w3,hs3,he⟩:=ih (t / (Region.ready .any ops done).length) _ _ _ _ _ (by simp; omega) hord' hmid cs
          exact ⟨fr,w3,hsteps.trans hs3,he⟩
        · have hs:=fun cs=>zlx (P:=P) (k:=k) (w:=w') (b:=b) (f:=f') (ops:=ops) (i:=i)
            (rest:=Region.linearise.go .any ops fuel (t / (Region.ready .any ops done).length) (done.setIfInBounds i true) []) (by simp [ho,hw]) cs
          refine zbs hs ?_
          rw [ho]
          exact ih _ _ _ _ _ _ (by simp; omega) hord' (h.step (rs:=[]) hone hnd ho hwait htk.waits hphi (by rw [List.nil_append,hsm]; exact h.st))
def zmV (ops:Array Oper):Bool :=
  let n:=ops.size
  let bs:=Region.before ops
  (List.range n).all fun i =>
    let o:=ops.getD i default
    (o.after.all fun e=>!Region.binds .any e || Nat.blt e.on i) &&
    ((List.range n).all fun j=>i == j || (match o.dst with | none=>true | some d=>(ops.getD j default).dst != some d)) &&
    (bs.getD i 0 == o.after.foldl (fun s e=>if Region.binds .any e then s ||| 2 ^ e.on ||| bs.getD e.on 0 else s) 0)
theorem zkq (bs:Array Nat) (j:Nat):∀ (es:List Edge) (s:Nat),(es.foldl (fun s e=>if Region.binds .any e then s ||| 2 ^ e.on ||| bs.getD e.on 0 else s) s).testBit j = true →
    s.testBit j = true ∨ ∃ e ∈ es,Region.binds .any e = true ∧ (e.on = j ∨ (bs.getD e.on 0).testBit j = true)
  | [],s,h=>.inl h
  | e :: es, s, h => by
    simp only [List.foldl_cons] at h
    rcases zkq bs j es _ h with h | ⟨e',he',h'⟩
    · by_cases hb : Region.binds .any e = true
      · rw [if_pos hb] at h
        simp only [Nat.testBit_or,Bool.or_eq_true] at h
        rcases h with (h | h) | h
        · exact .inl h
        · right
          refine ⟨e,.head _,hb,.inl ?_⟩
          rw [Nat.testBit_two_pow] at h
          simpa using h
        · exact .inr ⟨e,.head _,hb,.inr h⟩
      · rw [if_neg hb] at h; exact .inl h
    · exact .inr ⟨e',.tail _ he',h'⟩
theorem zhT {ops:Array Oper} (h:zmV ops = true):zl7 ops ∧ zjC ops ∧ ∀ i o,ops[i]? = some o → ∀ e ∈ o.after,Region.binds .any e = true → e.on < i:=by
  simp only [zmV,List.all_eq_true,List.mem_range,Bool.and_eq_true,beq_iff_eq,Bool.or_eq_true] at h
  have hget:∀ i o,ops[i]? = some o → i < ops.size ∧ ops.getD i default = o:=fun i o ho=>by
    have:=Array.getElem?_eq_some_iff.1 ho
    exact ⟨this.1,by simp [this.1,this.2]⟩
  refine ⟨fun i j t hi hj=>?_,fun i j o ho hw=>?_,fun i o ho e he hb=>?_⟩
  · have gi:∃ o,ops[i]? = some o ∧ o.dst = some t:=by
      simp only [dstOf] at hi
      cases hg:ops[i]? with
      | none=>simp [hg] at hi
      | some o=>exact ⟨o,rfl,by simpa [hg] using hi⟩
    have gj:∃ o,ops[j]? = some o ∧ o.dst = some t:=by
      simp only [dstOf] at hj
      cases hg:ops[j]? with
      | none=>simp [hg] at hj
      | some o=>exact ⟨o,rfl,by simpa [hg] using hj⟩
    obtain ⟨oi,hoi,di⟩:=gi
    obtain ⟨oj,hoj,dj⟩:=gj
    have h1:=(h i (hget i oi hoi).1).1.2 j (hget j oj hoj).1
    rw [(hget i oi hoi).2,(hget j oj hoj).2,di,dj] at h1
    rcases h1 with h1 | h1
    · exact h1
    · simp at h1
  · have h1 := (h i (hget i o ho).1).2
    rw [(hget i o ho).2] at h1
    rw [waits,h1,← Array.foldl_toList] at hw
    rcases zkq _ j _ _ hw with h2 | ⟨e,he,hb,h3⟩
    · simp at h2
    · exact ⟨e,by simpa using he,hb,h3⟩
  · have h1 := (h i (hget i o ho).1).1.1
    rw [(hget i o ho).2,Array.all_eq_true] at h1
    obtain ⟨m,hm,rfl⟩:=Array.mem_iff_getElem.1 he
    have:=h1 m hm
    rw [hb] at this
    simpa using this
structure DrawTab (ops:Array Oper) (bs:List Nat) (ds:List (Option Nat)):Prop where
  ok:zmV ops = true
  bef:Region.before ops = bs.toArray
  dst:ops.toList.map (·.dst) = ds
def zkF (m j:Nat):Bool:=Nat.beq (m / 2 ^ j % 2) 1
theorem zdd (m j:Nat):m.testBit j = zkF m j:=by
  rw [Nat.testBit_eq_decide_div_mod_eq,zkF]
  cases h:Nat.beq (m / 2 ^ j % 2) 1 with
  | true=>simp [Nat.eq_of_beq_eq_true h]
  | false=>simp [Nat.ne_of_beq_eq_false h]
def zmd (ws:Nat → zgc) (i:Nat) (wd:zgc):Nat → zgc:=fun j=>bif Nat.beq j i then wd else ws j
theorem zoX (ws:Nat → zgc) (i:Nat) (wd:zgc):zmd ws i wd i = wd:=by simp [zmd]
theorem ztb (ws:Nat → zgc) {i j:Nat} (wd:zgc) (h:j ≠ i):zmd ws i wd j = ws j:=by
  have:Nat.beq j i = false:=by
    cases hb:Nat.beq j i with
    | false=>rfl
    | true=>exact absurd (Nat.eq_of_beq_eq_true hb) h
  simp [zmd,this]
abbrev noW:Nat → zgc:=fun _ _ _ _=>False
theorem DrawTab.waits {bs:List Nat} {ds:List (Option Nat)} (h:DrawTab ops bs ds) (i j:Nat):waits ops i j = (bs.getD i 0).testBit j:=by
  simp [SK.waits,h.bef]
theorem DrawTab.dstOf {bs:List Nat} {ds:List (Option Nat)} (h:DrawTab ops bs ds) (i:Nat):dstOf ops i = ds.getD i none:=by
  rw [← h.dst]
  simp only [SK.dstOf]
  by_cases hi:i < ops.size
  · simp [hi]
  · simp [hi]
theorem zq5 (h:zmV ops = true):∀ i,∀ j o,ops[i]? = some o → waits ops i j = true → j < i:=by
  obtain ⟨h1,h2,h3⟩:=zhT h
  exact zhi h2 h3
def RunD (tk:zcR) (pd:zjB) (P:Program) (b:Base) (ops:Array Oper) (bs:List Nat) (ds:List (Option Nat)) (k:List Item) (E:Frame → World → Prop) (f:Nat → Value) (w0:World) (M:Nat → Prop) (L D:List Res) (w:World) (i:Nat) (l:List Oper) (ws:Nat → zgc):Prop :=
  ops.toList.drop i = l → (∀ j,j < i → ∀ φ:Nat → zgc,(∀ j,j < i → φ j = ws j) → zt2 tk pd P b.n ops f w0 M L D φ j) →
    ∀ id,Run P b (.code (.region id ops true) :: k) f w E
structure Know1 (tk:zcR) (bs:List Nat) (ds:List (Option Nat)) (f:Nat → Value) (w0:World) (M:Nat → Prop) (L D:List Res) (i:Nat) (ws:Nat → zgc) (f':Nat → Value) (L':List Res) (w':World):Prop where
  st:St w0 M (L' ++ L) D w'
  slot:∀ t,((List.range ds.length).all fun j=>(ds.getD j none != some t) || Nat.beq j i || zkF (bs.getD j 0) i) = true → f' t = f t
  dep:∀ j t,zkF (bs.getD i 0) j = true → ds.getD j none = some t → ∃ g rs,ws j g (f' t) rs ∧ (∀ l u,zkF (bs.getD j 0) l = true → ds.getD l none = some u → g u = f' u) ∧ (zo4 tk j i = true → ∀ r ∈ rs,r ∈ L')
section
variable {bs:List Nat} {ds:List (Option Nat)} {i:Nat} {l:List Oper} {ws:Nat → zgc} {n:Nat} {f':Nat → Value} {L':List Res} {w':World}
theorem evs {t:Nat} {v:Value} (h:f' t = v) (ht:Nat.blt t n = true):ev n f' (.tmp t) = v:=by
  simp only [ev,ht,cond_true,h]
theorem Know1.old (h:Know1 tk bs ds f w0 M L D i ws f' L' w') {t:Nat} {v:Value} (hv:f t = v) (hs:((List.range ds.length).all fun j=>(ds.getD j none != some t) || Nat.beq j i || zkF (bs.getD j 0) i) = true)
    (ht:Nat.blt t n = true):ev n f' (.tmp t) = v:=evs ((h.slot t hs).trans hv) ht
theorem Know1.det (h:Know1 tk bs ds f w0 M L D i ws f' L' w') {j t:Nat} {v:Value} (hw:zkF (bs.getD i 0) j = true) (hd:ds.getD j none = some t) (hj:ws j = cw (SK.det v)) (ht:Nat.blt t n = true):ev n f' (.tmp t) = v:=by
  obtain ⟨g,rs,h1,_⟩:=h.dep j t hw hd
  rw [hj] at h1
  exact evs h1.1 ht
theorem RunD.start (pd:zjB) (V:St w0 M (pd.map (·.2.1) ++ L) D w) (htab:DrawTab ops bs ds) (h:DrawTab ops bs ds → RunD [] pd P b ops bs ds k E f w0 M L D w 0 ops.toList noW) {id:Nat}:Run P b (.code (.region id ops true) :: k) f w E :=
  h htab rfl (fun i hi=>absurd hi O) id
theorem zlS (tk:zcR) (pd:zjB) (V:St w0 M (pd.map (·.2.1) ++ L) D w) (htab:DrawTab ops bs ds) (h:DrawTab ops bs ds → RunD tk pd P b ops bs ds k E f w0 M L D w 0 ops.toList noW) {id:Nat}:Run P b (.code (.region id ops true) :: k) f w E :=
  h htab rfl (fun i hi=>absurd hi O) id
theorem RunD.cons {o:Oper} (wd:zgc) (hv:ops[i]? = some o → ∀ φ:Nat → zgc,(∀ j,j < i → φ j = ws j) → φ i = wd → zt2 tk pd P b.n ops f w0 M L D φ i) (h:RunD tk pd P b ops bs ds k E f w0 M L D w (i + 1) l (zmd ws i wd)) :
    RunD tk pd P b ops bs ds k E f w0 M L D w i (o :: l) ws:=by
  intro hdrop hall id
  have hlen:i < ops.size:=by
    rcases Nat.lt_or_ge i ops.size with hh | hh
    · exact hh
    · rw [List.drop_of_length_le (by simpa using hh)] at hdrop; cases hdrop
  have ho:ops[i]? = some o:=by
    have:(ops.toList.drop i)[0]? = some o:=by rw [hdrop]; rfl
    rw [List.getElem?_drop] at this
    simpa using this
  refine h ?_ (fun j hj φ hφ=>?_) id
  · have := congrArg (List.drop 1) hdrop
    rw [List.drop_drop] at this
    simpa [Nat.add_comm] using this
  · have hpre : ∀ j, j < i → φ j = ws j := fun j hj => by rw [hφ j (by omega), ztb _ _ (by omega)]
    by_cases hlt:j < i
    · exact hall j hlt φ hpre
    · obtain rfl : j = i := by omega
      exact hv ho φ hpre (by rw [hφ _ (by omega),zoX])
theorem zdq (htab:DrawTab ops bs ds) {φ:Nat → zgc} (hφ:∀ j,j < i → φ j = ws j) {o:Oper} (ho:ops[i]? = some o) {L'':List Res} (hc:Ctx tk pd ops f w0 M L D φ i f' L' L'' w'):Know1 tk bs ds f w0 M L D i ws f' L' w' where
  st:=hc.st
  slot:=fun t ht=>hc.slot t fun j hj hd=>by
    rw [List.all_eq_true] at ht
    have hlen:ds.length = ops.size:=by rw [← htab.dst]; simp
    have:=ht j (List.mem_range.2 O)
    rw [htab.dstOf] at hd
    simp only [hd,bne_self_eq_false,Bool.false_or,Bool.or_eq_true] at this
    rcases this with h | h
    · exact .inl (Nat.eq_of_beq_eq_true h)
    · exact .inr (by rw [htab.waits,zdd]; exact h)
  dep:=fun j t hw hd=>by
    have hw':waits ops i j = true:=by rw [htab.waits,zdd]; exact hw
    obtain ⟨rs,h1,h2⟩:=hc.dep j t hw' (by rw [htab.dstOf]; exact hd)
    rw [hφ j (zq5 htab.ok _ _ _ ho hw')] at h1
    exact ⟨_,rs,h1,fun l u hl hu=>zeU f' (by rw [htab.waits,zdd]; exact hl) (by rw [htab.dstOf]; exact hu),h2⟩
theorem zo5 (htab:DrawTab ops bs ds) {j t:Nat} (h:ds.getD j none = some t):(ops[j]?).bind (·.dst) = some t:=by
  have:=htab.dstOf j
  simp only [SK.dstOf] at this
  rw [this,h]
theorem zfP {i:Nat} (hp:(pd.all fun p=>!(Nat.beq p.1 i)) = true):∀ p ∈ pd,p.1 ≠ i:=fun p hm e=>by
  have:=List.all_eq_true.1 hp p hm
  rw [e,Nat.beq_refl] at this
  cases this
def zrf (tk:zcR) (i:Nat):Bool:=tk.all fun p=>!(Nat.beq p.2 i)
theorem zc6 {i:Nat} (h:zrf tk i = true):∀ p ∈ tk,p.2 ≠ i:=fun p hm e=>by
  have:=List.all_eq_true.1 h p hm
  rw [e,Nat.beq_refl] at this
  cases this
theorem RunD.op {d:Option Tmp} {op:Op} {ty:TypeId} {pos:String} {aft:Array Edge} (wd:zqJ) (htab:DrawTab ops bs ds) (i':Nat)
    (hv:∀ f' L' w',Know1 tk bs ds f w0 M L D i ws f' L' w' → Op1 P op ty (ev b.n f') w' (fun v w''=>∃ rs,wd v rs ∧ St w0 M (rs ++ (L' ++ L)) D w''))
    (h:RunD tk pd P b ops bs ds k E f w0 M L D w i' l (zmd ws i (cw wd))) (hi:i + 1 = i':=by rfl) (hd:zcr op = false:=by rfl) (hp:(pd.all fun p=>!(Nat.beq p.1 i)) = true:=by rfl) (hk:zrf tk i = true:=by rfl):RunD tk pd P b ops bs ds k E f w0 M L D w i (⟨d,op,ty,pos,aft,none⟩ :: l) ws:=by
  subst hi
  refine RunD.cons (cw wd) (fun ho φ hφ hi2 o ho' f' L' L'' w' hc=>?_) h
  rw [ho] at ho'
  obtain rfl:=Option.some.inj ho'
  refine .inl ⟨rfl,hd,?_⟩
  have:=hv f' L' w' (zdq htab hφ ho hc)
  rw [hi2,hc.turn.same (zfP hp) (zc6 hk)]
  exact this
theorem zjy {d:Option Tmp} {op:Op} {ty:TypeId} {pos:String} {aft:Array Edge} (wd:zgc) (htab:DrawTab ops bs ds) (i':Nat)
    (hv:∀ f' L' w',Know1 tk bs ds f w0 M L D i ws f' L' w' → Op1 P op ty (ev b.n f') w' (fun v w''=>∃ rs,(∀ g,(∀ l u,zkF (bs.getD i 0) l = true → ds.getD l none = some u → g u = f' u) → wd g v rs) ∧ St w0 M (rs ++ (L' ++ L)) D w''))
    (h:RunD tk pd P b ops bs ds k E f w0 M L D w i' l (zmd ws i wd)) (hi:i + 1 = i':=by rfl) (hd:zcr op = false:=by rfl) (hp:(pd.all fun p=>!(Nat.beq p.1 i)) = true:=by rfl) (hk:zrf tk i = true:=by rfl):RunD tk pd P b ops bs ds k E f w0 M L D w i (⟨d,op,ty,pos,aft,none⟩ :: l) ws:=by
  subst hi
  refine RunD.cons wd (fun ho φ hφ hi2 o ho' f' L' L'' w' hc=>?_) h
  rw [ho] at ho'
  obtain rfl:=Option.some.inj ho'
  refine .inl ⟨rfl,hd,?_⟩
  have:=hv f' L' w' (zdq htab hφ ho hc)
  rw [hi2,hc.turn.same (zfP hp) (zc6 hk)]
  exact this.mono fun v w'' ⟨rs,h1,h2⟩=>⟨rs,h1 _ fun l u hl hu=>zeU f' (by rw [htab.waits,zdd]; exact hl) (by rw [htab.dstOf]; exact hu),h2⟩
theorem zck {d:Option Tmp} {op:Op} {ty:TypeId} {pos:String} {aft:Array Edge} {r r':Res} (htab:DrawTab ops bs ds) (i':Nat) (hm:(i,r,r') ∈ pd)
    (hv:∀ f' L' L'' w',Know1 tk bs ds f w0 M L D i ws f' L' w' → Sel r r' (L' ++ L) (L'' ++ L) → Op1 P op ty (ev b.n f') w' (fun v w''=>v = undef ∧ St w0 M (L'' ++ L) D w''))
    (h:RunD tk pd P b ops bs ds k E f w0 M L D w i' l (zmd ws i (cw (SK.det undef)))) (hi:i + 1 = i':=by rfl) (hd:zcr op = false:=by rfl) (hk:zrf tk i = true:=by rfl):RunD tk pd P b ops bs ds k E f w0 M L D w i (⟨d,op,ty,pos,aft,none⟩ :: l) ws:=by
  subst hi
  refine RunD.cons (cw (SK.det undef)) (fun ho φ hφ hi2 o ho' f' L' L'' w' hc=>?_) h
  rw [ho] at ho'
  obtain rfl:=Option.some.inj ho'
  refine .inl ⟨rfl,hd,?_⟩
  have:=hv f' L' L'' w' (zdq htab hφ ho hc) ((hc.turn.own r r' hm (zc6 hk)).right L)
  rw [hi2]
  exact this.mono fun v w hw=>⟨[],⟨hw.1,rfl⟩,hw.2⟩
theorem RunD.take {d:Option Tmp} {op:Op} {ty:TypeId} {pos:String} {aft:Array Edge} {j t:Nat} {c:Bool} (wd:zqJ) (htab:DrawTab ops bs ds) (i':Nat)
    (hj:ds.getD j none = some t) (hg:∀ f' L' w',Know1 tk bs ds f w0 M L D i ws f' L' w' → ev b.n f' (.tmp t) = .bool c)
    (hv:∀ f' L' w',Know1 tk bs ds f w0 M L D i ws f' L' w' → Op1 P op ty (ev b.n f') w' (fun v w''=>∃ rs,wd v rs ∧ St w0 M (rs ++ (L' ++ L)) D w''))
    (h:RunD tk pd P b ops bs ds k E f w0 M L D w i' l (zmd ws i (cw wd))) (hi:i + 1 = i':=by rfl) (hd:zcr op = false:=by rfl) (hp:(pd.all fun p=>!(Nat.beq p.1 i)) = true:=by rfl) (hk:zrf tk i = true:=by rfl):RunD tk pd P b ops bs ds k E f w0 M L D w i (⟨d,op,ty,pos,aft,some (j,c)⟩ :: l) ws:=by
  subst hi
  refine RunD.cons (cw wd) (fun ho φ hφ hi2 o ho' f' L' L'' w' hc=>?_) h
  rw [ho] at ho'
  obtain rfl:=Option.some.inj ho'
  have hl:=zdq htab hφ ho hc
  refine .inl ⟨?_,hd,?_⟩
  · simp [Region.wanted,zeJ (zo5 htab hj) (hg f' L' w' hl)]
  · rw [hi2,hc.turn.same (zfP hp) (zc6 hk)]; exact hv f' L' w' hl
theorem zb8 {d:Option Tmp} {op:Op} {ty:TypeId} {pos:String} {aft:Array Edge} {j t:Nat} {c c':Bool} (htab:DrawTab ops bs ds) (i':Nat)
    (hj:ds.getD j none = some t) (hne:c' = !c) (hg:∀ f' L' w',Know1 tk bs ds f w0 M L D i ws f' L' w' → ev b.n f' (.tmp t) = .bool c')
    (h:RunD tk pd P b ops bs ds k E f w0 M L D w i' l (zmd ws i (cw (SK.det undef)))) (hi:i + 1 = i':=by rfl) (hp:(pd.all fun p=>!(Nat.beq p.1 i)) = true:=by rfl) (hk:zrf tk i = true:=by rfl):RunD tk pd P b ops bs ds k E f w0 M L D w i (⟨d,op,ty,pos,aft,some (j,c)⟩ :: l) ws:=by
  subst hi
  refine RunD.cons (cw (SK.det undef)) (fun ho φ hφ hi2 o ho' f' L' L'' w' hc=>?_) h
  rw [ho] at ho'
  obtain rfl:=Option.some.inj ho'
  have hl:=zdq htab hφ ho hc
  refine .inr ⟨?_,?_,hc.turn.same (zfP hp) (zc6 hk)⟩
  · subst hne
    have:=zeJ (ops:=ops) (zo5 htab hj) (hg f' L' w' hl)
    simp only [Region.wanted,this]
    cases c <;> rfl
  · rw [hi2]; exact ⟨rfl,rfl⟩
def zpm (pd:zjB) (m:Nat):Bool:=(pd.map (·.1)).Nodup && pd.all fun p=>Nat.blt p.1 m
def ztg (tk:zcR) (pd:zjB) (bs:List Nat) (m:Nat):Bool:=tk.all fun p=>zkF (bs.getD p.2 0) p.1 && Nat.blt p.1 m && Nat.blt p.2 m && (tk.all fun q=>(!(Nat.beq p.1 q.1) || Nat.beq p.2 q.2) && (!(Nat.beq p.2 q.2) || Nat.beq p.1 q.1)) && pd.all fun q=>!(Nat.beq q.1 p.2)
theorem znm {m:Nat} (htab:DrawTab ops bs ds) (h:ztg tk pd bs m = true):TkOk tk pd ops m:=by
  simp only [ztg,List.all_eq_true,Bool.and_eq_true,Bool.or_eq_true,Bool.not_eq_true'] at h
  have hb:∀ {a c:Nat},Nat.beq a c = true → a = c:=fun h=>Nat.eq_of_beq_eq_true h
  refine ⟨fun p hp=>by rw [htab.waits,zdd]; exact (h p hp).1.1.1.1,fun p hp q hq e=>?_,fun p hp q hq e=>?_,fun p hp q hq e=>?_,fun p hp=>⟨by simpa using (h p hp).1.1.1.2,by simpa using (h p hp).1.1.2⟩⟩
  · have h1 := ((h p hp).1.2 q hq).1
    rw [e,Nat.beq_refl] at h1
    rcases h1 with h1 | h1
    · cases h1
    · exact Prod.ext e (hb h1)
  · have h1 := ((h p hp).1.2 q hq).2
    rw [e,Nat.beq_refl] at h1
    rcases h1 with h1 | h1
    · cases h1
    · exact Prod.ext (hb h1) e
  · have h1 := (h p hp).2 q hq
    rw [e,Nat.beq_refl] at h1
    cases h1
theorem zkJ (hm:P.follows .mixedOrders = true) (htab:DrawTab ops bs ds) (V:St w0 M (pd.map (·.2.1) ++ L) D w)
    (ht:((List.range ds.length).all fun j=>Nat.blt j i || (List.range j).all fun j2=>zkF (bs.getD j 0) j2) = true)
    (h:∀ f' w' R,(∀ t,((ds.take i).all fun d=>d != some t) = true → f' t = f t) → (∀ j t,Nat.blt j i = true → ds.getD j none = some t → ws j (mask ops j f') (f' t) (R j)) → (∀ j,Nat.blt j i = true → ∃ v,ws j (mask ops j f') v (R j)) →
      St w0 M (((List.range i).flatMap (zk6 tk R) ++ pd.map (·.2.2)) ++ L) D w' → RunL P b ops l k f' w' E) (hn:Nat.ble i ds.length = true:=by rfl) (hpo:zpm pd i = true:=by rfl) (hto:ztg tk pd bs i = true:=by rfl) :
    RunD tk pd P b ops bs ds k E f w0 M L D w i l ws:=by
  intro hl hall id
  have hlen:ds.length = ops.size:=by rw [← htab.dst]; simp
  have hle:i ≤ ds.length:=Nat.le_of_ble_eq_true hn
  obtain ⟨h1,h2,h3⟩:=zhT htab.ok
  have nope:∀ j:Nat,(Array.replicate ops.size false)[j]? ≠ some true:=fun j hj=>by
    rw [Array.getElem?_replicate] at hj
    split at hj <;> simp at hj
  have htail:∀ j,i ≤ j → j < ops.size → ∀ j2,j2 < j → waits ops j j2 = true:=fun j hi hio j2 hj=>by
    rw [List.all_eq_true] at ht
    have:=ht j (List.mem_range.2 O)
    rw [Bool.or_eq_true] at this
    rcases this with hh | hh
    · have : j < i := by simpa using hh
      omega
    · rw [List.all_eq_true] at hh
      rw [htab.waits,zdd]
      exact hh j2 (List.mem_range.2 hj)
  have hpo':=hpo
  simp only [zpm,Bool.and_eq_true,decide_eq_true_eq] at hpo'
  have hpo1:=hpo'.1
  have hpo2:∀ p ∈ pd,p.1 < i:=fun p hm=>by simpa using List.all_eq_true.1 hpo'.2 p hm
  have key:=zns (P:=P) (b:=b) (k:=k) (E:=E) (φ:=ws) (f:=f) (w0:=w0) (M:=M) (L:=L) (D:=D) (pd:=pd) h1 h2 h3 (m:=i) O htail hpo1 hpo2 (znm htab hto)
    (fun j hj=>hall j hj ws (fun _ _=>rfl))
    (fun f' w' R ha hb hres hc=>h f' w' R (fun t ht=>ha t fun j hjm hj=>by
        rw [htab.dstOf] at hj
        rw [List.all_eq_true] at ht
        have hjl:j < ds.length:=by omega
        have hmem:ds[j] ∈ ds.take i:=by
          rw [List.mem_take_iff_getElem]
          exact ⟨j,by omega,rfl⟩
        have:=ht ds[j] hmem
        simp [hjl] at hj
        simp [hj] at this)
      (fun j t hjm hj=>hb j t (by simpa using hjm) (by rw [htab.dstOf]; exact hj)) (fun j hj=>hres j (by simpa using hj)) hc (List.range' i (ops.size - i)) (by
        subst hl
        apply List.ext_getElem
        · simp
        · intro j h1 h2
          simp at h1
          simp))
    ops.size (w.tape w.drawn (.order b.fn id)) (Array.replicate ops.size false) [] (fun _=>[]) f { w with drawn:=w.drawn + 1 } (by simp) (by simp)
    ⟨by
      have e:zdp pd (Array.replicate ops.size false) = pd.map (·.2.1):=by
        apply List.map_congr_left
        intro p _
        rw [if_neg (nope _)]
      rw [e]
      exact V.keep (Kept.drawn _ _ _),by simp,fun j=>⟨fun hj=>absurd hj (List.not_mem_nil),fun hj=>(nope j hj).elim⟩,.nil,fun i j hi=>(nope i hi).elim,fun t _=>rfl,fun j t hj=>(nope j hj).elim,fun j hj=>(nope j hj).elim⟩
  refine zbs (fun cs=>step_lone_go ?_) key
  simp [stepG,stepG.exec,Base.fr,choose,Sem.run,Question.forced,Question.cut,Region.schedule,hm,Region.linearise]
theorem RunD.fin (hm:P.follows .mixedOrders = true) (htab:DrawTab ops bs ds) (V:St w0 M (pd.map (·.2.1) ++ L) D w)
    (ht:((List.range ds.length).all fun j=>Nat.blt j i || (List.range j).all fun j2=>zkF (bs.getD j 0) j2) = true)
    (h:∀ f' w' R,(∀ t,((ds.take i).all fun d=>d != some t) = true → f' t = f t) → (∀ j t,Nat.blt j i = true → ds.getD j none = some t → ws j (mask ops j f') (f' t) (R j)) → (∀ j,Nat.blt j i = true → ∃ v,ws j (mask ops j f') v (R j)) →
      St w0 M (((List.range i).flatMap R ++ pd.map (·.2.2)) ++ L) D w' → RunL P b ops l k f' w' E) (hn:Nat.ble i ds.length = true:=by rfl) (hpo:zpm pd i = true:=by rfl) :
    RunD [] pd P b ops bs ds k E f w0 M L D w i l ws :=
  zkJ hm htab V ht (fun f' w' R h1 h2 h3 h4=>h f' w' R h1 h2 h3 h4) hn hpo
theorem zqr {d:Option Tmp} {op:Op} {ty:TypeId} {pos:String} {aft:Array Edge} (wd:zgc) (htab:DrawTab ops bs ds) (i':Nat) (j t:Nat) (hm:(j,i) ∈ tk) (ht:ds.getD j none = some t)
    (hv:∀ f' L' L'' w',Know1 tk bs ds f w0 M L D i ws f' L' w' → (∃ g rs,ws j g (f' t) rs ∧ (∀ l u,zkF (bs.getD j 0) l = true → ds.getD l none = some u → g u = f' u) ∧ L'.Perm (rs ++ L'')) →
      Op1 P op ty (ev b.n f') w' (fun v w''=>∃ rs,(∀ g,(∀ l u,zkF (bs.getD i 0) l = true → ds.getD l none = some u → g u = f' u) → wd g v rs) ∧ St w0 M (rs ++ (L'' ++ L)) D w''))
    (h:RunD tk pd P b ops bs ds k E f w0 M L D w i' l (zmd ws i wd)) (hj:Nat.blt j i = true:=by rfl) (hi:i + 1 = i':=by rfl) (hd:zcr op = false:=by rfl):RunD tk pd P b ops bs ds k E f w0 M L D w i (⟨d,op,ty,pos,aft,none⟩ :: l) ws:=by
  subst hi
  refine RunD.cons wd (fun ho φ hφ hi2 o ho' f' L' L'' w' hc=>?_) h
  rw [ho] at ho'
  obtain rfl:=Option.some.inj ho'
  refine .inl ⟨rfl,hd,?_⟩
  rw [hi2]
  refine (hv f' L' L'' w' (zdq htab hφ ho hc) ?_).mono fun v w'' ⟨rs,h1,h2⟩=>⟨rs,h1 _ fun l u hl hu=>zeU f' (by rw [htab.waits,zdd]; exact hl) (by rw [htab.dstOf]; exact hu),h2⟩
  obtain ⟨rs,h1,h2⟩:=hc.took j t hm (by rw [htab.dstOf]; exact ht)
  rw [hφ j (by simpa using hj)] at h1
  exact ⟨_,rs,h1,fun l u hl hu=>zeU f' (by rw [htab.waits,zdd]; exact hl) (by rw [htab.dstOf]; exact hu),h2⟩
end
end Go.SK
namespace Go.SK
open Go.RowKit
def tyRow (P:Program) (T:TypeId):Option (Nat × Nat × Option (List Value)):=(P.info? T).map fun i=>(i.size,i.bytes,i.zero.map fun z=>z.cells.toList)
theorem zbw {P:Program} {T:TypeId} {d:TypeDesc} {sz bytes:Nat} {zs:List Value} (h:tyRow P T = some (sz,bytes,some zs)) (hu:P.underlying T = some d):TyF P T d sz bytes zs:=by
  refine ⟨?_,hu⟩
  simp only [tyRow] at h
  cases hi:P.info? T with
  | none=>simp [hi] at h
  | some i =>
    simp only [hi,Option.map_some,Option.some.injEq,Prod.mk.injEq] at h
    cases hz:i.zero with
    | none=>simp [hz] at h
    | some z=>exact ⟨i,z,rfl,h.1,h.2.1,hz,by have:=h.2.2; simp [hz] at this; simp [← this]⟩
def zbk (P:Program) (T:TypeId):Array Field:=match P.underlying T with
  | some (.struct fs)=>fs
  | _=>#[]
def zpA (P:Program) (T:TypeId):Array (String × TypeId):=match P.underlying T with
  | some (.interface ms)=>ms
  | _=>#[]
def zsK (P:Program) (S i:Nat):Option (Nat × Option Nat):=match P.underlying S with
  | some (.struct fs)=>(fs[i]?).map fun fd=>(fd.offset,(P.info? fd.type).map (·.size))
  | _=>none
theorem FldF.of {P:Program} {S i o n:Nat} (h:zsK P S i = some (o,some (n + 1))):FldF P S i o:=by
  simp only [zsK] at h
  split at h
  · rename_i fs hu
    cases hf:fs[i]? with
    | none=>simp [hf] at h
    | some fd =>
      simp only [hf,Option.map_some,Option.some.injEq,Prod.mk.injEq] at h
      cases hi:P.info? fd.type with
      | none=>simp [hi] at h
      | some inf=>exact ⟨fs,fd,inf,hu,hf,h.1,hi,by have:=h.2; simp [hi] at this; omega⟩
  · simp at h
theorem St.keepc {w0 w w':World} {M:Nat → Prop} {L D:List Res} (h:St w0 M L D w) (hc:St w NoM [] [] w'):St w0 M L D w':=h.keep hc.kept
theorem St.pure {w0 w:World} {L D:List Res} (h:St w0 NoM L D w):St w0 NoM [] [] w:=h.nil
theorem zaa {P:Program} {b:Base} {k:List Item} {f:Nat → Value} {w:World} {E:Frame → World → Prop} {c:Operand} {x y:Code} {p:Prop} [Decidable p] (hc:ev b.n f c = .bool (decide p)) (h1:p → Run P b (.code x :: k) f w E)
    (h2:¬ p → Run P b (.code y :: k) f w E):Run P b (.code (.cond c x y) :: k) f w E :=
  zaR hc (fun h=>h1 (of_decide_eq_true h)) (fun h=>h2 (of_decide_eq_false h))
def Keep (F f:Nat → Value):List Nat → Prop
  | []=>True
  | t :: l=>f t = F t ∧ Keep F f l
theorem zq6 {f:Nat → Value} {t:Nat} {v:Value} (h:f t = v):upd f t v = f:=by
  funext u
  by_cases hu:u = t
  · subst hu; rw [zgY,h]
  · rw [ziq _ _ hu]
def sts:List (Nat × Value) → (Nat → Value) → (Nat → Value)
  | [],f=>f
  | (t,v) :: l,f=>upd (sts l f) t v
def Slots (f:Nat → Value):List (Nat × Value) → Prop
  | []=>True
  | (t,v) :: l=>f t = v ∧ Slots f l
theorem zcJ {f:Nat → Value}:∀ {l:List (Nat × Value)},Slots f l → sts l f = f
  | [],_=>rfl
  | (t, v) :: l, h => by
    have ih:=zcJ h.2
    simp only [sts]
    rw [ih]
    exact zq6 h.1
theorem zt3 {α:Type} {P:Program} {b:Base} {k:List Item} {E:Frame → World → Prop} (st:α → List (Nat × Value)) (keep:List Nat) (I:α → World → Prop) (μ:α → Nat) {F:Nat → Value} {w:World} (a0:α)
    (h0:I a0 w) (hf:Slots F (st a0)) (hk:Keep F F keep)
    (h:∀ (a:α) (f:Nat → Value) (w:World),Keep F f keep → I a w → (∀ (a':α) (f':Nat → Value) (w':World),μ a' < μ a → I a' w' → Keep F f' keep → Slots f' (st a') → Run P b k f' w' E) → Run P b k (sts (st a) f) w E):Run P b k F w E:=by
  have key:∀ (n:Nat) (a:α) (f:Nat → Value) (w:World),μ a = n → Keep F f keep → I a w → Run P b k (sts (st a) f) w E:=by
    intro n
    induction n using Nat.strongRecOn with
    | _ n ih =>
      intro a f w hn hkf hI
      exact h a f w hkf hI fun a' f' w' hlt hI' hkf' hs=>by
        have:=ih _ (hn ▸ hlt) a' f' w' rfl hkf' hI'
        rwa [zcJ hs] at this
  have:=key _ a0 F w rfl hk h0
  rwa [zcJ hf] at this
end Go.SK
namespace Go.SK
section
variable {P:Program} {b:Base} {k:List Item} {f:Nat → Value} {w:World} {E:Frame → World → Prop} {ops:Array Oper} {l:List Oper}
theorem zcF {d:Nat} {t:Bool} (hv:ev b.n f (.tmp d) = .bool t) (h1:t = true → RunL P b ops l k f w E) (h2:t = false → RunL P b ops l k f w E):RunL P b ops l k f w E:=by
  cases t with
  | true=>exact h1 rfl
  | false=>exact h2 rfl
theorem zaz {d:Nat} {p:Prop} [Decidable p] (hv:ev b.n f (.tmp d) = .bool (decide p)) (h1:p → RunL P b ops l k f w E) (h2:¬ p → RunL P b ops l k f w E):RunL P b ops l k f w E:=by
  by_cases h:p
  · exact h1 h
  · exact h2 h
theorem zaH {sl:List (Nat × Value)} (h:Slots f sl) (hr:RunL P b ops l k (sts sl f) w E):RunL P b ops l k f w E:=by
  rw [zcJ h] at hr; exact hr
theorem zbj {sl:List (Nat × Value)} (h:Slots f sl) (hr:Run P b k (sts sl f) w E):Run P b k f w E:=by
  rw [zcJ h] at hr; exact hr
theorem zhW {tk:zcR} {pd:zjB} {bs:List Nat} {ds:List (Option Nat)} {w0:World} {M:Nat → Prop} {L D:List Res} {i:Nat} {ws:Nat → zgc} {j:Nat} {p:Prop} [Decidable p] (hj:ws j = cw (det (.bool (decide p)))) (h1:p → RunD tk pd P b ops bs ds k E f w0 M L D w i l ws)
    (h2:¬ p → RunD tk pd P b ops bs ds k E f w0 M L D w i l ws):RunD tk pd P b ops bs ds k E f w0 M L D w i l ws:=by
  by_cases h:p
  · exact h1 h
  · exact h2 h
end
section
variable {P:Program} {ty:TypeId} {ρ:Operand → Value} {w:World} {C:Value → World → Prop}
theorem zf9 {x:Operand} {p:Prop} [Decidable p] {T:TypeId} (hx:ρ x = .bool (decide p)) (h:C (.bool (decide (¬ p))) w):Op1 P (.unOp .not T x) ty ρ w C :=
  zaT hx (by rw [show (!decide p) = decide (¬ p) by by_cases h:p <;> simp [h]]; exact h)
end
open Go.RowKit Go.ChangeShapes Go.WideShapes Go.ChangeAt
theorem Ret.law {P:Program} {g:FuncId} {args:Array Value} {w:World} (h:Ret P g args w (fun v w'=>v = .bool true ∧ St w NoM [] [] w')) :
    Calls P g args w fun e w'=>e = .returned (.bool true) ∧ Below w.heap.size w w' :=
  Calls.mono h fun e w' ⟨v,he,hv,V⟩=>⟨by rw [he,hv],V.kept.below⟩
theorem znj {H:Type} {enc:TypeId × Value → H} {P:Program} {w:World} {base:Nat} {sp:Nat → Bool} {held:Bool}:∀ (ts:List TypeId) (vs:List Value) (ds:List (DataW H)) (ps:List MemPlace),
    DataW.TrodAll enc P w base sp held ts vs ds ps → ∀ x ∈ ps,x.block < w.heap.size
  | [],[],[],ps,h=>by simp [DataW.TrodAll] at h; subst h; simp
  | t :: ts, v :: vs, d :: ds, ps, h => by
    obtain ⟨p,q,⟨m,hm⟩,h2,rfl⟩:=h
    intro x hx
    rcases List.mem_append.1 hx with hx | hx
    · exact DataW.trod_lt m _ _ _ hm x hx
    · exact znj ts vs ds q h2 x hx
  | [],[],_ :: _,_,h=>by simp [DataW.TrodAll] at h
  | [],_ :: _,_,_,h=>by simp [DataW.TrodAll] at h
  | _ :: _,[],_,_,h=>by simp [DataW.TrodAll] at h
  | _ :: _,_ :: _,[],_,h=>by simp [DataW.TrodAll] at h
theorem ziV {H:Type} {enc:TypeId × Value → H} {P:Program} (hl:laidOutB P = true) {W W':World} (hb:Below W.heap.size W W'):∀ (ts:List TypeId) (vs:List Value) (ds:List (DataW H)) (ps:List MemPlace),
    ts.all (fun t=>P.readableRec t && Nat.blt t P.types.size) = true → DataW.TrodAll enc P W 0 (fun _=>true) true ts vs ds ps → (∀ x ∈ ps,x.block < W.heap.size) →
    DataW.TrodAll enc P W' 0 (fun b=>decide (b < W.heap.size)) true ts vs ds ps
  | [],[],[],ps,_,h,_=>h
  | t :: ts, v :: vs, d :: ds, ps, hr, h, hlt => by
    obtain ⟨p,q,h1,h2,rfl⟩:=h
    simp only [List.all_cons,Bool.and_eq_true] at hr
    exact ⟨p,q,Below.trod hl hr.1.1 (by simpa using hr.1.2) h1 hb (fun x hx=>hlt x (List.mem_append_left _ hx)),
      ziV hl hb ts vs ds q hr.2 h2 (fun x hx=>hlt x (List.mem_append_right _ hx)),rfl⟩
  | [],[],_ :: _,_,_,h,_=>by simp [DataW.TrodAll] at h
  | [],_ :: _,_,_,_,h,_=>by simp [DataW.TrodAll] at h
  | _ :: _,[],_,_,_,h,_=>by simp [DataW.TrodAll] at h
  | _ :: _,_ :: _,[],_,_,h,_=>by simp [DataW.TrodAll] at h
inductive All2 {A B:Type} (R:A → B → Prop):List A → List B → Prop
  | nil:All2 R [] []
  | cons {a:A} {b:B} {xs:List A} {bs:List B}:R a b → All2 R xs bs → All2 R (a :: xs) (b :: bs)
theorem All2.of_get {A B:Type} {R:A → B → Prop}:∀ (xs:List A) (bs:List B),xs.length = bs.length → (∀ (i:Nat) (a:A) (b:B),xs[i]? = some a → bs[i]? = some b → R a b) → All2 R xs bs
  | [],[],_,_=>.nil
  | a :: xs,b :: bs,hl,h=>.cons (h 0 a b rfl rfl) (All2.of_get xs bs (by simpa using hl) (fun i x y hx hy=>h (i + 1) x y (by simpa using hx) (by simpa using hy)))
  | [],_ :: _,hl,_=>by simp at hl
  | _ :: _,[],hl,_=>by simp at hl
theorem zo9 {P:Program} {w:World} {r:Reach} {base:Nat} {t:TypeId} {cs:Array Value} {ts:List TypeId} (h:Row.okWide P w r base t cs) (ht:P.cellTypes P.depth t = some ts) (hs:cs.size = ts.length) :
    All2 (fun u v=>Cell.okWide P w r base u v) ts cs.toList:=by
  obtain ⟨ts',ht',_,hc⟩:=h
  rw [ht] at ht'
  obtain rfl:=Option.some.inj ht'
  refine All2.of_get _ _ (by simpa using hs.symm) fun i a b ha hb=>?_
  have hi:i < ts.length:=(List.getElem?_eq_some_iff.1 ha).1
  obtain ⟨u,hu,hok⟩:=hc i b (by simpa using hb)
  rw [Nat.mod_eq_of_lt hi,ha] at hu
  obtain rfl:=Option.some.inj hu
  exact hok
theorem agg_cells {P:Program} {w:World} {r:Reach} {base:Nat} {t:TypeId} {v:Value} {ts:List TypeId} {d:TypeDesc} (h:Value.okWide P w r base t v) (hu:P.underlying t = some d) (hd:zoz d = true)
    (ht:P.cellTypes P.depth t = some ts) (hs:P.cellsOf t = ts.length):∃ cs:List Value,v = .agg cs.toArray ∧ All2 (fun u v=>Cell.okWide P w r base u v) ts cs:=by
  simp only [Value.okWide,hu] at h
  have:∃ cs,v = .agg cs ∧ cs.size = P.cellsOf t ∧ Row.okWide P w r base t cs:=by
    cases d <;> simp [zoz] at hd <;> exact h
  obtain ⟨cs,rfl,hsz,hrow⟩:=this
  exact ⟨cs.toList,by simp,zo9 hrow ht (hsz.trans hs)⟩
end Go.SK
namespace Go.SK
open Go.RowKit
def Res.star (L:List Res):Res where
  foot:=fun b=>∃ r ∈ L,r.foot b
  holds:=fun w=>(∀ r ∈ L,r.holds w) ∧ L.Pairwise Apart
  stable:=fun w w' h hh=>⟨fun r hr=>r.stable w w' (fun b hb=>h b ⟨r,hr,hb⟩) (hh.1 r hr),hh.2⟩
  inb:=fun w hh b ⟨r,hr,hb⟩=>r.inb w (hh.1 r hr) b hb
section
variable {w0 w w' ws:World} {M:Nat → Prop} {L L' L1 L2 D:List Res} {r:Res}
theorem St.pack (h:St w0 M (L1 ++ L2) D w):St w0 M (Res.star L1 :: L2) D w where
  kept:=h.kept
  hL:=fun s hs=>by cases hs with
    | head=>exact ⟨fun r hr=>h.hL r (List.mem_append_left _ hr),(List.pairwise_append.1 h.sep).1⟩
    | tail _ hs=>exact h.hL s (List.mem_append_right _ hs)
  hD:=h.hD
  new:=fun s hs b hb=>by cases hs with
    | head=>obtain ⟨r,hr,hrb⟩:=hb; exact h.new r (List.mem_append_left _ hr) b hrb
    | tail _ hs=>exact h.new s (List.mem_append_right _ hs) b hb
  sep:=List.pairwise_cons.2 ⟨fun s hs b ⟨r,hr,hrb⟩ hsb=>(List.pairwise_append.1 h.sep).2.2 r hr s hs b hrb hsb,(List.pairwise_append.1 h.sep).2.1⟩
  sepD:=fun s hs d hd b hb hdb=>by cases hs with
    | head=>obtain ⟨r,hr,hrb⟩:=hb; exact h.sepD r (List.mem_append_left _ hr) d hd b hrb hdb
    | tail _ hs=>exact h.sepD s (List.mem_append_right _ hs) d hd b hb hdb
theorem St.unpack (h:St w0 M (Res.star L1 :: L2) D w):St w0 M (L1 ++ L2) D w where
  kept:=h.kept
  hL:=fun s hs=>by
    rcases List.mem_append.1 hs with hs | hs
    · exact (h.hL _ (.head _)).1 s hs
    · exact h.hL s (.tail _ hs)
  hD:=h.hD
  new:=fun s hs b hb=>by
    rcases List.mem_append.1 hs with hs | hs
    · exact h.new _ (.head _) b ⟨s,hs,hb⟩
    · exact h.new s (.tail _ hs) b hb
  sep:=List.pairwise_append.2 ⟨(h.hL _ (.head _)).2,(List.pairwise_cons.1 h.sep).2,fun s hs t ht b hsb htb=>(List.pairwise_cons.1 h.sep).1 t ht b ⟨s,hs,hsb⟩ htb⟩
  sepD:=fun s hs d hd b hb hdb=>by
    rcases List.mem_append.1 hs with hs | hs
    · exact h.sepD _ (.head _) d hd b ⟨s,hs,hb⟩ hdb
    · exact h.sepD s (.tail _ hs) d hd b hb hdb
theorem St.enter1 (hr:r.holds w) (hD:∀ d ∈ D,d.holds w) (ha:∀ d ∈ D,Apart r d):St w r.foot [r] D w where
  kept:=Kept.refl _ _
  hL:=fun s hs=>by cases hs with
    | head=>exact hr
    | tail _ hs=>cases hs
  hD:=hD
  new:=fun s hs b hb=>by cases hs with
    | head=>exact .inr hb
    | tail _ hs=>cases hs
  sep:=List.pairwise_cons.2 ⟨fun _ h=>absurd h List.not_mem_nil,List.Pairwise.nil⟩
  sepD:=fun s hs d hd=>by cases hs with
    | head=>exact ha d hd
    | tail _ hs=>cases hs
theorem St.one (h:St w0 M (r :: L) D w):St w0 M [r] [] w where
  kept:=h.kept
  hL:=fun s hs=>by cases hs with
    | head=>exact h.hL r (.head _)
    | tail _ hs=>cases hs
  hD:=by simp
  new:=fun s hs=>by cases hs with
    | head=>exact h.new r (.head _)
    | tail _ hs=>cases hs
  sep:=List.pairwise_cons.2 ⟨fun _ h=>absurd h List.not_mem_nil,List.Pairwise.nil⟩
  sepD:=by simp
theorem St.call1 (h:St w0 M (r :: L) D w) (hc:St w r.foot L1 [] w'):St w0 M (L1 ++ L) D w' :=
  St.call (L1:=[r]) h hc (fun b hb=>⟨r,.head _,hb⟩)
end
theorem zeX {P:Program} {w:World} {l:Nat} {o:Obj} (h:w.heap[l]? = some o) (hc:∀ c t f,o ≠ .cells c t f):(getObj l).run P w = .ok o w:=by
  simp only [getObj,Sem.run,h]
theorem zc1 {P:Program} {w:World} {l:Nat} {o o':Obj} (h:w.heap[l]? = some o) (hc:∀ c t f,o ≠ .cells c t f):(setObj l o').run P w = .ok () { w with heap:=w.heap.setIfInBounds l o' }:=by
  simp only [setObj,Sem.run,h]
theorem zc2 {w:World} {l:Nat} {o o':Obj} (h:w.heap[l]? = some o):(w.heap.setIfInBounds l o')[l]? = some o':=by
  have:=(Array.getElem?_eq_some_iff.1 h).1
  simp [this]
theorem zcC {P:Program} {w:World} {l:Nat} {lp:Loop} (h:w.heap[l]? = some (.loop lp)):(Instr.getLoop l).run P w = .ok lp w:=by
  simp only [Instr.getLoop,Sem.run_bind,zeX h (by simp),Result.andThen]
  rfl
def zb9 (P:Program) (C:Value → World → Prop):Frame → World → Prop :=
  fun fr w'=>∃ v w'',C v w'' ∧ ∀ caller cs,step P (lone fr (caller :: cs) w') = .next (lone (caller.finish v) cs w'')
def zfM (fn:FuncId) (n:Nat) (l:Nat):Base:=⟨fn,n,[],.normal,some l⟩
def zjS (f:Nat → Value):List (Tmp × Value) → (Nat → Value)
  | []=>f
  | (t,v) :: l=>zjS (upd f t v) l
theorem zhq (n:Nat):∀ (ps:List (Tmp × Value)) (f:Nat → Value),ps.foldl (fun (tmps:Array Value) (p:Tmp × Value)=>tmps.setIfInBounds p.1 p.2) (tm n f) = tm n (zjS f ps)
  | [],f=>rfl
  | (t, v) :: ps, f => by
    simp only [List.foldl_cons,zjS]
    rw [← zsB]
    exact zhq n ps _
theorem zh3 {P:Program} {l:Nat} {lp:Loop} {args:List Value} {ps:List Tmp} {w:World} {C:Value → World → Prop} {n:Nat} {f:Nat → Value}
    (h:w.heap[l]? = some (.loop lp)) (hp:lp.params = ps.toArray) (hn:args.length = ps.length) (ht:lp.tmps = tm n f)
    (hr:Run P (zfM lp.fn n l) [.code lp.assign,.beginRound,.code lp.body] (zjS f (ps.zip args)) w (zb9 P C)) :
    CallV P (.func (.yield l) #[] #[]) args w C:=by
  intro fr cs hok hstep
  obtain ⟨fr2,w2,hs,v,w3,hC,hend⟩:=hr (fr :: cs)
  refine ⟨v,w3,hC,.head (m₁:=lone (Frame.round l lp.fn (tm n (zjS f (ps.zip args))) lp.assign lp.body .normal) (fr :: cs) w) (step_lone_go ?_) ?_⟩
  · rw [hstep]
    have hrun:(do let d ← Deferred.ofValue (.func (.yield l) #[] #[]) args.toArray; invoke d.target d.args:Sem Next).run P w =
        .ok (.round l lp.fn (tm n (zjS f (ps.zip args))) lp.assign lp.body) w:=by
      simp only [Deferred.ofValue,Sem.run_bind,invoke,Instr.yield,zcC h,hp]
      simp [Result.andThen,hn,Sem.run_bind,zcC h,hp,ht]
      rw [← zhq]
    simp only [stepG.apply,Sem.runT_eq,hrun,GStep.bare_after,if_true]
    rfl
  · exact hs.trans (.one (hend fr cs))
section
variable {P:Program} {fn n l:Nat} {k:List Item} {f:Nat → Value} {w0 w:World} {M:Nat → Prop} {L L' D:List Res} {C:Value → World → Prop} {lp:Loop}
theorem zh9 (V:St w0 M L D w) (hs:Sel (Res.obj l (.loop lp)) (Res.obj l (.loop { lp with state:=.busy })) L L') (hready:lp.state = .ready)
    (h:∀ w',St w0 M L' D w' → Run P (zfM fn n l) k f w' (zb9 P C)):Run P (zfM fn n l) (.beginRound :: k) f w (zb9 P C):=by
  have hh:=V.hL _ hs.mem
  simp only [Res.obj] at hh
  have hrun:(Instr.beginRound l).run P w = .ok () { w with heap:=w.heap.setIfInBounds l (.loop { lp with state:=.busy }) }:=by
    simp only [Instr.beginRound,Sem.run_bind,zcC hh,Result.andThen,zc1 hh (by simp),hready]
    rfl
  refine zbs (fun cs=>step_lone_go ?_) (h _ (V.upd hs (Kept.put _ _ _) (by simpa [Res.obj] using zc2 hh) (fun b hb=>.inl hb)))
  simp only [stepG,stepG.exec,Base.fr,zfM,stepG.apply,Option.elim,Sem.runT_eq,Sem.run_bind,hrun,Result.andThen,GStep.bare_after,if_true]
  rfl
theorem zjU (V:St w0 M L D w) (hs:Sel (Res.obj l (.loop lp)) (Res.obj l (.loop { lp with state:=.ready,pending:=none })) L L') (h:∀ w',St w0 M L' D w' → C (.bool true) w') :
    Run P (zfM fn n l) [] f w (zb9 P C):=fun cs=>by
  have hh:=V.hL _ hs.mem
  simp only [Res.obj] at hh
  have hrun:(Instr.endRound l none).run P w = .ok (.bool true) { w with heap:=w.heap.setIfInBounds l (.loop { lp with state:=.ready,pending:=none }) }:=by
    simp only [Instr.endRound,Sem.run_bind,zcC hh,Result.andThen,zc1 hh (by simp)]
    rfl
  refine ⟨_,w,Steps.refl _ _,.bool true,_,h _ (V.upd hs (Kept.put _ _ _) (by simpa [Res.obj] using zc2 hh) (fun b hb=>.inl hb)),fun caller cs=>step_lone_go ?_⟩
  simp only [stepG,stepG.exec,Base.fr,zfM,Sem.runT_eq,hrun,GStep.bare_after,doReturn]
  rfl
theorem zjT (V:St w0 M L D w) (hs:Sel (Res.obj l (.loop lp)) (Res.obj l (.loop { lp with state:=.done,pending:=some .ret })) L L') (h:∀ w',St w0 M L' D w' → C (.bool false) w') :
    Run P (zfM fn n l) (.code .ret :: k) f w (zb9 P C):=fun cs=>by
  have hh:=V.hL _ hs.mem
  simp only [Res.obj] at hh
  have hrun:(Instr.endRound l (some .ret)).run P w = .ok (.bool false) { w with heap:=w.heap.setIfInBounds l (.loop { lp with state:=.done,pending:=some .ret }) }:=by
    simp only [Instr.endRound,Sem.run_bind,zcC hh,Result.andThen,zc1 hh (by simp)]
    rfl
  refine ⟨_,w,Steps.refl _ _,.bool false,_,h _ (V.upd hs (Kept.put _ _ _) (by simpa [Res.obj] using zc2 hh) (fun b hb=>.inl hb)),fun caller cs=>step_lone_go ?_⟩
  simp only [stepG,stepG.exec,Base.fr,zfM,Sem.runT_eq,hrun,GStep.bare_after,doReturn]
  rfl
end
def zm1 (lp:Loop):Loop:={ lp with state:=.busy }
def zf3 (lp:Loop) (c:Code):Loop:={ lp with state:=.done,pending:=some c }
def Res.prop (p:Prop):Res:=⟨fun _=>False,fun _=>p,fun _ _ _ h=>h,fun _ _ _ h=>h.elim⟩
def zcO (r:Nat):Deferred:={ target:=.collected r,args:=#[] }
theorem zfF {P:Program} {fid n g:Nat} {ds:List Deferred} {fo:Operand} {ps:List Tmp} {assign body:Code} {k:List Item} {f:Nat → Value} {w0 w:World} {M:Nat → Prop} {L D:List Res} {E:Frame → World → Prop} {cap:List Value}
    (V:St w0 M L D w) (hf:ev n f fo = .func (.func g) #[] cap.toArray) (hg:zaJ P g)
    (h:∀ w1 l r,St w0 M (Res.obj l (.loop ⟨.ready,none,fid,tm n f,ps.toArray,assign,body,r⟩) :: Res.obj r (.deferred (some [])) :: L) D w1 →
      Ret P g (.func (.yield l) #[] #[] :: cap).toArray w1 fun v w2=>∃ lp L',lp.state ≠ .busy ∧ St w0 M (Res.obj l (.loop lp) :: L') D w2 ∧
        ∀ w3,St w0 M (Res.obj l (.loop { lp with state:=.exhausted }) :: L') D w3 → Run P (zbT fid n (zcO r :: ds)) ((lp.pending.map Item.code).toList ++ k) f w3 E) :
    Run P (zbT fid n ds) (.code (.rangeFunc fo ps.toArray assign body) :: k) f w E:=by
  let o1:Obj:=.deferred (some [])
  let o2:Obj:=.loop ⟨.ready,none,fid,tm n f,ps.toArray,assign,body,w.heap.size⟩
  have hst1:St w0 M (Res.obj w.heap.size o1 :: L) D (w.alloc o1):=V.push (Kept.alloc _ _ _) (zde w o1) (fun b hb=>Nat.le_of_eq hb.symm)
  have hst2:St w0 M (Res.obj (w.alloc o1).heap.size o2 :: Res.obj w.heap.size o1 :: L) D ((w.alloc o1).alloc o2):=hst1.push (Kept.alloc _ _ _) (zde (w.alloc o1) o2) (fun b hb=>Nat.le_of_eq hb.symm)
  have hc:=h _ _ _ hst2
  intro cs
  obtain ⟨e,w2,fr2,⟨v,rfl,lp,L',hbusy,hst3,hrest⟩,hcomes,hfn,hleave⟩:=hc ((zbT fid n (zcO w.heap.size :: ds)).fr (.inRangeFunc (w.alloc o1).heap.size :: k) f :: cs)
  have hl:=hst3.hL _ (.head _)
  simp only [Res.obj] at hl
  have hend:(Instr.endLoop (w.alloc o1).heap.size).run P w2 = .ok lp.pending { w2 with heap:=w2.heap.setIfInBounds (w.alloc o1).heap.size (.loop { lp with state:=.exhausted }) }:=by
    have hb:(lp.state == LoopState.busy) = false:=by
      cases hs:lp.state <;> first | rfl | exact absurd hs hbusy
    simp only [Instr.endLoop,Sem.run_bind,zcC hl,Result.andThen,hb,Bool.false_eq_true,if_false,zc1 hl (by simp)]
    rfl
  have hst4:=hst3.upd (r':=Res.obj (w.alloc o1).heap.size (.loop { lp with state:=.exhausted })) .here (Kept.put w2 _ _) (by simpa [Res.obj] using zc2 hl) (fun b hb=>.inl hb)
  obtain ⟨fr3,w4,hs4,hE⟩:=hrest _ hst4 cs
  refine ⟨fr3,w4,?_,hE⟩
  have hent:step P (lone ((zbT fid n ds).fr (.code (.rangeFunc fo ps.toArray assign body) :: k) f) cs w) =
      .next (lone (Frame.enter P g (.func (.yield (w.alloc o1).heap.size) #[] #[] :: cap).toArray .normal) ((zbT fid n (zcO w.heap.size :: ds)).fr (.inRangeFunc (w.alloc o1).heap.size :: k) f :: cs) ((w.alloc o1).alloc o2)):=by
    obtain ⟨fn,c,h1,h2,h3⟩:=hg
    have h2' : fn.name ≠ "runtime.NumGoroutine" := by simpa using h2
    have hef:=zlI (zbT fid n (zcO w.heap.size :: ds)) (.inRangeFunc (w.alloc o1).heap.size :: k) f
    have hentl:(Instr.enterLoop fid (tm n f) ps.toArray assign body none).run P w = .ok ((w.alloc o1).heap.size,[zcO w.heap.size]) ((w.alloc o1).alloc o2):=by
      simp [Instr.enterLoop,Sem.run_bind,Result.andThen,o1,o2,zcO]
    let c1:Call:={ callee:=.value fo,args:=#[.const (.func (.yield (w.alloc o1).heap.size) #[] #[])],argTypes:=#[] }
    have hcall:(do let d ← resolve (ev n f) c1 0; invoke d.target d.args:Sem Next).run P ((w.alloc o1).alloc o2) = .ok (.enter g (.func (.yield (w.alloc o1).heap.size) #[] #[] :: cap).toArray) ((w.alloc o1).alloc o2):=by
      have hy:ev n f (.const (.func (.yield (w.alloc o1).heap.size) #[] #[])) = .func (.yield (w.alloc o1).heap.size) #[] #[]:=rfl
      have hy2:ev n f (.const (.func (.yield (w.heap.size + 1)) #[] #[])) = .func (.yield (w.heap.size + 1)) #[] #[]:=rfl
      simp [c1,resolve,hf,hy,hy2,Deferred.ofValue,invoke,callFunc,Sem.run_bind,program,Sem.run,h1,h2',h3,Result.andThen]
    refine step_lone_go ?_
    rw [show (zbT fid n (zcO w.heap.size :: ds)).n = n from rfl] at hef
    simp only [Base.fr,zbT,List.cons_append,List.nil_append] at hef
    simp only [stepG,stepG.exec,Base.fr,zbT,Sem.runT_eq,hentl,List.cons_append,List.nil_append,GStep.bare_after,hef]
    simp only [stepG.apply,Sem.runT_eq,GStep.bare_after,if_true]
    erw [hcall]
    rfl
  have hr2:step P (lone (((zbT fid n (zcO w.heap.size :: ds)).fr (.inRangeFunc (w.alloc o1).heap.size :: k) f).finish v) cs w2) =
      .next (lone ((zbT fid n (zcO w.heap.size :: ds)).fr ((lp.pending.map Item.code).toList ++ k) f) cs { w2 with heap:=w2.heap.setIfInBounds (w.alloc o1).heap.size (.loop { lp with state:=.exhausted }) }):=by
    refine step_lone_go ?_
    simp only [stepG,stepG.exec,Base.fr,zbT,Frame.finish,Sem.runT_eq,hend,GStep.bare_after]
    rfl
  exact .head hent (hcomes.trans (.head (step_leave_returned hleave) (.head hr2 hs4)))
structure Lp (lp:Loop) (fid n:Nat) (f:Nat → Value) (ps:List Tmp) (assign body:Code):Prop where
  state:lp.state = .ready
  pending:lp.pending = none
  fn:lp.fn = fid
  tmps:lp.tmps = tm n f
  params:lp.params = ps.toArray
  assign:lp.assign = assign
  body:lp.body = body
theorem Lp.back {lp:Loop} {fid n:Nat} {f:Nat → Value} {ps:List Tmp} {assign body:Code} (h:Lp lp fid n f ps assign body):({ zm1 lp with state:=.ready,pending:=none }:Loop) = lp:=by
  have h1:=h.state
  have h2:=h.pending
  cases lp
  simp only at h1 h2
  subst h1; subst h2
  rfl
section
variable {P:Program} {fn n l:Nat} {k:List Item} {f:Nat → Value} {w0 w:World} {M:Nat → Prop} {L L' D:List Res} {C:Value → World → Prop} {lp:Loop} {fid n2:Nat} {f2:Nat → Value} {ps:List Tmp} {assign body:Code}
theorem zeO (hlp:Lp lp fid n2 f2 ps assign body) (V:St w0 M L D w) (hs:Sel (Res.obj l (.loop lp)) (Res.obj l (.loop (zm1 lp))) L L')
    (h:∀ w',St w0 M L' D w' → Run P (zfM fn n l) k f w' (zb9 P C)):Run P (zfM fn n l) (.beginRound :: k) f w (zb9 P C):=zh9 V hs hlp.state h
theorem zdn (hlp:Lp lp fid n2 f2 ps assign body) (V:St w0 M L D w) (hs:Sel (Res.obj l (.loop (zm1 lp))) (Res.obj l (.loop lp)) L L') (h:∀ w',St w0 M L' D w' → C (.bool true) w') :
    Run P (zfM fn n l) [] f w (zb9 P C):=zjU V (by rw [hlp.back]; exact hs) h
theorem zdZ (V:St w0 M L D w) (hs:Sel (Res.obj l (.loop (zm1 lp))) (Res.obj l (.loop (zf3 lp .ret))) L L') (h:∀ w',St w0 M L' D w' → C (.bool false) w') :
    Run P (zfM fn n l) (.code .ret :: k) f w (zb9 P C):=zjT V hs h
end
def zqQ (P:Program) (g:FuncId) (cap:List Value) (n:Nat) (item:Nat → List Value) (FD:Nat → Prop) (w:World):Prop :=
  ∀ (yv : Value) (R S : Nat → Res), (R 0).holds w → (∀ b, (R 0).foot b → ¬ FD b) →
    (∀ i,i < n → ∀ w1,St w (R 0).foot [R i] [] w1 → CallV P yv (item i) w1 fun v w2=>(v = .bool true ∧ St w1 (R i).foot [R (i + 1)] [] w2) ∨ (v = .bool false ∧ St w1 (R i).foot [S i] [] w2)) →
    Ret P g (yv :: cap).toArray w fun _ w'=>St w (R 0).foot [R n] [] w' ∨ ∃ i,i < n ∧ St w (R 0).foot [S i] [] w'
theorem St.root {w0 w:World} {M:Nat → Prop} {X L2 D:List Res} (h:St w0 M (X ++ L2) D w):St w (Res.star X).foot X (L2 ++ D) w where
  kept:=Kept.refl _ _
  hL:=fun r hr=>h.hL r (List.mem_append_left _ hr)
  hD:=fun r hr=>(List.mem_append.1 hr).elim (fun hr=>h.hL r (List.mem_append_right _ hr)) (fun hr=>h.hD r hr)
  new:=fun r hr b hb=>.inr ⟨r,hr,hb⟩
  sep:=(List.pairwise_append.1 h.sep).1
  sepD:=fun r hr d hd=>(List.mem_append.1 hd).elim (fun hd=>(List.pairwise_append.1 h.sep).2.2 r hr d hd) (fun hd=>h.sepD r (List.mem_append_left _ hr) d hd)
theorem St.star_of {w0 w:World} {M:Nat → Prop} {X D:List Res} (h:St w0 M X D w):St w0 M [Res.star X] [] w:=by
  have:=(St.pack (L1:=X) (L2:=[]) (by simpa using h)).noD
  exact this
theorem zd0 {P:Program} {fid n g:Nat} {ds:List Deferred} {fo:Operand} {ps:List Tmp} {assign body:Code} {k:List Item} {f:Nat → Value} {w0 w:World} {M:Nat → Prop} {L1 L2 D:List Res} {E:Frame → World → Prop} {cap:List Value}
    {N:Nat} {item:Nat → List Value} {FD:Nat → Prop} (A B:Nat → List Res) (jc:Nat → Code)
    (V:St w0 M (L1 ++ L2) D w) (hA:A 0 = L1) (hf:ev n f fo = .func (.func g) #[] cap.toArray) (hg:zaJ P g)
    (hfd:∀ b,FD b → (∃ r ∈ L2,r.foot b) ∨ ∃ r ∈ D,r.foot b)
    (hit:∀ w1,St w0 M (L1 ++ L2) D w1 → zqQ P g cap N item FD w1)
    (hlen:∀ i,i < N → (item i).length = ps.length)
    (hround:∀ i,i < N → ∀ w1 l r lp,Lp lp fid n f ps assign body → St w1 (Res.star (Res.obj l (.loop lp) :: Res.obj r (.deferred (some [])) :: A i)).foot (Res.obj l (.loop lp) :: Res.obj r (.deferred (some [])) :: A i) (L2 ++ D) w1 →
      (∀ w2,Kept (Res.star (Res.obj l (.loop lp) :: Res.obj r (.deferred (some [])) :: A i)).foot w1 w2 → Kept M w0 w2) →
      Run P (zfM fid n l) [.code assign,.beginRound,.code body] (zjS f (ps.zip (item i))) w1 (zb9 P fun v w2 =>
        (v = .bool true ∧ ∃ D',St w1 (Res.star (Res.obj l (.loop lp) :: Res.obj r (.deferred (some [])) :: A i)).foot (Res.obj l (.loop lp) :: Res.obj r (.deferred (some [])) :: A (i + 1)) D' w2) ∨
        (v = .bool false ∧ ∃ D',St w1 (Res.star (Res.obj l (.loop lp) :: Res.obj r (.deferred (some [])) :: A i)).foot (Res.obj l (.loop (zf3 lp (jc i))) :: Res.obj r (.deferred (some [])) :: B i) D' w2)))
    (hend:∀ w2 l r lp,St w0 M (Res.obj l (.loop lp) :: Res.obj r (.deferred (some [])) :: (A N ++ L2)) D w2 → Run P (zbT fid n (zcO r :: ds)) k f w2 E)
    (hstop:∀ i,i < N → ∀ w2 l r lp,St w0 M (Res.obj l (.loop lp) :: Res.obj r (.deferred (some [])) :: (B i ++ L2)) D w2 → Run P (zbT fid n (zcO r :: ds)) (.code (jc i) :: k) f w2 E) :
    Run P (zbT fid n ds) (.code (.rangeFunc fo ps.toArray assign body) :: k) f w E:=by
  refine zfF V hf hg fun w1 l r hst1=>?_
  obtain ⟨lp,hlp,hst1⟩:∃ lp,Lp lp fid n f ps assign body ∧ St w0 M (Res.obj l (.loop lp) :: Res.obj r (.deferred (some [])) :: (L1 ++ L2)) D w1:=⟨_,⟨rfl,rfl,rfl,rfl,rfl,rfl,rfl⟩,hst1⟩
  subst hA
  let X:Nat → List Res:=fun i=>Res.obj l (.loop lp) :: Res.obj r (.deferred (some [])) :: A i
  have hX:St w0 M (X 0 ++ L2) D w1:=hst1
  have hplain:St w0 M (A 0 ++ L2) D w1:=(hst1.drop .here).drop .here
  have hi:=hit w1 hplain
  refine (hi (.func (.yield l) #[] #[]) (fun i=>Res.star (X i)) (fun i=>Res.star (Res.obj l (.loop (zf3 lp (jc i))) :: Res.obj r (.deferred (some [])) :: B i)) (hX.pack.hL _ (.head _)) ?_ ?_).mono ?_
  · intro b hb hfb
    have hp:=hX.pack
    rcases hfd b hfb with ⟨s,hs,hsb⟩ | ⟨s,hs,hsb⟩
    · exact (List.pairwise_cons.1 hp.sep).1 s hs b hb hsb
    · exact hp.sepD _ (.head _) s hs b hb hsb
  · intro i hiN w2 hw2
    have h2:St w0 M (X i ++ L2) D w2:=(hX.pack.call1 hw2).unpack
    have hr:=hround i hiN w2 l r lp hlp h2.root (fun w3 hk3=>h2.kept.trans hk3 fun x hx hf=>by
      obtain ⟨s,hs,hsx⟩:=hf
      exact (h2.new s (List.mem_append_left _ hs) x hsx).resolve_left O)
    have hl:w2.heap[l]? = some (.loop lp):=h2.hL _ (.head _)
    refine zh3 (ps:=ps) (n:=n) (f:=f) hl hlp.params (hlen i hiN) hlp.tmps ?_
    rw [hlp.fn,hlp.assign,hlp.body]
    refine hr.mono fun fr w3 ⟨v,w4,hC,hs⟩=>⟨v,w4,?_,hs⟩
    rcases hC with ⟨hv,D',hC⟩ | ⟨hv,D',hC⟩
    · exact .inl ⟨hv,hC.star_of⟩
    · exact .inr ⟨hv,hC.star_of⟩
  · rintro v w2 (h2 | ⟨i, hiN, h2⟩)
    · have h3 : St w0 M (X N ++ L2) D w2 := (hX.pack.call1 h2).unpack
      refine ⟨lp,_,by rw [hlp.state]; decide,h3,fun w3 h4=>?_⟩
      rw [hlp.pending]
      exact hend w3 l r _ h4
    · have h3 := (hX.pack.call1 h2).unpack
      refine ⟨zf3 lp (jc i),_,by simp [zf3],h3,fun w3 h4=>?_⟩
      exact hstop i hiN w3 l r _ h4
end Go.SK
namespace Go.SK
inductive Pick:List Res → List Res → Prop
  | nil {L:List Res}:Pick [] L
  | cons {r:Res} {L L1 L':List Res}:Rem r L L1 → Pick L' L1 → Pick (r :: L') L
theorem Pick.sub {L L':List Res} (h:Pick L' L):∀ r ∈ L',r ∈ L:=by
  induction h with
  | nil=>intro r hr; cases hr
  | cons hr _ ih => intro s hs; cases hs with
    | head=>exact hr.mem
    | tail _ hs=>exact hr.sub s (ih s hs)
theorem Pick.apart {L L':List Res} (h:Pick L' L) (hp:L.Pairwise Apart):L'.Pairwise Apart:=by
  induction h with
  | nil=>exact .nil
  | cons hr hpk ih=>exact List.pairwise_cons.2 ⟨fun s hs=>(hr.apart hp).2 s (hpk.sub s hs),ih (hr.apart hp).1⟩
theorem St.pick {w0 w:World} {M:Nat → Prop} {L L' D:List Res} (h:St w0 M L D w) (hp:Pick L' L):St w0 M L' D w where
  kept:=h.kept
  hL:=fun s hs=>h.hL s (hp.sub s hs)
  hD:=h.hD
  new:=fun s hs=>h.new s (hp.sub s hs)
  sep:=hp.apart h.sep
  sepD:=fun s hs=>h.sepD s (hp.sub s hs)
theorem St.addProp {w0 w:World} {M:Nat → Prop} {L D:List Res} {p:Prop} (h:St w0 M L D w) (hp:p):St w0 M (Res.prop p :: L) D w :=
  h.push (Kept.refl _ _) hp (fun _ hf=>hf.elim)
theorem St.init_Ds {D:List Res} {w:World} (h:∀ d ∈ D,d.holds w):St w NoM [] D w where
  kept:=Kept.refl _ _
  hL:=by simp
  hD:=h
  new:=by simp
  sep:=List.Pairwise.nil
  sepD:=by simp
theorem St.init_D {r:Res} {w:World} (h:r.holds w):St w NoM [] [r] w:=St.init_Ds (by simpa using h)
open Go.RowKit
def EqOk (P:Program) (k:Nat) (T:TypeId) (x y:Value) (b:Bool):Prop:=∀ (d:Nat) (w:World),(Op.equalIn (d + k) T x y).run P w = .ok b w
def PartOk (P:Program) (T:TypeId) (cs:List Value) (off:Nat) (v:Value):Prop:=∀ w:World,(part T cs.toArray off).run P w = .ok v w
theorem ze5 {P:Program} {T:TypeId} {k:IntKind} {sz bytes:Nat} {zs:List Value} {a b:Int} (hT:TyF P T (.int k) sz bytes zs):EqOk P 1 T (.int k a) (.int k b) (decide (a = b)):=fun d w=>by
  rw [Op.equalIn]
  simp only [Sem.run_bind,hT.run_und,Result.andThen]
  have:(a == b) = decide (a = b):=rfl
  simp [this]
theorem PartOk.one {P:Program} {T:TypeId} {d:TypeDesc} {sz bytes:Nat} {zs cs:List Value} {off:Nat} {v:Value} (hT:TyF P T d sz bytes zs) (hd:zoz d = false) (hv:cs[off]? = some v):PartOk P T cs off v:=fun w=>by
  simp only [part,Sem.run_bind,hT.run_isAgg,hd,Result.andThen]
  simp [hv]
inductive EqFields (P:Program) (k:Nat) (xs ys:List Value):List Field → List Bool → Prop
  | nil:EqFields P k xs ys [] []
  | cons {f : Field} {fs : List Field} {b : Bool} {bs : List Bool} {px py : Value} (hn : f.name ≠ "_") (hx : PartOk P f.type xs f.offset px) (hy : PartOk P f.type ys f.offset py) (h : EqOk P k f.type px py b) (hr : EqFields P k xs ys fs bs) : EqFields P k xs ys (f :: fs) (b :: bs)
theorem zfv {P:Program} {T:TypeId} {k:Nat} {fs:List Field} {xs ys:List Value} {bs:List Bool} (hu:P.underlying T = some (.struct fs.toArray)) (hs:P.stoodInHeld T = false) (h:EqFields P k xs ys fs bs) :
    EqOk P (k + 1) T (.agg xs.toArray) (.agg ys.toArray) (bs.all id):=fun d w=>by
  rw [show d + (k + 1) = (d + k) + 1 by omega,Op.equalIn]
  simp only [Sem.run_bind,run_underlying hu,Result.andThen]
  have hp:(program:Sem Program).run P w = .ok P w:=rfl
  simp only [Sem.run_bind,hp,Result.andThen,hs,Bool.false_eq_true,if_false]
  simp only [List.forIn_toArray]
  clear hu
  induction h with
  | nil=>simp
  | @cons f fs b bs px py hn hx hy h hr ih =>
    have h1:=hx w
    have h2:=hy w
    have h3:=h d w
    simp only [List.forIn_cons,Sem.run_bind,if_pos hn,h1,h2,h3,Result.andThen]
    cases b
    · simp
    · simp at ih ⊢
      exact ih
section
variable {P:Program} {ty:TypeId} {ρ:Operand → Value} {w:World} {C:Value → World → Prop} {T T2:TypeId} {x y:Operand} {k:Nat} {xs ys:List Value} {b:Bool}
theorem zkz {x y:Value} (h:EqOk P k T x y b) (hk:Nat.ble k 10000 = true):(Op.equal T x y).run P w = .ok b w:=by
  have:=h (10000 - k) w
  rw [Nat.sub_add_cancel (Nat.le_of_ble_eq_true hk)] at this
  exact this
theorem znd (hx:ρ x = .agg xs.toArray) (hy:ρ y = .agg ys.toArray) (hg:P.eqGuardType P.depth T = false) (h:EqOk P k T (.agg xs.toArray) (.agg ys.toArray) b) (hc:C (.bool b) w) (hk:Nat.ble k 10000 = true:=by rfl):Op1 P (.binOp .eql T x y T2) ty ρ w C:=by
  refine zb5 (v:=.bool b) (w':=w) ?_ hc
  have hp:(program:Sem Program).run P w = .ok P w:=rfl
  simp only [execOp,hx,hy,eqGuard,binOp]
  simp [Sem.run_bind,hp,hg,Result.andThen,zkz h hk]
end
section
variable {w0 w:World} {M:Nat → Prop} {L1 L2 D:List Res}
theorem St.toD (h:St w0 M (L1 ++ L2) D w):St w0 M L1 (L2 ++ D) w where
  kept:=h.kept
  hL:=fun r hr=>h.hL r (List.mem_append_left _ hr)
  hD:=fun r hr=>(List.mem_append.1 hr).elim (fun hr=>h.hL r (List.mem_append_right _ hr)) (fun hr=>h.hD r hr)
  new:=fun r hr=>h.new r (List.mem_append_left _ hr)
  sep:=(List.pairwise_append.1 h.sep).1
  sepD:=fun r hr d hd=>(List.mem_append.1 hd).elim (fun hd=>(List.pairwise_append.1 h.sep).2.2 r hr d hd) (fun hd=>h.sepD r (List.mem_append_left _ hr) d hd)
end
def Res.sl (ao:Option Addr) (n cap:Nat) (e:TypeId) (es:Nat) (xs:List Value):Res where
  foot:=fun b=>(Value.slice ao n cap).ownBlock = some b
  holds:=fun w=>w.ownsRow 0 e es (.slice ao n cap) n xs
  stable:=fun w w' h hh=>by
    refine ⟨hh.1,?_⟩
    rcases hh.2 with hn | ⟨g,c,cur,hv,hb,hg,rest⟩
    · exact .inl hn
    · refine .inr ⟨g, c, cur, hv, hb, ?_, rest⟩
      rw [h g (by rw [hv]; rfl)]; exact hg
  inb:=fun w hh b hb=>(hh.lt b hb).2
section
variable {P:Program} {ty:TypeId} {ρ:Operand → Value} {w0 w:World} {C:Value → World → Prop} {M:Nat → Prop} {L L' D:List Res}
variable {T e:TypeId} {de:TypeDesc} {d:TypeDesc} {sz bytes es eb:Nat} {zs ez:List Value} {ao:Option Addr} {n cap:Nat} {xs:List Value}
theorem St.pushNil (h:St w0 M L D w) (e:TypeId) (es:Nat):St w0 M (Res.sl none 0 0 e es [] :: L) D w :=
  h.push (Kept.refl _ _) (World.ownsRow_nil _ _ _ _) (fun b hb=>by cases hb)
theorem Res.sl_some (h:(Res.sl ao n cap e es xs).holds w) (hn:0 < n):∃ b,ao = some ⟨b,0,none⟩:=by
  rcases h.2 with ⟨_,h0⟩ | ⟨g,c,cur,hv,_⟩
  · omega
  · cases hv; exact ⟨g,rfl⟩
theorem Res.sl_cells {b off k:Nat} (h:(Res.sl (some ⟨b,0,none⟩) n cap e es xs).holds w) (vs:List Value) (hv:(xs.drop off).take k = vs):zh2 w b off vs:=by
  subst hv
  intro i v hi
  rw [List.getElem?_take] at hi
  split at hi
  · rw [List.getElem?_drop] at hi
    have:=h.cells (g:=b) rfl _ _ hi
    rwa [zcL,Nat.zero_add] at this
  · simp at hi
theorem Res.sl_cell {b off:Nat} {v:Value} (h:(Res.sl (some ⟨b,0,none⟩) n cap e es xs).holds w) (hv:xs[off]? = some v):w.cell? ⟨b,off,none⟩ = some v:=by
  have:=h.cells (g:=b) rfl _ _ hv
  rwa [zcL,Nat.zero_add] at this
theorem zhD:maxLen = 9223372036854775807:=by simp [maxLen]
theorem znC {v:Value} (h:zdH v = true):v.oneCell' = true:=by
  cases v <;> first | rfl | simp [zdH] at h
theorem zaO {x y:Operand} {b o m c:Nat} {news:List Value} (V:St w0 M L D w) (hT:TyF P T (.slice e) sz bytes zs) (he:TyF P e de es eb ez) (hes:Nat.ble 1 es = true) (hebs:Nat.ble 1 eb = true)
    (hr:Rem (Res.sl ao n cap e es xs) L L') (hx:ρ x = .slice ao n cap) (hy:ρ y = .slice (some ⟨b,o,none⟩) m c) (hl:news.length = m * es) (hc:zh2 w b o news) (hok:news.all zdH = true)
    (hez:ez.length = es) (hb:(n + m) * eb ≤ 140737488355328)
    (h:∀ (w':World) (ao':Option Addr) (cap':Nat),St w0 M (Res.sl ao' (n + m) cap' e es (xs ++ news) :: L') D w' → C (.slice ao' (n + m) cap') w') :
    Op1 P (.call ⟨.builtin .append,#[x,y],#[T,T]⟩) ty ρ w C:=by
  obtain ⟨i,z,h1,h2,h3,h4,h5⟩:=he.info
  have hown:w.ownsRow 0 e es (.slice ao n cap) n xs:=V.hL _ hr.mem
  have hes':0 < es:=Nat.le_of_ble_eq_true hes
  have hebs':0 < eb:=Nat.le_of_ble_eq_true hebs
  have hnm:n + m ≤ (n + m) * eb:=Nat.le_mul_of_pos_right _ hebs'
  have hcell:∀ j u,news[j]? = some u → w.cell? ((⟨b,o,none⟩:Addr).add j) = some u:=fun j u hj=>by rw [zcL]; exact hc j u hj
  have h1c:∀ u ∈ news,u.oneCell' = true:=fun u hu=>znC (List.all_eq_true.1 hok u hu)
  have hzs:z.cells.size = es:=by rw [h5]; simpa using hez
  have key:∃ v' w',(Builtin.append_ #[T,T] ty #[.slice ao n cap,.slice (some ⟨b,o,none⟩) m c]).run P w = .ok v' w' ∧ w'.ownsRow 0 e es v' (n + m) (xs ++ news) ∧ w.grownBy w' (Value.slice ao n cap).ownBlock ∧
      ∀ k,v'.ownBlock = some k → (Value.slice ao n cap).ownBlock = some k ∨ w.heap.size ≤ k:=by
    rcases hown.2 with ⟨hv,h0⟩ | ⟨g,cc,cur,hv,hb0,hg,hnc,hcm,hcs,htake⟩
    · obtain ⟨v', w', r1, r2, r3, _⟩ := run_append_own w w.heap.size T ty e i z es eb hT.und h1 h4 h2 h3 hzs hes' (.slice ao n cap) n xs ⟨hown.1, .inl ⟨hv, h0⟩⟩ ⟨b, o, none⟩ m c news hl hcell h1c (by rw [zhD]; omega) hb (Nat.le_refl _)
      exact ⟨v',w',r1,⟨r2.1,r2.2.imp id fun ⟨g,cc,cur,e1,_,e2⟩=>⟨g,cc,cur,e1,Nat.zero_le _,e2⟩⟩,r3,fun k hk=>.inr (r2.lt k hk).1⟩
    · cases hv
      by_cases hroom:n + m ≤ cap
      · obtain ⟨v', w', r1, r2, r3, _⟩ := run_append_own w 0 T ty e i z es eb hT.und h1 h4 h2 h3 hzs hes' _ n xs hown ⟨b, o, none⟩ m c news hl hcell h1c (by rw [zhD]; omega) hb (Nat.zero_le _)
        have r4:=run_append_room (P:=P) w T ty e i hT.und h1 g n cap cur hg ⟨b,o,none⟩ m c news (by rw [h2]; exact hl) hcell h1c hroom (by rw [h2,hl,hcs,← Nat.add_mul]; exact Nat.mul_le_mul_right _ hroom)
        rw [r1] at r4
        injection r4 with e1 e2
        refine ⟨v',w',r1,r2,r3,fun k hk=>.inl ?_⟩
        rw [e1] at hk
        exact hk
      · obtain ⟨v', w', r1, r2, r3⟩ := run_append_arg_grows (P := P) w T ty e i z es eb hT.und h1 h4 h2 h3 hzs hes' ⟨g, 0, none⟩ n cap xs hown.1 (hown.cells (g := g) rfl) ⟨b, o, none⟩ m c news hl hcell (by omega) (by rw [zhD]; omega) hb
        exact ⟨v',w',r1,⟨r2.1,r2.2.imp id fun ⟨g,cc,cur,e1,_,e2⟩=>⟨g,cc,cur,e1,Nat.zero_le _,e2⟩⟩,⟨r3.os,r3.tape,r3.output,r3.size,fun k hk _=>r3.block k hk (by simp)⟩,fun k hk=>.inr (r2.lt k hk).1⟩
  obtain ⟨v',w',hrun,hown',hg,hblk⟩:=key
  have hshape:∃ ao' cap',v' = .slice ao' (n + m) cap':=by
    rcases hown'.2 with ⟨hv,h0⟩ | ⟨g,cc,cur,hv,_⟩
    · exact ⟨none,0,by rw [hv,h0]⟩
    · exact ⟨_,_,hv⟩
  obtain ⟨ao',cap',rfl⟩:=hshape
  refine zef (args:=[x,y]) (v:=.slice ao' (n + m) cap') (w':=w') (fun cs=>?_) (h w' ao' cap' ?_)
  · simp only [List.map_cons, List.map_nil, hx, hy]
    simp [Go.builtin,hrun]
  · exact (V.front hr).upd .here ⟨hg.os,hg.tape,hg.output,hg.size,fun k hk hne=>hg.block k hk (fun e=>hne e.symm)⟩ hown' hblk
theorem zf0 {α:Type} {g:α → List Value} {es:Nat} (hg:∀ a,(g a).length = es):∀ (l:List α) (i:Nat),(l.flatMap g).drop (i * es) = (l.drop i).flatMap g
  | l,0=>by simp
  | [],i + 1=>by simp
  | a :: l, i + 1 => by
    rw [List.flatMap_cons,List.drop_succ_cons,← zf0 hg l i,show (i + 1) * es = (g a).length + i * es by rw [hg]; grind,List.drop_append]
    simp
theorem zbQ {α:Type} {g:α → List Value} {d:α} {es:Nat} (hg:∀ a,(g a).length = es) (l:List α) (i:Nat) (h:i < l.length):((l.flatMap g).drop (0 + i * es)).take es = g (l.getD i d):=by
  rw [Nat.zero_add,zf0 hg]
  have:l.drop i = l.getD i d :: l.drop (i + 1):=by
    rw [List.drop_eq_getElem_cons h]; simp [List.getD,h]
  rw [this,List.flatMap_cons,List.take_append_of_le_length (by rw [hg]; exact Nat.le_refl _),List.take_of_length_le (by rw [hg]; exact Nat.le_refl _)]
theorem zct {α:Type} {g:α → List Value} {d:α} {es:Nat} {v:Value} (hg:∀ a,(g a).length = es) {l:List α} {i o:Nat} (hv:(g (l.getD i d))[o]? = some v) (h:i < l.length):(l.flatMap g)[0 + i * es + o]? = some v:=by
  have h1:=zbQ (d:=d) hg l i h
  rw [← h1,List.getElem?_take] at hv
  split at hv
  · rw [List.getElem?_drop] at hv; exact hv
  · cases hv
theorem zc3 {α:Type} {g:α → List Value} {d:α} {es:Nat} {v:Value} (hg:∀ a,(g a).length = es) {l:List α} {i:Nat} (hv:(g (l.getD i d))[0]? = some v) (h:i < l.length):(l.flatMap g)[0 + i * es]? = some v :=
  zct (o:=0) hg hv h
def zcq (zs:List Value) (n:Nat):List Value:=(List.range n).flatMap fun _=>zs
theorem zaI {parts:List (Nat × Operand)} {z0 l':List Value} {k:Nat} (V:St w0 M L D w) (hT:TyF P T (.slice e) sz bytes zs) (he:TyF P e de es eb ez) (hk:Nat.ble (k * es) 16777216 = true) (hp:Nat.ble 1 (k * es) = true)
    (hz:(Array.range (k * es)).map (fun j=>ez.toArray[j % ez.toArray.size]!) = z0.toArray) (hf:Fills ρ (zm4 es) z0 parts l')
    (h:∀ (w':World) (b:Nat),St w0 M (Res.row b e l' :: L) D w' → C (.slice (some ⟨b,0,none⟩) k k) w'):Op1 P (.buildSlice T k parts.toArray) ty ρ w C:=by
  obtain ⟨z,hzz,hzs⟩:=he.run_zero w
  have hb:=hf.build
  have hk':=Nat.le_of_ble_eq_true hk
  have hp':=Nat.le_of_ble_eq_true hp
  have hr:(Instr.buildSlice T k (parts.toArray.map fun p=>(p.1,ρ p.2))).run P w = .ok (.slice (some ⟨w.heap.size,0,none⟩) k k) (w.alloc (.cells l'.toArray e)):=by
    unfold Instr.buildSlice
    simp only [Sem.run_bind,hT.run_und,Result.andThen,he.run_size]
    rw [if_neg (by omega),if_neg (by omega)]
    simp only [Sem.run_bind,hzz,Result.andThen,Sem.run_pure,hzs,hz]
    unfold zm4 at hb
    rw [hb]
    simp [newRow,Result.andThen]
  refine Inv.value (v:=.slice (some ⟨w.heap.size,0,none⟩) k k) (w':=w.alloc (.cells l'.toArray e)) ?_ (h _ _ ?_)
  · simp only [execOp, Sem.run_bind]
    rw [hr]
    rfl
  · refine V.push (Kept.alloc _ _ _) ?_ ?_
    · simp only [Res.obj]; rw [zde]
    · intro b hb; exact Nat.le_of_eq hb.symm
theorem zhp (n:Nat):∀ (vs l:List Value) (off:Nat),(zbH l off vs).take n = zbH (l.take n) off vs
  | [],l,off=>rfl
  | v :: vs, l, off => by
    simp only [zbH]
    rw [zhp n vs _ (off + 1),List.take_set]
theorem zft {x y:Operand} {b off:Nat} {v:Value} {vs:List Value} (V:St w0 M L D w) (hT:TyF P T d sz bytes zs) (hx:ρ x = .pointer (some ⟨b,off,none⟩)) (hy:ρ y = v) (hv:v.cells = vs.toArray)
    (hn:vs.length = sz) (hok:vs.all zdH = true) (hs:Sel (Res.sl (some ⟨b,0,none⟩) n cap e es xs) (Res.sl (some ⟨b,0,none⟩) n cap e es (zbH xs off vs)) L L') (hl:off + vs.length ≤ n * es)
    (h:∀ w':World,St w0 M L' D w' → C undef w'):Op1 P (.store T x y) ty ρ w C:=by
  have hh:w.ownsRow 0 e es (.slice (some ⟨b,0,none⟩) n cap) n xs:=V.hL _ hs.mem
  have hlen:=hh.1
  rcases hh.2 with ⟨hv0,_⟩ | ⟨g,cc,cur,hv0,hb0,hg,hnc,hcm,hcs,htake⟩
  · cases hv0
  · cases hv0
    have hcur:n * es ≤ cur.size:=by rw [hcs]; exact Nat.mul_le_mul_right _ hnc
    obtain ⟨w',hr,hb',hk⟩:=zeq (P:=P) (T':=e) (off:=off) (l:=cur.toList) hT hv hn hok (by simpa using hg) (.inr (by simp only [Array.length_toList]; omega))
    refine Inv.skip (w':=w') ?_ (h w' (V.upd hs ?_ ?_ (fun c hc=>.inl hc)))
    · simp [execOp,Instr.storeAt,hx,hy,Instr.sureAddr,hr]
    · exact hk.mono fun c _ hc=>by subst hc; rfl
    · refine ⟨by rw [zfE]; exact hlen, .inr ⟨_, _, _, rfl, Nat.zero_le _, hb', hnc, hcm, ?_, ?_⟩⟩
      · simp [zfE,hcs]
      · simp only [List.toList_toArray]
        rw [zhp,htake]
end
end Go.SK
namespace Go.SK
theorem DrawTab.mask {ops:Array Oper} {bs:List Nat} {ds:List (Option Nat)} (h:DrawTab ops bs ds) (f:Nat → Value) {j l t:Nat} (hw:zkF (bs.getD j 0) l = true) (hd:ds.getD l none = some t):SK.mask ops j f t = f t :=
  zeU f (by rw [h.waits,zdd]; exact hw) (by rw [h.dstOf]; exact hd)
open Go.RowKit
abbrev markR (r:Nat):Res:=Res.obj r (.deferred (some []))
theorem zjV {P:Program} {fid n:Nat} {fn:Func} {f:Nat → Value} {k:List Item} {C:Value → World → Prop} (hf:P.funcs[fid]? = some fn) {w0:World} {M:Nat → Prop} {L D:List Res} :
    ∀ (rs : List Nat) (w : World) (cs : List Frame), St w0 M (rs.map markR ++ L) D w → (∀ w', St w0 M L D w' → ∃ v, (results fn (tm n f)).run P w' = .ok v w' ∧ C v w') →
      ∃ w',Steps P (lone { (zbT fid n (rs.map zcO)).fr k f with mode:=.returning } cs w) (lone { (zbT fid n []).fr k f with mode:=.returning } cs w') ∧ zeI P fid C { (zbT fid n []).fr k f with mode:=.returning } w'
  | [], w, cs, V, h => by
    obtain ⟨v,hv,hC⟩:=h w V
    exact ⟨w,Steps.refl _ _,zji hf hv hC⟩
  | r :: rs, w, cs, V, h => by
    have hh:=V.hL _ (.head _)
    simp only [Res.obj] at hh
    have htake:(Instr.takeDeferred r).run P w = .ok [] { w with heap:=w.heap.setIfInBounds r (.deferred none) }:=by
      simp only [Instr.takeDeferred,Sem.run_bind,zeX hh (by simp),Result.andThen,zc1 hh (by simp)]
      rfl
    have h2:=V.upd (r':=Res.obj r (.deferred none)) .here (Kept.put _ _ _) (by simpa [Res.obj] using zc2 hh) (fun b hb=>.inl hb)
    obtain ⟨w',hs,hl⟩:=zjV hf (k:=k) rs _ cs (h2.drop .here) h
    refine ⟨w',.head (step_lone_go ?_) hs,hl⟩
    simp only [stepG,Base.fr,zbT,List.map_cons,unwind,zcO,Sem.runT_eq,htake,GStep.bare_after]
    rfl
theorem zbz {P:Program} {fid n:Nat} {fn:Func} {f:Nat → Value} {k:List Item} {C:Value → World → Prop} {w0 w:World} {M:Nat → Prop} {L D:List Res} (rs:List Nat)
    (hf:P.funcs[fid]? = some fn) (V:St w0 M (rs.map markR ++ L) D w) (h:∀ w',St w0 M L D w' → ∃ v,(results fn (tm n f)).run P w' = .ok v w' ∧ C v w') :
    Run P (zbT fid n (rs.map zcO)) (.code .ret :: k) f w (zeI P fid C):=fun cs=>by
  obtain ⟨w',hs,hl⟩:=zjV hf (k:=.code .ret :: k) rs w cs V h
  exact ⟨_,w',.head (step_lone_go (fr':={ (zbT fid n (rs.map zcO)).fr (.code .ret :: k) f with mode:=.returning }) (by simp [stepG,stepG.exec,Base.fr,zbT])) hs,hl⟩
theorem zti (l m:List (Nat × Value)) (f:Nat → Value):sts (l ++ m) f = sts l (sts m f):=by
  induction l with
  | nil=>rfl
  | cons p l ih=>obtain ⟨t,v⟩:=p; simp only [List.cons_append,sts,ih]
theorem Slots.app {f:Nat → Value}:∀ {l m:List (Nat × Value)},Slots f l → Slots f m → Slots f (l ++ m)
  | [],_,_,h=>h
  | (_,_) :: _,_,h1,h2=>⟨h1.1,Slots.app h1.2 h2⟩
theorem zec {α:Type} {P:Program} {b:Base} {i:Item} {k:List Item} {E:Frame → World → Prop} {w0:World} {M:Nat → Prop} {L1 L2 D:List Res} {F:Nat → Value} {w:World} (kv:List (Nat × Value)) (V:St w0 M (L1 ++ L2) D w) (hkv:Slots F kv) (st:α → List (Nat × Value)) (Lm:α → List Res) (J:α → Prop)
    (h2:∀ (a:α) (f:Nat → Value) (w:World),St w0 M (Lm a ++ L2) D w → J a → Run P b k (sts (st a) (sts kv f)) w E)
    (h1:(∀ (a:α) (f:Nat → Value) (w:World),St w0 M (Lm a ++ L2) D w → J a → Slots f kv → Slots f (st a) → Run P b k f w E) → Run P b (i :: k) F w E):Run P b (i :: k) F w E :=
  h1 fun a f w hs hJ hk hsl=>by
    have:=h2 a f w hs hJ
    rw [zcJ hk] at this
    rwa [zcJ hsl] at this
theorem za7 {α:Type} {P:Program} {b:Base} {k:List Item} {E:Frame → World → Prop} {w0:World} {M:Nat → Prop} {L2 D:List Res} {F:Nat → Value} {w:World} (kv:List (Nat × Value)) (hkv:Slots F kv) (st:α → List (Nat × Value)) (Lm:α → List Res) (J:α → Prop) (μ:α → Nat) (a0:α)
    (V:St w0 M (Lm a0 ++ L2) D w) (hJ:J a0) (hf:Slots F (st a0))
    (h:∀ (a:α) (f:Nat → Value) (w:World),St w0 M (Lm a ++ L2) D w → J a →
      (∀ (a':α) (f':Nat → Value) (w':World),μ a' < μ a → St w0 M (Lm a' ++ L2) D w' → J a' → Slots f' kv → Slots f' (st a') → Run P b k f' w' E) → Run P b k (sts (st a) (sts kv f)) w E):Run P b k F w E :=
  zt3 (fun a=>st a ++ kv) [] (fun a w=>St w0 M (Lm a ++ L2) D w ∧ J a) μ a0 ⟨V,hJ⟩ (hf.app hkv) trivial fun a f w _ hI ih=>by
    rw [zti]
    exact h a f w hI.1 hI.2 fun a' f' w' hlt hs hJ' hk hsl=>ih a' f' w' hlt ⟨hs,hJ'⟩ trivial (hsl.app hk)
theorem zpS {α:Type} {g:α → List Value} (hg:∀ a,(g a).all zdH = true):∀ l:List α,(l.flatMap g).all zdH = true
  | []=>rfl
  | a :: l=>by rw [List.flatMap_cons,List.all_append,hg a,zpS hg l]; rfl
theorem zal {P:Program} {b:Base} {k:List Item} {E:Frame → World → Prop} {f:Nat → Value} {w:World} (kv:List (Nat × Value)) (hkv:Slots f kv) (h:∀ f',Run P b k (sts kv f') w E):Run P b k f w E:=by
  have:=h f
  rwa [zcJ hkv] at this
abbrev Res.iter (b:Nat) (s:List UInt8) (pos:Nat):Res:=Res.obj b (.stringIter ⟨s.toArray⟩ pos)
theorem znG {P:Program} {w:World} {o:Obj}:(newObj o).run P w = .ok w.heap.size (w.alloc o):=by
  simp [newObj,Sem.run]
theorem zkE {s:List UInt8} {i:Nat} {c:UInt8} (h:s[i]? = some c) (hc:c.toNat < 128):Utf8.decode ⟨s.toArray⟩ i = (c.toNat,1):=by
  obtain ⟨hi,rfl⟩:=List.getElem?_eq_some_iff.1 h
  have hg:(ByteArray.mk s.toArray).get! (i + 0) = s[i]:=by
    show s.toArray[i + 0]! = s[i]
    simp [hi]
  unfold Utf8.decode
  simp only [hg]
  rw [if_pos hc]
section
variable {P:Program} {ty:TypeId} {ρ:Operand → Value} {w0 w:World} {C:Value → World → Prop} {M:Nat → Prop} {L L' D:List Res}
variable {T:TypeId} {d:TypeDesc} {sz bytes:Nat} {zs:List Value}
theorem ze2 {x:Operand} {s:List UInt8} (V:St w0 M L D w) (hT:TyF P T .string sz bytes zs) (hx:ρ x = str s)
    (h:∀ (w':World) (b:Nat),St w0 M (Res.iter b s 0 :: L) D w' → C (.pointer (some ⟨b,0,none⟩)) w'):Op1 P (.range T x) ty ρ w C:=by
  refine Inv.value (v:=.pointer (some ⟨w.heap.size,0,none⟩)) (w':=w.alloc (.stringIter ⟨s.toArray⟩ 0)) ?_ (h _ _ ?_)
  · simp [execOp,Instr.range,hx,str,Sem.run_bind,hT.run_und,znG,Result.andThen]
  · refine V.push (Kept.alloc _ _ _) ?_ ?_
    · simp only [Res.obj]; rw [zde]
    · intro b hb; exact Nat.le_of_eq hb.symm
theorem zga {x:Operand} {b i:Nat} {s:List UInt8} {c:UInt8} (V:St w0 M L D w) (hx:ρ x = .pointer (some ⟨b,0,none⟩)) (hs:Sel (Res.iter b s i) (Res.iter b s (i + 1)) L L')
    (hi:s[i]? = some c) (hc:c.toNat < 128) (h:∀ w':World,St w0 M L' D w' → C (.tuple #[.bool true,.int .i64 i,.int .i32 c.toNat]) w'):Op1 P (.next x true) ty ρ w C:=by
  have hh:=V.hL _ hs.mem
  simp only [Res.obj] at hh
  have hlt:i < s.length:=(List.getElem?_eq_some_iff.1 hi).1
  have hz:(ByteArray.mk s.toArray).size = s.length:=by simp [ByteArray.size]
  refine Inv.value (v:=.tuple #[.bool true,.int .i64 i,.int .i32 c.toNat]) (w':={ w with heap:=w.heap.setIfInBounds b (.stringIter ⟨s.toArray⟩ (i + 1)) }) ?_ (h _ (V.upd hs (Kept.put _ _ _) (by simpa [Res.obj] using zc2 hh) (fun b hb=>.inl hb)))
  have hset:∀ o',(setObj b o').run P w = .ok () { w with heap:=w.heap.setIfInBounds b o' }:=fun o'=>zc1 hh (by simp)
  simp only [execOp,hx,Instr.next,Sem.run_bind,zeX hh (by simp),Result.andThen,hz,hlt,if_true,zkE hi hc,hset]
  rfl
theorem zgb {x:Operand} {b i:Nat} {s:List UInt8} (V:St w0 M L D w) (hx:ρ x = .pointer (some ⟨b,0,none⟩)) (hm:Res.iter b s i ∈ L) (hi:s.length ≤ i) (h:C (.tuple #[.bool false]) w):Op1 P (.next x true) ty ρ w C:=by
  have hh:=V.hL _ hm
  simp only [Res.obj] at hh
  have hz:(ByteArray.mk s.toArray).size = s.length:=by simp [ByteArray.size]
  have hn:¬ i < s.length:=by omega
  refine Inv.value (v:=.tuple #[.bool false]) (w':=w) ?_ h
  simp only [execOp,hx,Instr.next,Sem.run_bind,zeX hh (by simp),Result.andThen,hz,hn,if_false]
  rfl
theorem zkB {n:Int} (h0:0 ≤ n) (h1:n < 128):Utf8.encode n = ⟨[UInt8.ofNat n.toNat].toArray⟩:=by
  have hv:Utf8.valid n = true:=by unfold Utf8.valid; simp; omega
  unfold Utf8.encode
  simp only [hv,if_true]
  rw [if_pos (by omega)]
theorem zh1 {S D':TypeId} {k:IntKind} {x:Operand} {n:Int} {sz' bytes':Nat} {zs':List Value} (hS:TyF P S (.int k) sz bytes zs) (hD:TyF P D' .string sz' bytes' zs') (hx:ρ x = .int k n) (h0:0 ≤ n) (h1:n < 128)
    (h:C (str [UInt8.ofNat n.toNat]) w):Op1 P (.convert S D' x) ty ρ w C:=by
  refine Inv.value (v:=str [UInt8.ofNat n.toNat]) (w':=w) ?_ h
  simp only [execOp,hx,convert,Sem.run_bind,hS.run_und,hD.run_und,Result.andThen]
  simp [Conv.intToString,zkB h0 h1,str]
end
section
variable {P:Program} {ty:TypeId} {ρ:Operand → Value} {w:World} {C:Value → World → Prop} {g:FuncId} {tys:Array TypeId}
theorem zqN {a1 a2 a3 a4 a5 a6 a7 a8:Operand} {v1 v2 v3 v4 v5 v6 v7 v8:Value} (hg:zaJ P g) (hf:ρ (.func g) = .func (.func g) #[] #[]) (h1:ρ a1 = v1) (h2:ρ a2 = v2) (h3:ρ a3 = v3) (h4:ρ a4 = v4) (h5:ρ a5 = v5) (h6:ρ a6 = v6) (h7:ρ a7 = v7) (h8:ρ a8 = v8) (hc:Ret P g #[v1,v2,v3,v4,v5,v6,v7,v8] w C):Op1 P (.call ⟨.value (.func g),#[a1,a2,a3,a4,a5,a6,a7,a8],tys⟩) ty ρ w C :=
  zdh (args:=[a1,a2,a3,a4,a5,a6,a7,a8]) (vs:=[v1,v2,v3,v4,v5,v6,v7,v8]) hg hf (by simp [h1,h2,h3,h4,h5,h6,h7,h8]) hc
theorem zcH {first args cap:List Value} (hg:zaJ P g) (hc:Ret P g (first ++ args ++ cap).toArray w C):CallV P (.func (.func g) first.toArray cap.toArray) args w C:=by
  obtain ⟨fn,c,h1,h2,h3⟩:=hg
  have h2' : fn.name ≠ "runtime.NumGoroutine" := by simpa using h2
  refine Inv.enter (g:=g) (args:=(first ++ args ++ cap).toArray) (w':=w) ?_ hc
  simp [Deferred.ofValue,invoke,callFunc,Sem.run_bind,program,Sem.run,h1,h2',h3,Result.andThen]
end
open Go.ChangeShapes Go.WideShapes Go.ChangeAt
theorem zd9 {α:Type} {g:α → List Value} {es:Nat} (hg:∀ a,(g a).length = es):∀ l:List α,(l.flatMap g).length = l.length * es
  | []=>by simp
  | a :: l=>by rw [List.flatMap_cons,List.length_append,hg,zd9 hg l,List.length_cons,Nat.add_mul]; omega
theorem zdV {ez:List Value} {es:Nat} (h:ez.length = es) (k:Nat):(zcq ez k).length = k * es:=by
  unfold zcq; rw [zd9 (es:=es) (fun _=>h)]; simp
def Res.rs (ao:Option Addr) (n es:Nat) (xs:List Value):Res where
  foot:=fun b=>0 < xs.length ∧ ∃ o,ao = some ⟨b,o,none⟩
  holds:=fun w=>xs.length = n * es ∧ (n = 0 ∨ ∃ b o,ao = some ⟨b,o,none⟩ ∧ zh2 w b o xs)
  stable:=fun w w' h hh=>by
    refine ⟨hh.1,?_⟩
    rcases hh.2 with hn | ⟨b,o,rfl,hc⟩
    · exact .inl hn
    · refine .inr ⟨b, o, rfl, fun i v hi => ?_⟩
      have h0:0 < xs.length:=by have:=(List.getElem?_eq_some_iff.1 hi).1; omega
      have hb:=h b ⟨h0,o,rfl⟩
      have:=hc i v hi
      simpa only [World.cell?,hb] using this
  inb:=fun w hh b hb=>by
    obtain ⟨h0,o,rfl⟩:=hb
    rcases hh.2 with hn | ⟨b',o',he,hc⟩
    · rw [hh.1,hn] at h0; omega
    · cases he
      have:=hc 0 xs[0] (by simp [h0])
      simp only [World.cell?] at this
      split at this
      · rename_i heq; exact (Array.getElem?_eq_some_iff.1 heq).1
      · cases this
section
variable {ao:Option Addr} {n cap es:Nat} {e:TypeId} {xs:List Value} {w:World}
theorem Res.rs_of_sl (h:(Res.sl ao n cap e es xs).holds w):(Res.rs ao n es xs).holds w:=by
  refine ⟨h.1,?_⟩
  rcases h.2 with ⟨hv,h0⟩ | ⟨g,c,cur,hv,_⟩
  · exact .inl h0
  · cases hv
    exact .inr ⟨g,0,rfl,Res.sl_cells (k:=xs.length) h xs (by simp)⟩
theorem Res.rs_some (h:(Res.rs ao n es xs).holds w) (hn:0 < n):∃ b o,ao = some ⟨b,o,none⟩:=by
  rcases h.2 with h0 | ⟨b,o,rfl,_⟩
  · omega
  · exact ⟨b,o,rfl⟩
theorem Res.rs_all {b o:Nat} (h:(Res.rs (some ⟨b,o,none⟩) n es xs).holds w):zh2 w b o xs:=by
  rcases h.2 with h0 | ⟨b',o',he,hc⟩
  · have : xs = [] := List.length_eq_zero_iff.1 (by rw [h.1, h0]; simp)
    subst this
    intro i v hi; simp at hi
  · cases he; exact hc
theorem Res.rs_cell {b o k:Nat} {v:Value} (h:(Res.rs (some ⟨b,o,none⟩) n es xs).holds w) (hv:xs[0 + k]? = some v):w.cell? ⟨b,o + k,none⟩ = some v:=by
  rw [Nat.zero_add] at hv; exact Res.rs_all h k v hv
end
section
variable {P:Program} {ty:TypeId} {ρ:Operand → Value} {w0 w:World} {C:Value → World → Prop} {M:Nat → Prop} {L L' D:List Res}
variable {T e:TypeId} {de:TypeDesc} {sz bytes es eb:Nat} {zs ez:List Value} {ao ao2:Option Addr} {n cap m c:Nat} {xs ys:List Value}
theorem zil {x y:Operand} (V:St w0 M L D w) (hT:TyF P T (.slice e) sz bytes zs) (he:TyF P e de es eb ez)
    (hr:Rem (Res.sl ao n cap e es xs) L L') (hx:ρ x = .slice ao n cap) (hy:ρ y = .slice ao2 0 c)
    (h:St w0 M (Res.sl ao n cap e es xs :: L') D w → C (.slice ao n cap) w):Op1 P (.call ⟨.builtin .append,#[x,y],#[T,T]⟩) ty ρ w C:=by
  have hown:w.ownsRow 0 e es (.slice ao n cap) n xs:=V.hL _ hr.mem
  have hcap:n ≤ cap:=by
    rcases hown.2 with ⟨hv,h0⟩ | ⟨g,cc,cur,hv,hb0,hg,hnc,hrest⟩
    · cases hv; omega
    · cases hv; exact hnc
  refine zef (args:=[x,y]) (v:=.slice ao n cap) (w':=w) (fun cs=>?_) (h (V.front hr))
  simp only [List.map_cons,List.map_nil,hx,hy]
  cases ao <;> cases ao2 <;> simp [Go.builtin,Builtin.append_,Sem.run_bind,hT.run_und,he.run_size,Result.andThen,Builtin.lenOf,Builtin.firstCells,hcap,storeCells,loadCells,loadCellsFrom]
theorem zk5 {x y:Operand} (V:St w0 M L D w) (hT:TyF P T (.slice e) sz bytes zs) (he:TyF P e de es eb ez) (hes:Nat.ble 1 es = true) (hebs:Nat.ble 1 eb = true)
    (hr:Rem (Res.sl ao n cap e es xs) L L') (hx:ρ x = .slice ao n cap) (hy:ρ y = .slice ao2 m c) (hown:(Res.rs ao2 m es ys).holds w) (hok:ys.all zdH = true)
    (hez:ez.length = es) (hb:(n + m) * eb ≤ 140737488355328)
    (h:∀ (w':World) (ao':Option Addr) (cap':Nat),St w0 M (Res.sl ao' (n + m) cap' e es (xs ++ ys) :: L') D w' → C (.slice ao' (n + m) cap') w') :
    Op1 P (.call ⟨.builtin .append,#[x,y],#[T,T]⟩) ty ρ w C:=by
  have hl:ys.length = m * es:=hown.1
  by_cases hm:m = 0
  · subst hm
    have:ys = []:=List.length_eq_zero_iff.1 O
    subst this
    exact zil V hT he hr hx hy fun hs=>by
      have:=h w ao cap (by simpa using hs)
      simpa using this
  · obtain ⟨b, o, rfl⟩ := Res.rs_some hown O
    exact zaO V hT he hes hebs hr hx hy hl (Res.rs_all hown) hok hez hb h
theorem zfu {x y:Operand} {kl kc:IntKind} {k:Nat} (V:St w0 M L D w) (hT:TyF P T (.slice e) sz bytes zs) (he:TyF P e de es eb ez) (hx:ρ x = .int kl k) (hy:ρ y = .int kc k) (hez:ez.length = es) (hes:0 < es) (hk:eb * k ≤ 281474976710656) (hk2:k ≤ 9223372036854775807)
    (h:∀ (w':World) (b:Nat),St w0 M (Res.sl (some ⟨b,0,none⟩) k k e es (zcq ez k) :: L) D w' → C (.slice (some ⟨b,0,none⟩) k k) w'):Op1 P (.makeSlice T x y) ty ρ w C:=by
  obtain ⟨i,z,h1,h2,h3,h4,h5⟩:=he.info
  have hbb:(i.bytes:Int) * (k:Int) ≤ 281474976710656:=by
    rw [h3]
    have h:((eb * k:Nat):Int) ≤ 281474976710656:=by omega
    simpa using h
  have hr:=run_make (P:=P) w T e i z hT.und h1 h4 kl kc (k:Int) (k:Int) O O hbb O
  have hcells:madeCells z.cells ((k:Int).toNat * i.size) = (zcq ez k).toArray:=by
    rw [h2,h5,Int.toNat_natCast]
    have hlen:=zdV hez k
    apply Array.ext
    · simp [madeCells,hlen]
    · intro j hj1 hj2
      have hj:j < k * es:=by simpa [madeCells] using hj1
      have hmod:j % es < es:=Nat.mod_lt _ hes
      have hdiv:j / es < k:=Nat.div_lt_of_lt_mul (by rw [Nat.mul_comm]; exact hj)
      have hg:(zcq ez k)[j]? = ez[j % es]?:=by
        have h3:=zf0 (α:=Nat) (g:=fun _=>ez) (es:=es) (fun _=>hez) (List.range k) (j / es)
        have h4:((zcq ez k).drop (j / es * es))[j % es]? = ez[j % es]?:=by
          unfold zcq
          rw [h3,List.drop_eq_getElem_cons (by simpa using hdiv),List.flatMap_cons,List.getElem?_append_left (by omega)]
        rw [List.getElem?_drop,show j / es * es + j % es = j by rw [Nat.mul_comm]; exact Nat.div_add_mod j es] at h4
        exact h4
      have hlt:j < (zcq ez k).length:=by omega
      have h6:(zcq ez k)[j] = ez[j % es]'(by omega):=by
        have e1:=List.getElem?_eq_getElem hlt
        rw [hg,List.getElem?_eq_getElem (by omega)] at e1
        exact (Option.some.inj e1).symm
      have h7:ez[j % es]? = some (ez[j % es]'(by omega)):=List.getElem?_eq_getElem _
      simp [madeCells,hez,h6,h7]
  refine Inv.value (v:=.slice (some ⟨w.heap.size,0,none⟩) k k) (w':=w.alloc (.cells (zcq ez k).toArray e)) ?_ (h _ _ ?_)
  · simp only [execOp, hx, hy, Sem.run_bind, hr, Result.andThen, hcells]
    rfl
  · refine V.push (Kept.alloc _ _ _) ?_ ?_
    · refine ⟨zdV hez k, .inr ⟨_, _, _, rfl, Nat.zero_le _, zde _ _, Nat.le_refl _, by simp [maxLen]; omega, by simp [zdV hez k], ?_⟩⟩
      simp only [List.toList_toArray]
      rw [List.take_of_length_le]
      rw [zdV hez k]; exact Nat.le_refl _
    · intro b hb
      have:some w.heap.size = some b:=hb
      cases this; exact Nat.le_refl _
end
theorem zj3 {H:Type} {enc:TypeId × Value → H} {P:Program} {w:World} {base:Nat} {spare:Nat → Bool} {held:Bool} {α:Type} {g:α → List Value} {good:α → Prop} {rel:α → DataW H → Prop} {t e:TypeId} {es:Nat} {v:Value} {d:DataW H} {p:List MemPlace}
    (ht:P.underlying t = some (.slice e)) (hc:P.cellsOf e = es) (hes:0 < es) (hg:∀ a,(g a).length = es)
    (hel:∀ fuel cs y,DataW.trod enc P w base spare held fuel e cs = some y → ∃ a,cs = g a ∧ good a ∧ rel a y.1)
    (h:DataW.Trod enc P w base spare held t v d p) (hv:v.cells.toList = [v]) :
    ∃ (ao : Option Addr) (cap : Nat) (l : List α), v = .slice ao l.length cap ∧ l.length ≤ maxLen ∧ (∀ a ∈ l, good a) ∧ (Res.rs ao l.length es (l.flatMap g)).holds w ∧
      ((d = .nil ∧ l = []) ∨ ∃ elems sp,d = .slice elems sp ∧ elems.length = l.length ∧ ∀ (i:Nat) (a:α) (y:DataW H),l[i]? = some a → elems[i]? = some y → rel a y):=by
  obtain ⟨fuel,hf⟩:=h
  rw [hv] at hf
  rcases DataW.trod_slice ht hf with ⟨h0,hx⟩ | ⟨a,len,cap,elems,rest,n,_,hcs,hx,hb,hl,hm,hlen,hel2,_⟩
  · simp only [List.cons.injEq, and_true] at h0
    subst h0
    refine ⟨none,0,[],rfl,Nat.zero_le _,by simp,⟨by simp,.inl rfl⟩,.inl ⟨?_,rfl⟩⟩
    exact congrArg Prod.fst hx
  · simp only [List.cons.injEq, and_true] at hcs
    subst hcs
    have each:∀ i:Nat,i < len → ∃ x y,elems[i]? = some y ∧ w.cells? base (a.add (i * es)) es = some (g x) ∧ good x ∧ rel x y.1:=fun i hi=>by
      have h1:=hel2 i hi
      rw [hc] at h1
      have hy:elems[i]? = some (elems[i]'(by omega)):=List.getElem?_eq_getElem _
      rw [hy,Option.bind_eq_some_iff] at h1
      obtain ⟨cs,h2,h3⟩:=h1
      obtain ⟨x,rfl,h4,h5⟩:=hel _ _ _ h3
      exact ⟨x,_,hy,h2,h4,h5⟩
    have build:∀ k,k ≤ len → ∃ l:List α,l.length = k ∧ ∀ i x,l[i]? = some x → ∃ y,elems[i]? = some y ∧ w.cells? base (a.add (i * es)) es = some (g x) ∧ good x ∧ rel x y.1:=by
      intro k
      induction k with
      | zero=>exact fun _=>⟨[],rfl,fun i x hi=>by simp at hi⟩
      | succ k ih =>
        intro hk
        obtain ⟨l,h1,h2⟩:=ih O
        obtain ⟨x,y,h3⟩:=each k O
        refine ⟨l ++ [x],by simp [h1],fun i z hi=>?_⟩
        by_cases hik:i < k
        · rw [List.getElem?_append_left (by omega)] at hi; exact h2 i z hi
        · have : i = k := by have := (List.getElem?_eq_some_iff.1 hi).1; simp [h1] at this; omega
          subst this
          rw [List.getElem?_append_right (by omega),h1,Nat.sub_self] at hi
          simp at hi
          subst hi
          exact ⟨y,h3⟩
    obtain ⟨l,h1,h2⟩:=build len (Nat.le_refl _)
    subst h1
    refine ⟨some a,cap,l,rfl,Nat.le_trans hl hm,fun x hx=>?_,⟨zd9 hg l,?_⟩,.inr ⟨_,_,congrArg Prod.fst hx,by simpa using hlen,fun i x y hx hy=>?_⟩⟩
    · obtain ⟨i, hi⟩ := List.getElem?_of_mem hx
      obtain ⟨y,_,_,h3,_⟩:=h2 i x hi
      exact h3
    · by_cases h0 : l.length = 0
      · exact .inl h0
      · right
        have hcell:∀ (j:Nat) u,(l.flatMap g)[j]? = some u → w.cell? (a.add j) = some u:=fun j u hj=>by
          have hjl:j < l.length * es:=by have:=(List.getElem?_eq_some_iff.1 hj).1; rwa [zd9 hg] at this
          have hdiv:j / es < l.length:=Nat.div_lt_of_lt_mul (by rw [Nat.mul_comm]; exact hjl)
          have hmod:j % es < es:=Nat.mod_lt _ hes
          obtain ⟨y,_,h4,_⟩:=h2 (j / es) l[j / es] (List.getElem?_eq_getElem hdiv)
          have h5:=(World.cells?_some h4).2.2 (j % es) hmod
          have h6:(g l[j / es])[j % es]? = some u:=by
            have hs:=zf0 hg l (j / es)
            have:((l.flatMap g).drop (j / es * es))[j % es]? = some u:=by
              rw [List.getElem?_drop]
              rw [show j / es * es + j % es = j by rw [Nat.mul_comm]; exact Nat.div_add_mod j es]
              exact hj
            rw [hs,List.drop_eq_getElem_cons hdiv,List.flatMap_cons,List.getElem?_append_left (by rw [hg]; exact hmod)] at this
            exact this
          rw [h6] at h5
          have hadd:(a.add (j / es * es)).add (j % es) = a.add j:=by
            have hje:j / es * es + j % es = j:=by rw [Nat.mul_comm]; exact Nat.div_add_mod j es
            unfold Addr.add
            by_cases e1:j / es * es = 0
            · rw [if_pos e1,show j % es = j by omega]
            · rw [if_neg e1]
              by_cases e2:j % es = 0
              · rw [if_pos e2,if_neg (by omega),show j / es * es = j by omega]
              · rw [if_neg e2, if_neg (by omega)]
                simp only [Addr.mk.injEq,and_true,true_and]
                omega
          rw [hadd] at h5
          exact h5
        have hpos:0 < (l.flatMap g).length:=by
          rw [zd9 hg]
          exact Nat.mul_pos O hes
        have hspot:a.spot = none:=by
          have:=hcell 0 _ (List.getElem?_eq_getElem hpos)
          rw [show a.add 0 = a from rfl] at this
          simp only [World.cell?] at this
          split at this
          · split at this
            · cases this
            · rename_i hs; simpa using hs
          · cases this
        obtain ⟨b,o,sp⟩:=a
        simp only at hspot
        subst hspot
        refine ⟨b,o,rfl,fun j u hj=>?_⟩
        have:=hcell j u hj
        rwa [zcL] at this
    · obtain ⟨y', h3, _, _, h4⟩ := h2 i x hx
      rw [List.getElem?_map,h3] at hy
      simp at hy
      subst hy
      exact h4
end Go.SK
namespace Go.SK
open Go.RowKit
def Rb:Option Addr → Nat
  | some a=>a.block
  | none=>0
def Ro:Option Addr → Nat
  | some a=>a.off
  | none=>0
section
variable {ao:Option Addr} {n es:Nat} {xs:List Value} {w:World}
theorem Res.rs_all2 (h:(Res.rs ao n es xs).holds w):zh2 w (Rb ao) (Ro ao) xs:=by
  rcases h.2 with h0 | ⟨b,o,rfl,hc⟩
  · have : xs = [] := List.length_eq_zero_iff.1 (by rw [h.1, h0]; simp)
    subst this
    intro i v hi; simp at hi
  · exact hc
theorem Res.rs2_cell {k:Nat} {v:Value} (h:(Res.rs ao n es xs).holds w) (hv:xs[0 + k]? = some v):w.cell? ⟨Rb ao,Ro ao + k,none⟩ = some v:=by
  rw [Nat.zero_add] at hv; exact Res.rs_all2 h k v hv
theorem Res.rs2_cells {k m:Nat} (h:(Res.rs ao n es xs).holds w) (vs:List Value) (hv:(xs.drop (0 + k)).take m = vs):zh2 w (Rb ao) (Ro ao + k) vs:=by
  subst hv
  intro i v hi
  rw [List.getElem?_take] at hi
  split at hi
  · rw [List.getElem?_drop, Nat.zero_add] at hi
    have:=Res.rs_all2 h _ _ hi
    rwa [← Nat.add_assoc] at this
  · simp at hi
end
section
variable {P:Program} {ty:TypeId} {ρ:Operand → Value} {w:World} {C:Value → World → Prop} {T e:TypeId} {de:TypeDesc} {sz bytes es eb:Nat} {zs ez xs:List Value} {ao:Option Addr} {n c:Nat}
theorem zbe {x y:Operand} {k:IntKind} {i:Int} (hT:TyF P T (.slice e) sz bytes zs) (he:TyF P e de es eb ez) (hr:(Res.rs ao n es xs).holds w)
    (hx:ρ x = .slice ao n c) (hy:ρ y = .int k i) (h0:0 ≤ i) (h1:i < n) (h:C (.pointer (some ⟨Rb ao,Ro ao + i.toNat * es,none⟩)) w):Op1 P (.indexAddr T x y) ty ρ w C:=by
  obtain ⟨b,o,rfl⟩:=Res.rs_some hr O
  exact zbb hT he hx hy h0 h1 h
end
open Go.ChangeShapes Go.WideShapes Go.ChangeAt
abbrev byC (c:UInt8):List Value:=[.int .u8 (c.toNat:Int)]
theorem zjw (c:UInt8):(byC c).length = 1:=rfl
abbrev zir (x:Int):List Value:=[.int .u32 x]
theorem zme (x:Int):(zir x).length = 1:=rfl
theorem zha:∀ l:List UInt8,l.flatMap byC = l.map fun c=>Value.int .u8 (c.toNat:Int)
  | []=>rfl
  | c :: l=>by rw [List.flatMap_cons,zha l]; rfl
section
variable {P:Program} {ty:TypeId} {ρ:Operand → Value} {w0 w:World} {C:Value → World → Prop} {M:Nat → Prop} {L L' D:List Res}
variable {T T2 e:TypeId} {de:TypeDesc} {sz bytes es eb:Nat} {zs ez:List Value} {ao:Option Addr} {n cap:Nat} {xs:List Value}
theorem zt5 {x y:Operand} {k:IntKind} {a b:Int} {m1 m2:Nat} {c:Int} (hx:ρ x = .int k a) (hy:ρ y = .int k b) (ha:a = (m1:Int)) (hb:b = (m2:Int)) (h1:m1 < 2 ^ k.bits) (h2:m2 < 2 ^ k.bits) (hc:((m1 ||| m2:Nat):Int) = c) (hw:k.wrap c = c) (h:C (.int k c) w):Op1 P (.binOp .or T x y T2) ty ρ w C:=by
  refine zsv (v:=.int k c) hx hy rfl ?_ h
  subst ha; subst hb; subst hc
  have e1:(BitVec.ofInt k.bits (m1:Int)).toNat = m1:=by
    rw [BitVec.toNat_ofInt]; rw [← Int.natCast_emod,Int.toNat_natCast]; exact Nat.mod_eq_of_lt h1
  have e2:(BitVec.ofInt k.bits (m2:Int)).toNat = m2:=by
    rw [BitVec.toNat_ofInt]; rw [← Int.natCast_emod,Int.toNat_natCast]; exact Nat.mod_eq_of_lt h2
  simp only [Op.intBits,BitVec.toNat_or,e1,e2,hw]
  rfl
theorem or_low (a b i:Nat) (hb:b < 2 ^ i):a * 2 ^ i ||| b = a * 2 ^ i + b:=by
  rw [Nat.mul_comm]; exact (Nat.two_pow_add_eq_or_of_lt hb a).symm
variable {k k2 k3:IntKind} {x y z u:Operand} {lo hi mx:Int}
theorem zk4 {S:TypeId} {l:List UInt8} {sz2 b2:Nat} {z2:List Value} (hT:TyF P T (.slice e) sz bytes zs) (he:TyF P e (.int .u8) es eb ez) (hS:TyF P S .string sz2 b2 z2) (hx:ρ x = .slice ao l.length cap) (hr:(Res.rs ao l.length 1 (l.flatMap byC)).holds w)
    (h:C (str l) w):Op1 P (.convert T S x) ty ρ w C:=by
  refine Inv.value (v:=str l) (w':=w) ?_ h
  simp only [execOp,hx,Sem.run_bind]
  have goal:(convert T S (.slice ao l.length cap)).run P w = .ok (str l) w:=by
    rcases hr.2 with h0 | ⟨b,o,rfl,hc⟩
    · have hl : l = [] := List.length_eq_zero_iff.1 h0
      subst hl
      rw [run_convert_bytes_string w T S e _ _ _ hT.und he.und hS.und]
      cases ao with
      | none=>rfl
      | some a=>simp [Conv.bytesToString,loadCells,loadCellsFrom,str,ByteArray.empty,ByteArray.emptyWithCapacity]; rfl
    · rw [run_convert_bytes_arg w T e hT.und he.und b o l.length cap (l.map fun c => (c.toNat : Int)) (by simp) (fun i hi => ?_) S hS.und]
      · have e:(l.map fun c=>(c.toNat:Int)).map (fun n=>UInt8.ofNat n.toNat) = l:=by
          rw [List.map_map]; exact (List.map_congr_left (fun c _=>by simp)).trans (List.map_id l)
        simp only [strOfNums,e,str]
      · have:=hc i (.int .u8 (l[i].toNat:Int)) (by
          rw [zha]; simp [hi])
        rw [this]; simp [List.getD,hi]
  rw [goal]; rfl
end
end Go.SK
namespace Go.SK
theorem zoL (c:UInt8):IntKind.u32.wrap (c.toNat:Int) = c.toNat:=by have:=c.toNat_lt; exact wrap_u32 O O
theorem zcZ {P:Program} {ty:TypeId} {ρ:Operand → Value} {w:World} {C:Value → World → Prop} {T e S:TypeId} {l:List UInt8} {ao:Option Addr} {cap n:Nat} {xs:List Value} {x:Operand} {sz bytes es eb sz2 b2:Nat} {zs ez z2:List Value} (hT:TyF P T (.slice e) sz bytes zs) (he:TyF P e (.int .u8) es eb ez) (hS:TyF P S .string sz2 b2 z2) (hx:ρ x = .slice ao n cap) (hn:n = l.length) (hr:(Res.rs ao n 1 xs).holds w) (hxs:xs = l.flatMap byC)
    (h:C (str l) w):Op1 P (.convert T S x) ty ρ w C:=by
  subst hn; subst hxs; exact zk4 hT he hS hx hr h
open Go.RowKit Go.ChangeShapes Go.WideShapes Go.ChangeAt
structure ArgP where
  kind:Int
  n:Int
  s:List UInt8
  deriving DecidableEq
abbrev zgN (a:ArgP):List Value:=[.int .u8 a.kind,.int .u32 a.n,str a.s]
theorem zdv (a:ArgP):(zgN a).length = 3:=rfl
def zeroA:ArgP:=⟨0,0,[]⟩
structure InstP where
  op:Int
  ty:Int
  res:Int
  ao:Option Addr
  cap:Nat
  args:List ArgP
abbrev zdP (i:InstP):List Value:=[.int .u16 i.op,.int .u32 i.ty,.int .u32 i.res,.slice i.ao i.args.length i.cap]
theorem zcP (i:InstP):(zdP i).length = 4:=rfl
def zeroI:InstP:=⟨0,0,0,none,0,[]⟩
structure InstL where
  op:Int
  ty:Int
  res:Int
  args:List ArgP
  deriving DecidableEq
abbrev InstP.L (i:InstP):InstL:=⟨i.op,i.ty,i.res,i.args⟩
def Res.all (L:List Res):Res where
  foot:=fun b=>∃ r ∈ L,r.foot b
  holds:=fun w=>∀ r ∈ L,r.holds w
  stable:=fun w w' h hh r hr=>r.stable w w' (fun b hb=>h b ⟨r,hr,hb⟩) (hh r hr)
  inb:=fun w hh b ⟨r,hr,hb⟩=>r.inb w (hh r hr) b hb
abbrev Res.rargs (i:InstP):Res:=Res.rs i.ao i.args.length 3 (i.args.flatMap zgN)
abbrev Res.rmod (ao:Option Addr) (l:List InstP):Res:=Res.all (Res.rs ao l.length 4 (l.flatMap zdP) :: l.map Res.rargs)
theorem Res.rmod_insts {ao:Option Addr} {l:List InstP} {w:World} (h:(Res.rmod ao l).holds w):(Res.rs ao l.length 4 (l.flatMap zdP)).holds w:=h _ (.head _)
theorem Res.rmod_args {ao:Option Addr} {l:List InstP} {w:World} (h:(Res.rmod ao l).holds w) {i:InstP} (hi:i ∈ l):(Res.rargs i).holds w:=h _ (.tail _ (List.mem_map_of_mem hi))
theorem zci {α:Type} {l:List α} {i:Nat} {d:α} (hi:i < l.length):l.getD i d ∈ l:=by
  simp only [List.getD,List.getElem?_eq_getElem hi,Option.getD_some]; exact List.getElem_mem hi
theorem Res.rmod_argsI {ao:Option Addr} {l:List InstP} {w:World} (h:(Res.rmod ao l).holds w) {i:Nat} (hi:i < l.length):(Res.rargs (l.getD i zeroI)).holds w:=Res.rmod_args h (zci hi)
abbrev Res.oargs (Ta:TypeId) (i:InstP):Res:=Res.sl i.ao i.args.length i.cap Ta 3 (i.args.flatMap zgN)
abbrev Res.omod (Ti Ta:TypeId) (ao:Option Addr) (cap:Nat) (l:List InstP):Res:=Res.star (Res.sl ao l.length cap Ti 4 (l.flatMap zdP) :: l.map (Res.oargs Ta))
theorem Res.rmod_of_omod {Ti Ta:TypeId} {ao:Option Addr} {cap:Nat} {l:List InstP} {w:World} (h:(Res.omod Ti Ta ao cap l).holds w):(Res.rmod ao l).holds w:=by
  intro r hr
  cases hr with
  | head=>exact Res.rs_of_sl (h.1 _ (.head _))
  | tail _ hr =>
    obtain ⟨i,hi,rfl⟩:=List.mem_map.1 hr
    exact Res.rs_of_sl (h.1 (Res.oargs Ta i) (.tail _ (List.mem_map_of_mem hi)))
theorem St.starSnoc {w0 w:World} {M:Nat → Prop} {X L D:List Res} {r:Res} (h:St w0 M (r :: Res.star X :: L) D w):St w0 M (Res.star (X ++ [r]) :: L) D w:=by
  have h1:St w0 M (Res.star X :: r :: L) D w:=h.perm (List.Perm.swap _ _ _)
  have h2:=h1.unpack
  refine St.pack (L1:=X ++ [r]) ?_
  rw [List.append_assoc]; exact h2
theorem St.starNil {w0 w:World} {M:Nat → Prop} {L D:List Res} (h:St w0 M L D w):St w0 M (Res.star [] :: L) D w:=St.pack (L1:=[]) (by simpa using h)
theorem St.starCons {w0 w:World} {M:Nat → Prop} {X L D:List Res} {r:Res} (h:St w0 M (r :: Res.star X :: L) D w):St w0 M (Res.star (r :: X) :: L) D w:=by
  have h1:St w0 M (Res.star X :: r :: L) D w:=h.perm (List.Perm.swap _ _ _)
  have h2:St w0 M ((X ++ [r]) ++ L) D w:=by rw [List.append_assoc]; exact h1.unpack
  refine St.pack (L1:=r :: X) ?_
  exact h2.perm (List.Perm.append_right L (List.perm_append_comm.trans (List.Perm.refl _)))
theorem ziu (l m:List Value):∀ (vs:List Value) (i:Nat),zbH (l ++ m) (l.length + i) vs = l ++ zbH m i vs
  | [],i=>rfl
  | v :: vs, i => by
    simp only [zbH]
    rw [List.set_append_right _ _ (by omega),show l.length + i - l.length = i by omega,Nat.add_assoc,ziu l _ vs (i + 1)]
theorem zgG:∀ (vs l m:List Value),l.length = vs.length → zbH (l ++ m) 0 vs = vs ++ m
  | [],l,m,h=>by rw [List.length_eq_zero_iff.1 h]; rfl
  | v :: vs,[],m,h=>by cases h
  | v :: vs, x :: l, m, h => by
    simp only [List.cons_append,zbH,List.set_cons_zero,Nat.zero_add]
    rw [show (1:Nat) = 0 + 1 from rfl,zfh,zgG vs l m (by simpa using h)]
theorem zdY {α:Type} {g:α → List Value} {es:Nat} (hg:∀ a,(g a).length = es) (x:α):∀ (l:List α) (i:Nat),i < l.length → zbH (l.flatMap g) (i * es) (g x) = (l.set i x).flatMap g
  | [],i,h=>by simp at h
  | a :: l, 0, _ => by
    rw [Nat.zero_mul,List.flatMap_cons,zgG _ _ _ (by rw [hg,hg]),List.set_cons_zero,List.flatMap_cons]
  | a :: l, i + 1, h => by
    rw [List.flatMap_cons,show (i + 1) * es = (g a).length + i * es by rw [hg,Nat.add_mul]; omega,ziu,zdY hg x l i (by simpa using h),List.set_cons_succ,List.flatMap_cons]
def cpG {α:Type} (d:α) (l:List α) (n i:Nat):List α:=l.take i ++ List.replicate (n - i) d
theorem zju {α:Type} {g:α → List Value} {d:α} {ez:List Value} (hd:g d = ez) (l:List α) (n:Nat):zcq ez n = (cpG d l n 0).flatMap g:=by
  unfold cpG zcq
  simp only [List.take_zero,List.nil_append,Nat.sub_zero]
  induction n with
  | zero=>rfl
  | succ n ih=>rw [List.range_succ,List.flatMap_append,ih,List.replicate_succ',List.flatMap_append,← hd]; simp
theorem ztU {α:Type} (d:α) (l:List α):cpG d l l.length l.length = l:=by simp [cpG]
theorem ztT {α:Type} {d:α} {l:List α} {n i:Nat} (hi:i < l.length) (hn:i < n):(cpG d l n i).set i (l.getD i d) = cpG d l n (i + 1):=by
  unfold cpG
  have e:l.getD i d = l[i]:=by simp [List.getD,hi]
  rw [e,List.set_append_right _ _ (by simp; omega),List.length_take,Nat.min_eq_left (by omega),Nat.sub_self,show n - i = (n - (i + 1)) + 1 by omega,List.replicate_succ,List.set_cons_zero,List.take_succ_eq_append_getElem hi,List.append_assoc]
  rfl
theorem zr9 {α:Type} {g:α → List Value} {es:Nat} (hg:∀ a,(g a).length = es) {d:α} {l:List α} {i:Nat} {x:List Value} (hi:i < l.length) (hx:x = g (l.getD i d)):zbH ((cpG d l l.length i).flatMap g) (0 + (i:Int).toNat * es) x = (cpG d l l.length (i + 1)).flatMap g:=by
  subst hx
  rw [Nat.zero_add,Int.toNat_natCast,zdY hg _ _ _ (by simp [cpG]; omega),ztT hi hi]
theorem zr8 {α:Type} {g:α → List Value} {es:Nat} (hg:∀ a,(g a).length = es) {d y:α} {done:List α} {n i:Nat} {x:List Value} (hl:done.length = i) (hn:i < n) (hx:x = g y):zbH ((done ++ List.replicate (n - i) d).flatMap g) (0 + (i:Int).toNat * es) x = ((done ++ [y]) ++ List.replicate (n - (i + 1)) d).flatMap g:=by
  subst hx
  rw [Nat.zero_add,Int.toNat_natCast,zdY hg _ _ _ (by simp; omega)]
  congr 1
  rw [List.set_append_right _ _ (by omega),hl,Nat.sub_self,show n - i = (n - (i + 1)) + 1 by omega,List.replicate_succ,List.set_cons_zero,List.append_assoc]
  rfl
theorem zcK {α:Type} (d:α) {l m:List α} (hl:l.length = m.length) (h:∀ j,j < l.length → l.getD j d = m.getD j d):l = m:=by
  apply List.ext_getElem hl
  intro j h1 h2
  have:=h j h1
  simpa [List.getD,h1,h2] using this
theorem zdJ {α β:Type} (f:α → β) {l:List α} {j:Nat} (d:α) (h:j < l.length):(l.map f).getD j (f d) = f (l.getD j d):=by
  simp [List.getD,h]
theorem zki {l m:List InstP} (h:l.map InstP.L = m.map InstP.L):l.length = m.length:=by simpa using congrArg List.length h
theorem zc0 {α:Type} {l:List α} {i:Nat} {d:α} (h:i < l.length):l.take (i + 1) = l.take i ++ [l.getD i d]:=by
  rw [List.take_succ_eq_append_getElem h]; simp [List.getD,h]
theorem zoA {α:Type} {g:α → List Value} {d:α} {ez:List Value} (hd:g d = ez) (n:Nat):zcq ez n = (([]:List α) ++ List.replicate (n - 0) d).flatMap g:=by
  rw [zju hd [] n]; simp [cpG]
theorem ztX (b:List UInt8) (i:Nat):0 ≤ ((b.getD i 0).toNat:Int) ∧ ((b.getD i 0).toNat:Int) < 256:=by
  have:=(b.getD i 0).toNat_lt
  omega
def zdE (b:List UInt8) (i:Nat):Int:=(b.getD (4 * i) 0).toNat + 256 * (b.getD (4 * i + 1) 0).toNat + 65536 * (b.getD (4 * i + 2) 0).toNat + 16777216 * (b.getD (4 * i + 3) 0).toNat
theorem zjF (b:List UInt8) (i:Nat):0 ≤ zdE b i ∧ zdE b i < 4294967296:=by
  have h0:=ztX b (4 * i)
  have h1:=ztX b (4 * i + 1)
  have h2:=ztX b (4 * i + 2)
  have h3:=ztX b (4 * i + 3)
  unfold zdE; omega
def zce (b:List UInt8):List Int:=(List.range (b.length / 4)).map (zdE b)
theorem zgl (b:List UInt8):(zce b).length = b.length / 4:=by simp [zce]
theorem zdF {b:List UInt8} {i:Nat} (h:i < b.length / 4):(zce b).getD i 0 = zdE b i:=by
  simp [zce,List.getD,h]
end Go.SK
namespace Go.SK
def zbN (b:List UInt8):Nat:=b.findIdx (· == 0)
theorem zc5 (c:UInt8) (b:List UInt8):zbN (c :: b) = if c = 0 then 0 else zbN b + 1:=by
  unfold zbN; rw [List.findIdx_cons]
  by_cases h:c = 0
  · subst h; rfl
  · have e : (c == 0) = false := by simpa using h
    rw [e,if_neg h]; rfl
theorem zk7:∀ {b:List UInt8} {p:Nat},p < b.length → b.getD p 0 = 0 → (∀ q,q < p → b.getD q 0 ≠ 0) → zbN b = p
  | c :: b,0,_,hz,_=>by rw [zc5,if_pos (by simpa using hz)]
  | c :: b, p + 1, h, hz, hn => by
    rw [zc5,if_neg (by simpa using hn 0 (by omega)),zk7 (b:=b) (p:=p) (by simpa using h) (by simpa using hz) (fun q hq=>by simpa using hn (q + 1) (by omega))]
theorem zfy:∀ {b:List UInt8},(∀ q,q < b.length → b.getD q 0 ≠ 0) → zbN b = b.length
  | [],_=>rfl
  | c :: b, hn => by
    rw [zc5,if_neg (by simpa using hn 0 (by simp)),zfy (b:=b) (fun q hq=>by simpa using hn (q + 1) (by simpa using hq)),List.length_cons]
section
variable {l:List Int} {j t:Nat}
theorem byte0 {c:UInt8} (h:((c.toNat:Int)) = 0):c = 0:=UInt8.toNat_inj.1 (by simp; omega)
theorem byte1 {c:UInt8} (h:¬ ((c.toNat:Int)) = 0):c ≠ 0:=fun e=>by subst e; exact h rfl
theorem ztu {b:List UInt8} {p:Nat} (h:∀ q,q < p → b.getD q 0 ≠ 0) (hp:b.getD p 0 ≠ 0):∀ q,q < p + 1 → b.getD q 0 ≠ 0:=fun q hq=>by
  by_cases e:q = p
  · rw [e]; exact hp
  · exact h q O
end
def ziy (s:List UInt8):List UInt8:=cpG 0 s (4 * (s.length / 4 + 1)) s.length
theorem zix (s:List UInt8):(ziy s).length = 4 * (s.length / 4 + 1):=by simp [ziy,cpG]; omega
def zcz (s:List UInt8):Int:=if zbN s ≠ s.length then 13 else if s.length / 4 + 1 > 65535 then 4 else 0
def zb6 (s:List UInt8):List Int:=if zcz s = 0 then zce (ziy s) else []
theorem zj4 {s:List UInt8} {i:Nat} (hi:i < s.length) (hz:(((s.getD i 0).toNat:Int)) = 0) (hn:∀ r,r < i → s.getD r 0 ≠ 0):zcz s = 13:=by
  unfold zcz; rw [if_pos]; rw [zk7 hi (byte0 hz) hn]; omega
theorem zjd {s:List UInt8} (hn:∀ r,r < s.length → s.getD r 0 ≠ 0) (h:s.length / 4 + 1 > 65535):zcz s = 4:=by
  unfold zcz; rw [if_neg (fun h=>h (zfy hn)),if_pos h]
theorem znD {s:List UInt8} (hn:∀ r,r < s.length → s.getD r 0 ≠ 0) (h:¬ s.length / 4 + 1 > 65535):zcz s = 0:=by
  unfold zcz; rw [if_neg (fun h=>h (zfy hn)),if_neg h]
theorem zd2 {s:List UInt8} (h:zcz s ≠ 0):zb6 s = []:=if_neg h
theorem ziz {s:List UInt8} (h:zcz s = 0):zb6 s = zce (ziy s):=if_pos h
open Go.RowKit Go.ChangeShapes Go.WideShapes Go.ChangeAt
section
variable {P:Program} {ty:TypeId} {ρ:Operand → Value} {w:World} {C:Value → World → Prop} {T T2:TypeId} {x y:Operand}
theorem zna {k k2:IntKind} {a s c:Int} (hx:ρ x = .int k a) (hy:ρ y = .int k2 s) (h0:0 ≤ s) (hs:s.toNat ≤ k.bits) (hc:k.wrap (a * 2 ^ s.toNat) = c) (h:C (.int k c) w):Op1 P (.binOp .shl T x y T2) ty ρ w C :=
  zsr (n:=s.toNat) hx (by rw [hy,Int.toNat_of_nonneg h0]) hs hc h
theorem zot {a b q:Int} {m:Nat} {c:Int} (hx:ρ x = .int .u32 a) (hy:ρ y = .int .u32 b) (ha:0 ≤ a) (ha2:a < 2 ^ m) (hb:b = q * 2 ^ m) (hq:0 ≤ q) (hc:a + b = c) (hi:c < 4294967296) (h:C (.int .u32 c) w):Op1 P (.binOp .or T x y T2) ty ρ w C:=by
  have hp:(2:Int) ^ m = ((2 ^ m:Nat):Int):=by simp
  have hb0:0 ≤ b:=by rw [hb]; exact Int.mul_nonneg hq (by rw [hp]; omega)
  refine zt5 (m1:=a.toNat) (m2:=b.toNat) (c:=c) hx hy (by omega) (by omega) (by show a.toNat < 4294967296; omega) (by show b.toNat < 4294967296; omega) ?_ (by rw [IntKind.wrap_u32]; omega) h
  have e:b.toNat = q.toNat * 2 ^ m:=by
    have:(b.toNat:Int) = ((q.toNat * 2 ^ m:Nat):Int):=by
      rw [Int.toNat_of_nonneg hb0,hb,Int.natCast_mul,Int.toNat_of_nonneg hq,← hp]
    omega
  have hal:a.toNat < 2 ^ m:=by
    have:(a.toNat:Int) < ((2 ^ m:Nat):Int):=by rw [Int.toNat_of_nonneg ha,← hp]; exact ha2
    omega
  have h3:a.toNat ||| b.toNat = b.toNat + a.toNat:=by
    rw [Nat.or_comm]
    conv=>lhs; rw [e]
    rw [or_low _ _ _ hal,← e]
  rw [h3]; omega
end
theorem zpj:∀ {t:Nat},t < 4 → (256:Int) ^ t = 2 ^ (8 * t)
  | 0,_=>rfl
  | 1,_=>rfl
  | 2,_=>rfl
  | 3,_=>rfl
theorem zpi:∀ {t:Nat},t < 4 → (256:Int) ^ t ≤ 16777216
  | 0,_=>by decide
  | 1,_=>by decide
  | 2,_=>by decide
  | 3,_=>by decide
theorem zrl (c:UInt8) (i:Nat):IntKind.u32.wrap ((c.toNat:Int) * 2 ^ (8 * ((i:Int) % 4)).toNat) = (c.toNat:Int) * 256 ^ (i % 4):=by
  have h1:(8 * ((i:Int) % 4)).toNat = 8 * (i % 4):=by omega
  have ht:i % 4 < 4:=by omega
  rw [h1,← zpj ht]
  have h2:=zpi ht
  have h3:(0:Int) ≤ 256 ^ (i % 4):=Int.le_of_lt (Int.pow_pos De)
  have h4:=c.toNat_lt
  have h5:(c.toNat:Int) * 256 ^ (i % 4) ≤ 255 * 16777216:=Int.mul_le_mul O h2 h3 De
  have h6:0 ≤ (c.toNat:Int) * 256 ^ (i % 4):=Int.mul_nonneg O h3
  exact wrap_u32 h6 O
abbrev zcQ (s:List UInt8) (i:Nat):List UInt8:=cpG (0:UInt8) s (4 * (s.length / 4 + 1)) i
theorem zeB {s:List UInt8} {i:Nat} (hi:i ≤ s.length):(zcQ s i).length = 4 * (s.length / 4 + 1):=by simp [zcQ,cpG]; omega
theorem zeC {s:List UInt8} {i k:Nat} (hi:i ≤ s.length):(zcQ s i).getD k 0 = if k < i then s.getD k 0 else 0:=by
  unfold zcQ cpG
  by_cases h:k < i
  · rw [if_pos h]
    simp only [List.getD]
    rw [List.getElem?_append_left (by simp; omega),List.getElem?_take,if_pos h]
  · rw [if_neg h]
    simp only [List.getD]
    rw [List.getElem?_append_right (by simp; omega)]
    by_cases h2:k - (s.take i).length < 4 * (s.length / 4 + 1) - i
    · rw [List.getElem?_replicate,if_pos h2]; rfl
    · rw [List.getElem?_replicate,if_neg h2]; rfl
theorem zeA {s:List UInt8} {i:Nat} (hi:i ≤ s.length):(zce (zcQ s i)).length = s.length / 4 + 1:=by rw [zgl,zeB hi]; omega
theorem zhQ {s:List UInt8} {i:Nat} (hi:i < s.length):zdE (zcQ s (i + 1)) (i / 4) = zdE (zcQ s i) (i / 4) + ((s.getD i 0).toNat:Int) * 256 ^ (i % 4) ∧ zdE (zcQ s i) (i / 4) < 256 ^ (i % 4):=by
  obtain ⟨q,t,rfl,ht⟩:∃ q t,i = 4 * q + t ∧ t < 4:=⟨i / 4,i % 4,by omega,by omega⟩
  rw [show (4 * q + t) / 4 = q by omega,show (4 * q + t) % 4 = t by omega]
  have b0:=ztX s (4 * q); have b1:=ztX s (4 * q + 1); have b2:=ztX s (4 * q + 2)
  have z:(((0:UInt8).toNat:Int)) = 0:=rfl
  unfold zdE
  simp only [zeC (show 4 * q + t ≤ s.length by omega),zeC (show 4 * q + t + 1 ≤ s.length by omega)]
  match t,ht with
  | 0, _ =>
    have p:(256:Int) ^ 0 = 1:=rfl
    simp (disch:=omega) only [if_pos,if_neg,z,p,Nat.add_zero]
    omega
  | 1, _ =>
    have p:(256:Int) ^ 1 = 256:=rfl
    simp (disch:=omega) only [if_pos,if_neg,z,p]
    omega
  | 2, _ =>
    have p:(256:Int) ^ 2 = 65536:=rfl
    simp (disch:=omega) only [if_pos,if_neg,z,p]
    omega
  | 3, _ =>
    have p:(256:Int) ^ 3 = 16777216:=rfl
    simp (disch:=omega) only [if_pos,if_neg,z,p]
    omega
theorem znZ {s:List UInt8} {i j:Nat} (hi:i < s.length) (hj:j ≠ i / 4):zdE (zcQ s (i + 1)) j = zdE (zcQ s i) j:=by
  unfold zdE
  simp only [zeC (show i ≤ s.length by omega),zeC (show i + 1 ≤ s.length by omega)]
  have e:∀ u,u < 4 → (if 4 * j + u < i + 1 then s.getD (4 * j + u) 0 else 0) = (if 4 * j + u < i then s.getD (4 * j + u) 0 else 0):=fun u hu=>by
    by_cases h:4 * j + u < i
    · rw [if_pos h,if_pos (by omega)]
    · rw [if_neg h,if_neg (by omega)]
  have e0:=e 0 De
  rw [Nat.add_zero] at e0
  rw [e0,e 1 (by decide),e 2 (by decide),e 3 (by decide)]
theorem zrR {s:List UInt8} {i:Nat} (hi:i < s.length):(zce (zcQ s i)).set (i / 4) ((zce (zcQ s i)).getD (i / 4) 0 + ((s.getD i 0).toNat:Int) * 256 ^ (i % 4)) = zce (zcQ s (i + 1)):=by
  have hl:=zeA (s:=s) (i:=i) O
  have hl2:=zeA (s:=s) (i:=i + 1) O
  have hb:=zeB (s:=s) (i:=i) O
  have hb2:=zeB (s:=s) (i:=i + 1) O
  refine zcK 0 (by rw [List.length_set,hl,hl2]) fun j hj=>?_
  rw [List.length_set,hl] at hj
  rw [zdF (by omega),zdF (by omega)]
  by_cases e:j = i / 4
  · subst e
    rw [(zhQ hi).1]
    simp only [List.getD]
    rw [List.getElem?_set_self (by omega)]; rfl
  · rw [znZ hi e]
    have hg:=zdF (b:=zcQ s i) (i:=j) O
    simp only [List.getD] at hg ⊢
    rw [List.getElem?_set_ne (fun h=>e h.symm)]
    exact hg
theorem zpW {s:List UInt8} {i:Nat} (hi:i < s.length):zbH ((zce (zcQ s i)).flatMap zir) (0 + ((i:Int) / 4).toNat * 1) (zir ((zce (zcQ s i)).getD (i / 4) 0 + ((s.getD i 0).toNat:Int) * 256 ^ (i % 4))) = (zce (zcQ s (i + 1))).flatMap zir:=by
  rw [Nat.zero_add,show ((i:Int) / 4).toNat = i / 4 by omega,zdY zme _ _ _ (by rw [zeA (by omega)]; omega),zrR hi]
theorem zpV (s:List UInt8):zcq [.int .u32 0] (s.length / 4 + 1) = (zce (zcQ s 0)).flatMap zir:=by
  rw [zju (g:=zir) (d:=(0:Int)) (ez:=[.int .u32 0]) rfl (zce (zcQ s 0))]
  congr 1
  refine zcK 0 (by rw [zeA (by omega)]; simp [cpG]) fun j hj=>?_
  have hj2:j < s.length / 4 + 1:=by simpa [cpG] using hj
  rw [zdF (by rw [zeB (by omega)]; omega)]
  unfold zdE
  simp only [zeC (Nat.zero_le _),Nat.not_lt_zero,if_false]
  simp [cpG,List.getD,hj2]
theorem zrS {s:List UInt8} {i:Nat} (hi:i < s.length):0 ≤ (zce (zcQ s i)).getD (i / 4) 0 ∧ (zce (zcQ s i)).getD (i / 4) 0 < 2 ^ (8 * (i % 4)) ∧ (zce (zcQ s i)).getD (i / 4) 0 + ((s.getD i 0).toNat:Int) * 256 ^ (i % 4) < 4294967296:=by
  have hb:=zeB (s:=s) (i:=i) O
  rw [zdF (by omega),← zpj (by omega),← (zhQ hi).1]
  exact ⟨(zjF _ _).1,(zhQ hi).2,(zjF _ _).2⟩
theorem zqR {P : Program} {g : FuncId} {fn : Func} {e : Array Value → Sem Value} {args : List Value} {w : World} {v : Value} {C : Value → World → Prop} (hf : P.funcs[g]? = some fn) (hname : (fn.name == "runtime.NumGoroutine") = false) (hb : fn.body.isNone = true) (hn : Extern.findNext fn = none) (he : Extern.find fn = some e)
    (hr:(e args.toArray).run P w = .ok v w) (h:C v w):CallV P (.func (.func g) #[] #[]) args w C:=by
  refine Inv.value (v:=v) (w':=w) ?_ h
  have:=run_callFunc_standIn hf hname hb hn he args.toArray w
  rw [hr] at this
  simpa [Deferred.ofValue,invoke,Result.andThen] using this
theorem zsu {P : Program} {ty : TypeId} {ρ : Operand → Value} {w : World} {C : Value → World → Prop} {g : FuncId} {tys : Array TypeId} {fn : Func} {e : Array Value → Sem Value} {a1 a2 : Operand} {v1 v2 v : Value} (hf : P.funcs[g]? = some fn) (hname : (fn.name == "runtime.NumGoroutine") = false) (hb : fn.body.isNone = true) (hn : Extern.findNext fn = none) (he : Extern.find fn = some e)
    (hρ:ρ (.func g) = .func (.func g) #[] #[]) (h1:ρ a1 = v1) (h2:ρ a2 = v2) (hr:(e #[v1,v2]).run P w = .ok v w) (h:C v w):Op1 P (.call ⟨.value (.func g),#[a1,a2],tys⟩) ty ρ w C :=
  zeH (args:=[a1,a2]) hρ (by simp [h1,h2]) (zqR (args:=[v1,v2]) hf hname hb hn he hr h)
def zub (s:List UInt8):Int:=if zbN s = s.length then -1 else (zbN s:Int)
theorem zgx (s:List UInt8) {i:Nat} (hi:i < s.length):(⟨s.toArray⟩:ByteArray)[i]! = s.getD i 0:=by
  have h:i < (⟨s.toArray⟩:ByteArray).size:=by simpa [ByteArray.size] using hi
  rw [getElem!_pos _ i h]
  simp [ByteArray.getElem_eq_getElem_data,List.getD,hi]
theorem zjD:∀ {s:List UInt8},zbN s ≠ s.length → zbN s < s.length ∧ s.getD (zbN s) 0 = 0 ∧ ∀ j,j < zbN s → s.getD j 0 ≠ 0
  | [],h=>absurd rfl h
  | c :: s, h => by
    rw [zc5] at h ⊢
    by_cases hc:c = 0
    · rw [if_pos hc]; exact ⟨by simp,by simpa using hc,fun j hj=>absurd hj (by omega)⟩
    · rw [if_neg hc] at h ⊢
      have ih:=zjD (s:=s) (fun e=>h (by rw [e]; rfl))
      refine ⟨by simpa using ih.1,by simpa using ih.2.1,fun j hj=>?_⟩
      cases j with
      | zero=>simpa using hc
      | succ j=>simpa using ih.2.2 j (by omega)
theorem zne {s:List UInt8} (h:zbN s = s.length):∀ j,j < s.length → s.getD j 0 ≠ 0:=by
  intro j hj e
  have:∃ p,p < s.length ∧ s.getD p 0 = 0:=⟨j,hj,e⟩
  clear e hj
  induction s with
  | nil=>obtain ⟨p,hp,_⟩:=this; simp at hp
  | cons c s ih =>
    rw [zc5] at h
    by_cases hc:c = 0
    · rw [if_pos hc] at h; simp at h
    · rw [if_neg hc] at h
      obtain ⟨p,hp,e⟩:=this
      cases p with
      | zero=>exact hc (by simpa using e)
      | succ p=>exact ih (by simpa using h) ⟨p,by simpa using hp,by simpa using e⟩
theorem zjo (s:List UInt8):firstIdx ⟨s.toArray⟩ ((0:Int).toNat.toUInt8) = zub s:=by
  unfold firstIdx zub
  have hsz:(⟨s.toArray⟩:ByteArray).size = s.length:=by simp [ByteArray.size]
  rw [hsz]
  by_cases h:zbN s = s.length
  · have hall := zne h
    rw [if_pos h,List.find?_eq_none.2]
    intro j hj
    have hj:=List.mem_range.1 hj
    rw [zgx s hj]
    simpa using hall j hj
  · have h2 := zjD h
    rw [if_neg h]
    have:(List.range s.length).find? (fun i=>(⟨s.toArray⟩:ByteArray)[i]! == (0:Int).toNat.toUInt8) = some (zbN s):=by
      rw [List.find?_range_eq_some]
      refine ⟨?_,List.mem_range.2 h2.1,fun j hj=>?_⟩
      · rw [zgx s h2.1,h2.2.1]; rfl
      · rw [zgx s (by omega)]
        have:=h2.2.2 j hj
        simpa using this
    rw [this]
theorem idxZ_neg {s:List UInt8}:zub s ≥ 0 ↔ zbN s ≠ s.length:=by
  unfold zub; split
  · simp_all
  · simp_all
structure RawP where
  op:Int
  ao:Option Addr
  cap:Nat
  ws:List Int
abbrev zpe (r:RawP):List Value:=[.int .u16 r.op,.slice r.ao r.ws.length r.cap]
theorem zrr (r:RawP):(zpe r).length = 2:=rfl
def zfd:RawP:=⟨0,none,0,[]⟩
abbrev zlt (r:RawP):Nat:=r.ws.length
def zlN:Nat → Nat → List Nat → Int × Int × Int
  | n,_,[]=>((n:Int),0,0)
  | n,i,k :: ks=>if k ≥ 65535 then (0,25,(i:Int)) else if n + 1 + k > 1048576 then (0,4,(i:Int)) else zlN (n + 1 + k) (i + 1) ks
abbrev cntV (c:Int × Int × Int):Value:=.tuple #[.int .i64 c.1,.agg #[.int .i64 c.2.1,.int .i64 c.2.2]]
theorem zjv {l:List RawP} {n i:Nat} (h:i < l.length):zlN n i ((l.map zlt).drop i) = if (l.getD i zfd).ws.length ≥ 65535 then (0,25,(i:Int)) else if n + 1 + (l.getD i zfd).ws.length > 1048576 then (0,4,(i:Int)) else zlN (n + 1 + (l.getD i zfd).ws.length) (i + 1) ((l.map zlt).drop (i + 1)):=by
  have e:(l.map zlt)[i]'(by simpa using h) = (l.getD i zfd).ws.length:=by simp [List.getD,h]
  rw [List.drop_eq_getElem_cons (by simpa using h),e]; rfl
theorem zqf {l:List RawP} {n i:Nat} (h:i < l.length) (h1:(l.getD i zfd).ws.length ≥ 65535):zlN n i ((l.map zlt).drop i) = (0,25,(i:Int)):=by rw [zjv h,if_pos h1]
theorem zqe {l:List RawP} {n i:Nat} (h:i < l.length) (h1:¬ (l.getD i zfd).ws.length ≥ 65535) (h2:n + 1 + (l.getD i zfd).ws.length > 1048576):zlN n i ((l.map zlt).drop i) = (0,4,(i:Int)):=by rw [zjv h,if_neg h1,if_pos h2]
theorem zsa {l:List RawP} {n i:Nat} (h:i < l.length) (h1:¬ (l.getD i zfd).ws.length ≥ 65535) (h2:¬ n + 1 + (l.getD i zfd).ws.length > 1048576):zlN n i ((l.map zlt).drop i) = zlN (n + 1 + (l.getD i zfd).ws.length) (i + 1) ((l.map zlt).drop (i + 1)):=by rw [zjv h,if_neg h1,if_neg h2]
theorem ztV {l:List RawP} {n:Nat}:zlN n l.length ((l.map zlt).drop l.length) = ((n:Int),0,0):=by rw [List.drop_of_length_le (by simp)]; rfl
def zqP (P:Program) (g:FuncId) (cap:List Value) (n:Nat) (item:Nat → List Value → Res → Prop) (FD:Nat → Prop) (w:World):Prop :=
  ∀ (σ : Type) (I J : Nat → σ → Prop) (yv : Value) (R S : Nat → σ → Res) (s0 : σ), I 0 s0 → (R 0 s0).holds w → (∀ b, (R 0 s0).foot b → ¬ FD b) →
    (∀ i s vs r,i < n → I i s → item i vs r → ∀ w1,St w (R 0 s0).foot [r,R i s] [] w1 → CallV P yv vs w1 fun v w2=>(v = .bool true ∧ ∃ s',I (i + 1) s' ∧ St w1 (Res.star [r,R i s]).foot [R (i + 1) s'] [] w2) ∨ (v = .bool false ∧ ∃ s',J i s' ∧ St w1 (Res.star [r,R i s]).foot [S i s'] [] w2)) →
    Ret P g (yv :: cap).toArray w fun _ w'=>(∃ s,I n s ∧ St w (R 0 s0).foot [R n s] [] w') ∨ ∃ i s,i < n ∧ J i s ∧ St w (R 0 s0).foot [S i s] [] w'
theorem zrj {a b r:Res} {L:List Res} {x:Nat}:(Res.star [r,Res.star (a :: b :: L)]).foot x ↔ (Res.star (a :: b :: r :: L)).foot x:=by
  constructor
  · rintro ⟨q, hq, hx⟩
    cases hq with
    | head=>exact ⟨r,.tail _ (.tail _ (.head _)),hx⟩
    | tail _ hq =>
      cases hq with
      | head =>
        obtain ⟨q,hq,hx⟩:=hx
        cases hq with
        | head=>exact ⟨_,.head _,hx⟩
        | tail _ hq =>
          cases hq with
          | head=>exact ⟨_,.tail _ (.head _),hx⟩
          | tail _ hq=>exact ⟨q,.tail _ (.tail _ (.tail _ hq)),hx⟩
      | tail _ h=>cases h
  · rintro ⟨q, hq, hx⟩
    cases hq with
    | head=>exact ⟨_,.tail _ (.head _),⟨_,.head _,hx⟩⟩
    | tail _ hq =>
      cases hq with
      | head=>exact ⟨_,.tail _ (.head _),⟨_,.tail _ (.head _),hx⟩⟩
      | tail _ hq =>
        cases hq with
        | head=>exact ⟨_,.head _,hx⟩
        | tail _ hq=>exact ⟨_,.tail _ (.head _),⟨q,.tail _ (.tail _ hq),hx⟩⟩
theorem zh8 {P:Program} {fid n g:Nat} {ds:List Deferred} {fo:Operand} {ps:List Tmp} {assign body:Code} {k:List Item} {f:Nat → Value} {w0 w:World} {M:Nat → Prop} {L1 L2 D:List Res} {E:Frame → World → Prop} {cap:List Value}
    {N:Nat} {item:Nat → List Value → Res → Prop} {FD:Nat → Prop} {σ:Type} (I J:Nat → σ → Prop) (A B:Nat → σ → List Res) (jc:Nat → Code) (s0:σ) (h0:I 0 s0)
    (V:St w0 M (L1 ++ L2) D w) (hA:A 0 s0 = L1) (hf:ev n f fo = .func (.func g) #[] cap.toArray) (hg:zaJ P g)
    (hfd:∀ b,FD b → (∃ r ∈ L2,r.foot b) ∨ ∃ r ∈ D,r.foot b)
    (hit:∀ w1,St w0 M (L1 ++ L2) D w1 → zqP P g cap N item FD w1)
    (hlen:∀ i vs r,item i vs r → vs.length = ps.length)
    (hround:∀ i s vs x,i < N → I i s → item i vs x → ∀ w1 l r lp,Lp lp fid n f ps assign body → St w1 (Res.star (Res.obj l (.loop lp) :: Res.obj r (.deferred (some [])) :: x :: A i s)).foot (Res.obj l (.loop lp) :: Res.obj r (.deferred (some [])) :: x :: A i s) (L2 ++ D) w1 →
      (∀ w2,Kept (Res.star (Res.obj l (.loop lp) :: Res.obj r (.deferred (some [])) :: x :: A i s)).foot w1 w2 → Kept M w0 w2) →
      Run P (zfM fid n l) [.code assign,.beginRound,.code body] (zjS f (ps.zip vs)) w1 (zb9 P fun v w2 =>
        (v = .bool true ∧ ∃ s' D',I (i + 1) s' ∧ St w1 (Res.star (Res.obj l (.loop lp) :: Res.obj r (.deferred (some [])) :: x :: A i s)).foot (Res.obj l (.loop lp) :: Res.obj r (.deferred (some [])) :: A (i + 1) s') D' w2) ∨
        (v = .bool false ∧ ∃ s' D',J i s' ∧ St w1 (Res.star (Res.obj l (.loop lp) :: Res.obj r (.deferred (some [])) :: x :: A i s)).foot (Res.obj l (.loop (zf3 lp (jc i))) :: Res.obj r (.deferred (some [])) :: B i s') D' w2)))
    (hend:∀ s w2 l r lp,I N s → St w0 M (Res.obj l (.loop lp) :: Res.obj r (.deferred (some [])) :: (A N s ++ L2)) D w2 → Run P (zbT fid n (zcO r :: ds)) k f w2 E)
    (hstop:∀ i s,i < N → J i s → ∀ w2 l r lp,St w0 M (Res.obj l (.loop lp) :: Res.obj r (.deferred (some [])) :: (B i s ++ L2)) D w2 → Run P (zbT fid n (zcO r :: ds)) (.code (jc i) :: k) f w2 E) :
    Run P (zbT fid n ds) (.code (.rangeFunc fo ps.toArray assign body) :: k) f w E:=by
  refine zfF V hf hg fun w1 l r hst1=>?_
  obtain ⟨lp,hlp,hst1⟩:∃ lp,Lp lp fid n f ps assign body ∧ St w0 M (Res.obj l (.loop lp) :: Res.obj r (.deferred (some [])) :: (L1 ++ L2)) D w1:=⟨_,⟨rfl,rfl,rfl,rfl,rfl,rfl,rfl⟩,hst1⟩
  subst hA
  let X:Nat → σ → List Res:=fun i s=>Res.obj l (.loop lp) :: Res.obj r (.deferred (some [])) :: A i s
  have hX:St w0 M (X 0 s0 ++ L2) D w1:=hst1
  have hplain:St w0 M (A 0 s0 ++ L2) D w1:=(hst1.drop .here).drop .here
  have hi:=hit w1 hplain
  refine (hi σ I J (.func (.yield l) #[] #[]) (fun i s=>Res.star (X i s)) (fun i s=>Res.star (Res.obj l (.loop (zf3 lp (jc i))) :: Res.obj r (.deferred (some [])) :: B i s)) s0 h0 (hX.pack.hL _ (.head _)) ?_ ?_).mono ?_
  · intro b hb hfb
    have hp:=hX.pack
    rcases hfd b hfb with ⟨s,hs,hsb⟩ | ⟨s,hs,hsb⟩
    · exact (List.pairwise_cons.1 hp.sep).1 s hs b hb hsb
    · exact hp.sepD _ (.head _) s hs b hb hsb
  · intro i s vs x hiN hI hitem w2 hw2
    have h2:St w0 M (x :: Res.star (X i s) :: L2) D w2:=hX.pack.call1 hw2
    have h3:St w0 M (Res.star (X i s) :: x :: L2) D w2:=h2.perm (List.Perm.swap _ _ _)
    have h4:St w0 M (X i s ++ x :: L2) D w2:=h3.unpack
    have h5:St w0 M ((Res.obj l (.loop lp) :: Res.obj r (.deferred (some [])) :: x :: A i s) ++ L2) D w2:=h4.perm (by
      refine List.Perm.cons _ (List.Perm.cons _ ?_)
      exact List.perm_middle)
    have hr:=hround i s vs x hiN hI hitem w2 l r lp hlp h5.root (fun w3 hk3=>h5.kept.trans hk3 fun y hy hf=>by
      obtain ⟨q,hq,hqy⟩:=hf
      exact (h5.new q (List.mem_append_left _ hq) y hqy).resolve_left O)
    have hl:w2.heap[l]? = some (.loop lp):=h5.hL _ (.head _)
    refine zh3 (ps:=ps) (n:=n) (f:=f) hl hlp.params (hlen i vs x hitem) hlp.tmps ?_
    rw [hlp.fn,hlp.assign,hlp.body]
    refine hr.mono fun fr w3 ⟨v,w4,hC,hs⟩=>⟨v,w4,?_,hs⟩
    have hfoot:(Res.star [x,Res.star (X i s)]).foot = (Res.star (Res.obj l (.loop lp) :: Res.obj r (.deferred (some [])) :: x :: A i s)).foot:=by
      funext b; exact propext (zrj)
    rcases hC with ⟨hv,s',D',hI',hC⟩ | ⟨hv,s',D',hJ',hC⟩
    · exact .inl ⟨hv,s',hI',by rw [hfoot]; exact hC.star_of⟩
    · exact .inr ⟨hv,s',hJ',by rw [hfoot]; exact hC.star_of⟩
  · rintro v w2 (⟨s, hI, h2⟩ | ⟨i, s, hiN, hJ, h2⟩)
    · have h3 : St w0 M (X N s ++ L2) D w2 := (hX.pack.call1 h2).unpack
      refine ⟨lp,_,by rw [hlp.state]; decide,h3,fun w3 h4=>?_⟩
      rw [hlp.pending]
      exact hend s w3 l r _ hI h4
    · have h3 := (hX.pack.call1 h2).unpack
      refine ⟨zf3 lp (jc i),_,by simp [zf3],h3,fun w3 h4=>?_⟩
      exact hstop i s hiN hJ w3 l r _ h4
end Go.SK
namespace Go.SK
abbrev Res.emp:Res:=Res.prop True
variable {P:Program} {b:Base} {k:List Item} {E:Frame → World → Prop} {ops:Array Oper} {f:Nat → Value} {w0 w:World} {M:Nat → Prop} {L D:List Res} {pd:zjB} {tk:zcR} {bs:List Nat} {ds:List (Option Nat)} {i:Nat} {l:List Oper} {ws:Nat → zgc}
end Go.SK
namespace Go.SK
theorem Sel.remd {r e:Res} {X X2:List Res} (h:Sel r e X X2):∃ X1,Rem r X X1 ∧ X2.Perm (e :: X1):=by
  induction h with
  | here=>exact ⟨_,.here,List.Perm.refl _⟩
  | there _ ih =>
    rename_i a L L' _
    obtain ⟨X1,h1,h2⟩:=ih
    exact ⟨a :: X1,.there h1,(List.Perm.cons a h2).trans (List.Perm.swap _ _ _)⟩
variable {P:Program} {b:Base} {k:List Item} {E:Frame → World → Prop} {ops:Array Oper} {f:Nat → Value} {w0 w:World} {M:Nat → Prop} {L D:List Res} {pd:zjB} {tk:zcR} {bs:List Nat} {ds:List (Option Nat)} {i:Nat} {l:List Oper} {ws:Nat → zgc}
theorem zcS {d:Option Tmp} {op:Op} {ty:TypeId} {pos:String} {aft:Array Edge} {r:Res} (wd:zgc) (htab:DrawTab ops bs ds) (i':Nat) (hm:(i,r,Res.emp) ∈ pd)
    (hv:∀ f' L' L'' w',Know1 tk bs ds f w0 M L D i ws f' L' w' → (∃ X,Rem r (L' ++ L) X ∧ ∀ w'' q,St w0 M (q :: X) D w'' → St w0 M (q :: (L'' ++ L)) D w'') →
      Op1 P op ty (ev b.n f') w' (fun v w''=>∃ rs,(∀ g,(∀ l u,zkF (bs.getD i 0) l = true → ds.getD l none = some u → g u = f' u) → wd g v rs) ∧ St w0 M (rs ++ (L'' ++ L)) D w''))
    (h:RunD tk pd P b ops bs ds k E f w0 M L D w i' l (zmd ws i wd)) (hi:i + 1 = i':=by rfl) (hd:zcr op = false:=by rfl) (hk:zrf tk i = true:=by rfl):RunD tk pd P b ops bs ds k E f w0 M L D w i (⟨d,op,ty,pos,aft,none⟩ :: l) ws:=by
  subst hi
  refine RunD.cons wd (fun ho φ hφ hi2 o ho' f' L' L'' w' hc=>?_) h
  rw [ho] at ho'
  obtain rfl:=Option.some.inj ho'
  refine .inl ⟨rfl,hd,?_⟩
  rw [hi2]
  refine (hv f' L' L'' w' (zdq htab hφ ho hc) ?_).mono fun v w'' ⟨rs,h1,h2⟩=>⟨rs,h1 _ fun l u hl hu=>zeU f' (by rw [htab.waits,zdd]; exact hl) (by rw [htab.dstOf]; exact hu),h2⟩
  obtain ⟨X,h1,h2⟩:=((hc.turn.own r _ hm (zc6 hk)).right L).remd
  exact ⟨X,h1,fun w'' q V=>((V.addProp (p:=True) trivial).perm (List.Perm.swap _ _ _)).perm (List.Perm.cons q h2.symm)⟩
end Go.SK
namespace Go.SK
open Go.RowKit Go.ChangeShapes Go.WideShapes Go.ChangeAt
def wrongF (k:Nat) (x:Int):Int:=if k = 0 then (if x = 50471687 then 21 else if x = 119734787 then 0 else 20) else if k = 1 then (if x = 65536 then 0 else 22) else if k = 3 then (if x = 0 ∨ x > 65536 then 24 else 0) else if k = 4 then (if x = 0 then 0 else 23) else 0
def hd1 (w:List Int) (k:Nat):Int:=if k < w.length then wrongF k (w.getD k 0) else 14
abbrev Res.oword (Tw:TypeId) (r:RawP):Res:=Res.sl r.ao r.ws.length r.cap Tw 1 (r.ws.flatMap zir)
abbrev Res.oraws (Tr Tw:TypeId) (ao:Option Addr) (cap:Nat) (l:List RawP):Res:=Res.star (Res.sl ao l.length cap Tr 2 (l.flatMap zpe) :: l.map (Res.oword Tw))
abbrev RawP.L (r:RawP):Int × List Int:=(r.op,r.ws)
abbrev RawL:=Int × List Int
end Go.SK
namespace Go.SK
abbrev zcI:=List UInt8
def zpT:List (Int × zcI):=[(1,[79,112,85,110,100,101,102,32,84,82,32,32,32,32,55]),
  (3,[79,112,83,111,117,114,99,101,32,32,108,110,32,32,32,52]),
  (5,[79,112,78,97,109,101,32,32,105,115,32,32,32,53]),
  (6,[79,112,77,101,109,98,101,114,78,97,109,101,32,32,105,110,115,32,32,32,53]),
  (7,[79,112,83,116,114,105,110,103,32,82,32,115,32,32,32,52]),
  (14,[79,112,77,101,109,111,114,121,77,111,100,101,108,32,32,97,109,32,32,32,49]),
  (15,[79,112,69,110,116,114,121,80,111,105,110,116,32,32,101,105,115,32,105,32,32,50]),
  (16,[79,112,69,120,101,99,117,116,105,111,110,77,111,100,101,32,32,105,120,32,32,32,51]),
  (17,[79,112,67,97,112,97,98,105,108,105,116,121,32,32,107,32,32,32,48]),
  (19,[79,112,84,121,112,101,86,111,105,100,32,82,32,32,32,32,55]),
  (20,[79,112,84,121,112,101,66,111,111,108,32,82,32,32,32,32,55]),
  (21,[79,112,84,121,112,101,73,110,116,32,82,32,110,110,32,32,32,55]),
  (23,[79,112,84,121,112,101,86,101,99,116,111,114,32,82,32,105,110,32,32,32,55]),
  (28,[79,112,84,121,112,101,65,114,114,97,121,32,82,32,105,105,32,32,32,55]),
  (30,[79,112,84,121,112,101,83,116,114,117,99,116,32,82,32,32,105,32,32,55]),
  (32,[79,112,84,121,112,101,80,111,105,110,116,101,114,32,82,32,99,105,32,32,32,55]),
  (33,[79,112,84,121,112,101,70,117,110,99,116,105,111,110,32,82,32,105,32,105,32,32,55]),
  (41,[79,112,67,111,110,115,116,97,110,116,84,114,117,101,32,84,82,32,32,32,32,55]),
  (42,[79,112,67,111,110,115,116,97,110,116,70,97,108,115,101,32,84,82,32,32,32,32,55]),
  (43,[79,112,67,111,110,115,116,97,110,116,32,84,82,32,110,32,32,32,55]),
  (44,[79,112,67,111,110,115,116,97,110,116,67,111,109,112,111,115,105,116,101,32,84,82,32,32,105,32,32,55]),
  (46,[79,112,67,111,110,115,116,97,110,116,78,117,108,108,32,84,82,32,32,32,32,55]),
  (54,[79,112,70,117,110,99,116,105,111,110,32,84,82,32,102,105,32,32,32,56]),
  (55,[79,112,70,117,110,99,116,105,111,110,80,97,114,97,109,101,116,101,114,32,84,82,32,32,32,32,56]),
  (56,[79,112,70,117,110,99,116,105,111,110,69,110,100,32,32,32,32,32,56]),
  (57,[79,112,70,117,110,99,116,105,111,110,67,97,108,108,32,84,82,32,105,32,105,32,32,56]),
  (59,[79,112,86,97,114,105,97,98,108,101,32,84,82,32,99,32,105,32,49,32,55]),
  (61,[79,112,76,111,97,100,32,84,82,32,105,32,32,32,56]),
  (62,[79,112,83,116,111,114,101,32,32,105,105,32,32,32,56]),
  (65,[79,112,65,99,99,101,115,115,67,104,97,105,110,32,84,82,32,105,32,105,32,32,56]),
  (71,[79,112,68,101,99,111,114,97,116,101,32,32,105,100,32,110,32,32,54])]
def zlr:List (Int × zcI):=[(77,[79,112,86,101,99,116,111,114,69,120,116,114,97,99,116,68,121,110,97,109,105,99,32,84,82,32,105,105,32,32,32,56]),
  (78,[79,112,86,101,99,116,111,114,73,110,115,101,114,116,68,121,110,97,109,105,99,32,84,82,32,105,105,105,32,32,32,56]),
  (79,[79,112,86,101,99,116,111,114,83,104,117,102,102,108,101,32,84,82,32,105,105,32,110,32,32,56]),
  (80,[79,112,67,111,109,112,111,115,105,116,101,67,111,110,115,116,114,117,99,116,32,84,82,32,32,105,32,32,56]),
  (81,[79,112,67,111,109,112,111,115,105,116,101,69,120,116,114,97,99,116,32,84,82,32,105,32,110,32,32,56]),
  (82,[79,112,67,111,109,112,111,115,105,116,101,73,110,115,101,114,116,32,84,82,32,105,105,32,110,32,32,56]),
  (83,[79,112,67,111,112,121,79,98,106,101,99,116,32,84,82,32,105,32,32,32,56]),
  (124,[79,112,66,105,116,99,97,115,116,32,84,82,32,105,32,32,32,56]),
  (126,[79,112,83,78,101,103,97,116,101,32,84,82,32,105,32,32,32,56]),
  (128,[79,112,73,65,100,100,32,84,82,32,105,105,32,32,32,56]),
  (130,[79,112,73,83,117,98,32,84,82,32,105,105,32,32,32,56]),
  (132,[79,112,73,77,117,108,32,84,82,32,105,105,32,32,32,56]),
  (134,[79,112,85,68,105,118,32,84,82,32,105,105,32,32,32,56]),
  (135,[79,112,83,68,105,118,32,84,82,32,105,105,32,32,32,56]),
  (137,[79,112,85,77,111,100,32,84,82,32,105,105,32,32,32,56]),
  (138,[79,112,83,82,101,109,32,84,82,32,105,105,32,32,32,56]),
  (139,[79,112,83,77,111,100,32,84,82,32,105,105,32,32,32,56]),
  (149,[79,112,73,65,100,100,67,97,114,114,121,32,84,82,32,105,105,32,32,32,56]),
  (150,[79,112,73,83,117,98,66,111,114,114,111,119,32,84,82,32,105,105,32,32,32,56]),
  (151,[79,112,85,77,117,108,69,120,116,101,110,100,101,100,32,84,82,32,105,105,32,32,32,56]),
  (152,[79,112,83,77,117,108,69,120,116,101,110,100,101,100,32,84,82,32,105,105,32,32,32,56]),
  (154,[79,112,65,110,121,32,84,82,32,105,32,32,32,56]),
  (155,[79,112,65,108,108,32,84,82,32,105,32,32,32,56]),
  (164,[79,112,76,111,103,105,99,97,108,69,113,117,97,108,32,84,82,32,105,105,32,32,32,56]),
  (165,[79,112,76,111,103,105,99,97,108,78,111,116,69,113,117,97,108,32,84,82,32,105,105,32,32,32,56]),
  (166,[79,112,76,111,103,105,99,97,108,79,114,32,84,82,32,105,105,32,32,32,56]),
  (167,[79,112,76,111,103,105,99,97,108,65,110,100,32,84,82,32,105,105,32,32,32,56]),
  (168,[79,112,76,111,103,105,99,97,108,78,111,116,32,84,82,32,105,32,32,32,56]),
  (169,[79,112,83,101,108,101,99,116,32,84,82,32,105,105,105,32,32,32,56]),
  (170,[79,112,73,69,113,117,97,108,32,84,82,32,105,105,32,32,32,56]),
  (171,[79,112,73,78,111,116,69,113,117,97,108,32,84,82,32,105,105,32,32,32,56])]
def thirdT:List (Int × zcI):=[(172,[79,112,85,71,114,101,97,116,101,114,84,104,97,110,32,84,82,32,105,105,32,32,32,56]),
  (173,[79,112,83,71,114,101,97,116,101,114,84,104,97,110,32,84,82,32,105,105,32,32,32,56]),
  (174,[79,112,85,71,114,101,97,116,101,114,84,104,97,110,69,113,117,97,108,32,84,82,32,105,105,32,32,32,56]),
  (175,[79,112,83,71,114,101,97,116,101,114,84,104,97,110,69,113,117,97,108,32,84,82,32,105,105,32,32,32,56]),
  (176,[79,112,85,76,101,115,115,84,104,97,110,32,84,82,32,105,105,32,32,32,56]),
  (177,[79,112,83,76,101,115,115,84,104,97,110,32,84,82,32,105,105,32,32,32,56]),
  (178,[79,112,85,76,101,115,115,84,104,97,110,69,113,117,97,108,32,84,82,32,105,105,32,32,32,56]),
  (179,[79,112,83,76,101,115,115,84,104,97,110,69,113,117,97,108,32,84,82,32,105,105,32,32,32,56]),
  (194,[79,112,83,104,105,102,116,82,105,103,104,116,76,111,103,105,99,97,108,32,84,82,32,105,105,32,32,32,56]),
  (195,[79,112,83,104,105,102,116,82,105,103,104,116,65,114,105,116,104,109,101,116,105,99,32,84,82,32,105,105,32,32,32,56]),
  (196,[79,112,83,104,105,102,116,76,101,102,116,76,111,103,105,99,97,108,32,84,82,32,105,105,32,32,32,56]),
  (197,[79,112,66,105,116,119,105,115,101,79,114,32,84,82,32,105,105,32,32,32,56]),
  (198,[79,112,66,105,116,119,105,115,101,88,111,114,32,84,82,32,105,105,32,32,32,56]),
  (199,[79,112,66,105,116,119,105,115,101,65,110,100,32,84,82,32,105,105,32,32,32,56]),
  (200,[79,112,78,111,116,32,84,82,32,105,32,32,32,56]),
  (201,[79,112,66,105,116,70,105,101,108,100,73,110,115,101,114,116,32,84,82,32,105,105,105,105,32,32,32,56]),
  (202,[79,112,66,105,116,70,105,101,108,100,83,69,120,116,114,97,99,116,32,84,82,32,105,105,105,32,32,32,56]),
  (203,[79,112,66,105,116,70,105,101,108,100,85,69,120,116,114,97,99,116,32,84,82,32,105,105,105,32,32,32,56]),
  (204,[79,112,66,105,116,82,101,118,101,114,115,101,32,84,82,32,105,32,32,32,56]),
  (205,[79,112,66,105,116,67,111,117,110,116,32,84,82,32,105,32,32,32,56]),
  (245,[79,112,80,104,105,32,84,82,32,32,105,105,32,32,56]),
  (246,[79,112,76,111,111,112,77,101,114,103,101,32,32,105,105,103,32,32,32,56]),
  (247,[79,112,83,101,108,101,99,116,105,111,110,77,101,114,103,101,32,32,105,104,32,32,32,56]),
  (248,[79,112,76,97,98,101,108,32,82,32,32,32,32,56]),
  (249,[79,112,66,114,97,110,99,104,32,32,105,32,32,32,56]),
  (250,[79,112,66,114,97,110,99,104,67,111,110,100,105,116,105,111,110,97,108,32,32,105,105,105,32,32,32,56]),
  (251,[79,112,83,119,105,116,99,104,32,32,105,105,32,110,105,32,32,56]),
  (252,[79,112,75,105,108,108,32,32,32,32,32,56]),
  (253,[79,112,82,101,116,117,114,110,32,32,32,32,32,56]),
  (254,[79,112,82,101,116,117,114,110,86,97,108,117,101,32,32,105,32,32,32,56]),
  (255,[79,112,85,110,114,101,97,99,104,97,98,108,101,32,32,32,32,32,56])]
def zdI:List (Int × zcI):=[(107,[48,32,77,97,116,114,105,120,32,49,32,83,104,97,100,101,114,32]),
  (97,[48,32,76,111,103,105,99,97,108,32]),
  (109,[48,32,83,105,109,112,108,101,32,49,32,71,76,83,76,52,53,48,32]),
  (101,[48,32,86,101,114,116,101,120,32,52,32,70,114,97,103,109,101,110,116,32]),
  (120,[55,32,79,114,105,103,105,110,85,112,112,101,114,76,101,102,116,32]),
  (108,[48,32,85,110,107,110,111,119,110,32,49,32,69,83,83,76,32,50,32,71,76,83,76,32]),
  (99,[49,32,73,110,112,117,116,32,51,32,79,117,116,112,117,116,32,54,32,80,114,105,118,97,116,101,32,55,32,70,117,110,99,116,105,111,110,32]),
  (100,[48,32,82,101,108,97,120,101,100,80,114,101,99,105,115,105,111,110,32,49,49,32,66,117,105,108,116,73,110,32,49,52,32,70,108,97,116,32,51,48,32,76,111,99,97,116,105,111,110,32]),
  (102,[48,32,78,111,110,101,32,49,32,73,110,108,105,110,101,32,50,32,68,111,110,116,73,110,108,105,110,101,32,52,32,80,117,114,101,32,56,32,67,111,110,115,116,32]),
  (104,[48,32,78,111,110,101,32,49,32,70,108,97,116,116,101,110,32,50,32,68,111,110,116,70,108,97,116,116,101,110,32]),
  (103,[48,32,78,111,110,101,32,49,32,85,110,114,111,108,108,32,50,32,68,111,110,116,85,110,114,111,108,108,32])]
structure FormL where
  op:Int
  name:zcI
  ty:Bool
  res:Bool
  fixed:zcI
  rest:zcI
  most:Int
  part:Int
  deriving DecidableEq
def refT:List FormL:=[⟨1,[79,112,85,110,100,101,102],true,true,[],[],0,7⟩,
  ⟨3,[79,112,83,111,117,114,99,101],false,false,[108,110],[],0,4⟩,
  ⟨5,[79,112,78,97,109,101],false,false,[105,115],[],0,5⟩,
  ⟨6,[79,112,77,101,109,98,101,114,78,97,109,101],false,false,[105,110,115],[],0,5⟩,
  ⟨7,[79,112,83,116,114,105,110,103],false,true,[115],[],0,4⟩,
  ⟨14,[79,112,77,101,109,111,114,121,77,111,100,101,108],false,false,[97,109],[],0,1⟩,
  ⟨15,[79,112,69,110,116,114,121,80,111,105,110,116],false,false,[101,105,115],[105],0,2⟩,
  ⟨16,[79,112,69,120,101,99,117,116,105,111,110,77,111,100,101],false,false,[105,120],[],0,3⟩,
  ⟨17,[79,112,67,97,112,97,98,105,108,105,116,121],false,false,[107],[],0,0⟩,
  ⟨19,[79,112,84,121,112,101,86,111,105,100],false,true,[],[],0,7⟩,
  ⟨20,[79,112,84,121,112,101,66,111,111,108],false,true,[],[],0,7⟩,
  ⟨21,[79,112,84,121,112,101,73,110,116],false,true,[110,110],[],0,7⟩,
  ⟨23,[79,112,84,121,112,101,86,101,99,116,111,114],false,true,[105,110],[],0,7⟩,
  ⟨28,[79,112,84,121,112,101,65,114,114,97,121],false,true,[105,105],[],0,7⟩,
  ⟨30,[79,112,84,121,112,101,83,116,114,117,99,116],false,true,[],[105],0,7⟩,
  ⟨32,[79,112,84,121,112,101,80,111,105,110,116,101,114],false,true,[99,105],[],0,7⟩,
  ⟨33,[79,112,84,121,112,101,70,117,110,99,116,105,111,110],false,true,[105],[105],0,7⟩,
  ⟨41,[79,112,67,111,110,115,116,97,110,116,84,114,117,101],true,true,[],[],0,7⟩,
  ⟨42,[79,112,67,111,110,115,116,97,110,116,70,97,108,115,101],true,true,[],[],0,7⟩,
  ⟨43,[79,112,67,111,110,115,116,97,110,116],true,true,[110],[],0,7⟩,
  ⟨44,[79,112,67,111,110,115,116,97,110,116,67,111,109,112,111,115,105,116,101],true,true,[],[105],0,7⟩,
  ⟨46,[79,112,67,111,110,115,116,97,110,116,78,117,108,108],true,true,[],[],0,7⟩,
  ⟨54,[79,112,70,117,110,99,116,105,111,110],true,true,[102,105],[],0,8⟩,
  ⟨55,[79,112,70,117,110,99,116,105,111,110,80,97,114,97,109,101,116,101,114],true,true,[],[],0,8⟩,
  ⟨56,[79,112,70,117,110,99,116,105,111,110,69,110,100],false,false,[],[],0,8⟩,
  ⟨57,[79,112,70,117,110,99,116,105,111,110,67,97,108,108],true,true,[105],[105],0,8⟩,
  ⟨59,[79,112,86,97,114,105,97,98,108,101],true,true,[99],[105],1,7⟩,
  ⟨61,[79,112,76,111,97,100],true,true,[105],[],0,8⟩,
  ⟨62,[79,112,83,116,111,114,101],false,false,[105,105],[],0,8⟩,
  ⟨65,[79,112,65,99,99,101,115,115,67,104,97,105,110],true,true,[105],[105],0,8⟩,
  ⟨71,[79,112,68,101,99,111,114,97,116,101],false,false,[105,100],[110],0,6⟩,
  ⟨77,[79,112,86,101,99,116,111,114,69,120,116,114,97,99,116,68,121,110,97,109,105,99],true,true,[105,105],[],0,8⟩,
  ⟨78,[79,112,86,101,99,116,111,114,73,110,115,101,114,116,68,121,110,97,109,105,99],true,true,[105,105,105],[],0,8⟩,
  ⟨79,[79,112,86,101,99,116,111,114,83,104,117,102,102,108,101],true,true,[105,105],[110],0,8⟩,
  ⟨80,[79,112,67,111,109,112,111,115,105,116,101,67,111,110,115,116,114,117,99,116],true,true,[],[105],0,8⟩,
  ⟨81,[79,112,67,111,109,112,111,115,105,116,101,69,120,116,114,97,99,116],true,true,[105],[110],0,8⟩,
  ⟨82,[79,112,67,111,109,112,111,115,105,116,101,73,110,115,101,114,116],true,true,[105,105],[110],0,8⟩,
  ⟨83,[79,112,67,111,112,121,79,98,106,101,99,116],true,true,[105],[],0,8⟩,
  ⟨124,[79,112,66,105,116,99,97,115,116],true,true,[105],[],0,8⟩,
  ⟨126,[79,112,83,78,101,103,97,116,101],true,true,[105],[],0,8⟩,
  ⟨128,[79,112,73,65,100,100],true,true,[105,105],[],0,8⟩,
  ⟨130,[79,112,73,83,117,98],true,true,[105,105],[],0,8⟩,
  ⟨132,[79,112,73,77,117,108],true,true,[105,105],[],0,8⟩,
  ⟨134,[79,112,85,68,105,118],true,true,[105,105],[],0,8⟩,
  ⟨135,[79,112,83,68,105,118],true,true,[105,105],[],0,8⟩,
  ⟨137,[79,112,85,77,111,100],true,true,[105,105],[],0,8⟩,
  ⟨138,[79,112,83,82,101,109],true,true,[105,105],[],0,8⟩,
  ⟨139,[79,112,83,77,111,100],true,true,[105,105],[],0,8⟩,
  ⟨149,[79,112,73,65,100,100,67,97,114,114,121],true,true,[105,105],[],0,8⟩,
  ⟨150,[79,112,73,83,117,98,66,111,114,114,111,119],true,true,[105,105],[],0,8⟩,
  ⟨151,[79,112,85,77,117,108,69,120,116,101,110,100,101,100],true,true,[105,105],[],0,8⟩,
  ⟨152,[79,112,83,77,117,108,69,120,116,101,110,100,101,100],true,true,[105,105],[],0,8⟩,
  ⟨154,[79,112,65,110,121],true,true,[105],[],0,8⟩,
  ⟨155,[79,112,65,108,108],true,true,[105],[],0,8⟩,
  ⟨164,[79,112,76,111,103,105,99,97,108,69,113,117,97,108],true,true,[105,105],[],0,8⟩,
  ⟨165,[79,112,76,111,103,105,99,97,108,78,111,116,69,113,117,97,108],true,true,[105,105],[],0,8⟩,
  ⟨166,[79,112,76,111,103,105,99,97,108,79,114],true,true,[105,105],[],0,8⟩,
  ⟨167,[79,112,76,111,103,105,99,97,108,65,110,100],true,true,[105,105],[],0,8⟩,
  ⟨168,[79,112,76,111,103,105,99,97,108,78,111,116],true,true,[105],[],0,8⟩,
  ⟨169,[79,112,83,101,108,101,99,116],true,true,[105,105,105],[],0,8⟩,
  ⟨170,[79,112,73,69,113,117,97,108],true,true,[105,105],[],0,8⟩,
  ⟨171,[79,112,73,78,111,116,69,113,117,97,108],true,true,[105,105],[],0,8⟩,
  ⟨172,[79,112,85,71,114,101,97,116,101,114,84,104,97,110],true,true,[105,105],[],0,8⟩,
  ⟨173,[79,112,83,71,114,101,97,116,101,114,84,104,97,110],true,true,[105,105],[],0,8⟩,
  ⟨174,[79,112,85,71,114,101,97,116,101,114,84,104,97,110,69,113,117,97,108],true,true,[105,105],[],0,8⟩,
  ⟨175,[79,112,83,71,114,101,97,116,101,114,84,104,97,110,69,113,117,97,108],true,true,[105,105],[],0,8⟩,
  ⟨176,[79,112,85,76,101,115,115,84,104,97,110],true,true,[105,105],[],0,8⟩,
  ⟨177,[79,112,83,76,101,115,115,84,104,97,110],true,true,[105,105],[],0,8⟩,
  ⟨178,[79,112,85,76,101,115,115,84,104,97,110,69,113,117,97,108],true,true,[105,105],[],0,8⟩,
  ⟨179,[79,112,83,76,101,115,115,84,104,97,110,69,113,117,97,108],true,true,[105,105],[],0,8⟩,
  ⟨194,[79,112,83,104,105,102,116,82,105,103,104,116,76,111,103,105,99,97,108],true,true,[105,105],[],0,8⟩,
  ⟨195,[79,112,83,104,105,102,116,82,105,103,104,116,65,114,105,116,104,109,101,116,105,99],true,true,[105,105],[],0,8⟩,
  ⟨196,[79,112,83,104,105,102,116,76,101,102,116,76,111,103,105,99,97,108],true,true,[105,105],[],0,8⟩,
  ⟨197,[79,112,66,105,116,119,105,115,101,79,114],true,true,[105,105],[],0,8⟩,
  ⟨198,[79,112,66,105,116,119,105,115,101,88,111,114],true,true,[105,105],[],0,8⟩,
  ⟨199,[79,112,66,105,116,119,105,115,101,65,110,100],true,true,[105,105],[],0,8⟩,
  ⟨200,[79,112,78,111,116],true,true,[105],[],0,8⟩,
  ⟨201,[79,112,66,105,116,70,105,101,108,100,73,110,115,101,114,116],true,true,[105,105,105,105],[],0,8⟩,
  ⟨202,[79,112,66,105,116,70,105,101,108,100,83,69,120,116,114,97,99,116],true,true,[105,105,105],[],0,8⟩,
  ⟨203,[79,112,66,105,116,70,105,101,108,100,85,69,120,116,114,97,99,116],true,true,[105,105,105],[],0,8⟩,
  ⟨204,[79,112,66,105,116,82,101,118,101,114,115,101],true,true,[105],[],0,8⟩,
  ⟨205,[79,112,66,105,116,67,111,117,110,116],true,true,[105],[],0,8⟩,
  ⟨245,[79,112,80,104,105],true,true,[],[105,105],0,8⟩,
  ⟨246,[79,112,76,111,111,112,77,101,114,103,101],false,false,[105,105,103],[],0,8⟩,
  ⟨247,[79,112,83,101,108,101,99,116,105,111,110,77,101,114,103,101],false,false,[105,104],[],0,8⟩,
  ⟨248,[79,112,76,97,98,101,108],false,true,[],[],0,8⟩,
  ⟨249,[79,112,66,114,97,110,99,104],false,false,[105],[],0,8⟩,
  ⟨250,[79,112,66,114,97,110,99,104,67,111,110,100,105,116,105,111,110,97,108],false,false,[105,105,105],[],0,8⟩,
  ⟨251,[79,112,83,119,105,116,99,104],false,false,[105,105],[110,105],0,8⟩,
  ⟨252,[79,112,75,105,108,108],false,false,[],[],0,8⟩,
  ⟨253,[79,112,82,101,116,117,114,110],false,false,[],[],0,8⟩,
  ⟨254,[79,112,82,101,116,117,114,110,86,97,108,117,101],false,false,[105],[],0,8⟩,
  ⟨255,[79,112,85,110,114,101,97,99,104,97,98,108,101],false,false,[],[],0,8⟩]
structure NameL where
  letter:Int
  n:Int
  name:zcI
  deriving DecidableEq
def namesL:List NameL:=[⟨107,0,[77,97,116,114,105,120]⟩,
  ⟨107,1,[83,104,97,100,101,114]⟩,
  ⟨97,0,[76,111,103,105,99,97,108]⟩,
  ⟨109,0,[83,105,109,112,108,101]⟩,
  ⟨109,1,[71,76,83,76,52,53,48]⟩,
  ⟨101,0,[86,101,114,116,101,120]⟩,
  ⟨101,4,[70,114,97,103,109,101,110,116]⟩,
  ⟨120,7,[79,114,105,103,105,110,85,112,112,101,114,76,101,102,116]⟩,
  ⟨108,0,[85,110,107,110,111,119,110]⟩,
  ⟨108,1,[69,83,83,76]⟩,
  ⟨108,2,[71,76,83,76]⟩,
  ⟨99,1,[73,110,112,117,116]⟩,
  ⟨99,3,[79,117,116,112,117,116]⟩,
  ⟨99,6,[80,114,105,118,97,116,101]⟩,
  ⟨99,7,[70,117,110,99,116,105,111,110]⟩,
  ⟨100,0,[82,101,108,97,120,101,100,80,114,101,99,105,115,105,111,110]⟩,
  ⟨100,11,[66,117,105,108,116,73,110]⟩,
  ⟨100,14,[70,108,97,116]⟩,
  ⟨100,30,[76,111,99,97,116,105,111,110]⟩,
  ⟨102,0,[78,111,110,101]⟩,
  ⟨102,1,[73,110,108,105,110,101]⟩,
  ⟨102,2,[68,111,110,116,73,110,108,105,110,101]⟩,
  ⟨102,4,[80,117,114,101]⟩,
  ⟨102,8,[67,111,110,115,116]⟩,
  ⟨104,0,[78,111,110,101]⟩,
  ⟨104,1,[70,108,97,116,116,101,110]⟩,
  ⟨104,2,[68,111,110,116,70,108,97,116,116,101,110]⟩,
  ⟨103,0,[78,111,110,101]⟩,
  ⟨103,1,[85,110,114,111,108,108]⟩,
  ⟨103,2,[68,111,110,116,85,110,114,111,108,108]⟩]
def zig (T:List (Int × zcI)) (n:Int):zcI:=match T with
  | []=>[]
  | p :: T=>if n = p.1 then p.2 else zig T n
theorem zdK {n:Int}:∀ {T:List (Int × zcI)},(∀ p ∈ T,¬ n = p.1) → zig T n = []
  | [],_=>rfl
  | p :: T,h=>by rw [zig,if_neg (h p (.head _)),zdK fun q hq=>h q (.tail _ hq)]
def zi8 (op:Int):zcI:=if op ≤ 71 then zig zpT op else if op ≤ 171 then zig zlr op else zig thirdT op
def zua (op:Int):List FormL → Option FormL
  | []=>none
  | f :: T=>if op = f.op then some f else zua op T
def zbd (op:Int):Option FormL:=zua op refT
theorem zhw {op:Int}:∀ {T:List FormL},(∀ f ∈ T,¬ op = f.op) → zua op T = none
  | [],_=>rfl
  | f :: T,h=>by rw [zua,if_neg (h f (.head _)),zhw fun q hq=>h q (.tail _ hq)]
theorem zdo {op:Int} {f:FormL}:∀ {T:List FormL},zua op T = some f → f ∈ T ∧ f.op = op
  | [],h=>by cases h
  | g :: T, h => by
    rw [zua] at h
    split at h
    · cases h; exact ⟨.head _,by assumption |> Eq.symm⟩
    · have:=zdo h; exact ⟨.tail _ this.1,this.2⟩
def zeroF:FormL:=⟨0,[],false,false,[],[],0,0⟩
abbrev zlJ (f:FormL):List Value:=[.int .u16 f.op,str f.name,.bool f.ty,.bool f.res,str f.fixed,str f.rest,.int .i64 f.most,.int .u8 f.part]
abbrev ztI (o:Option FormL):Value:=.tuple #[.agg (zlJ (o.getD zeroF)).toArray,.bool o.isSome]
def zgS (st:Nat × List zcI) (c:UInt8):Nat × List zcI:=if c = 32 then (st.1 + 1,st.2) else (st.1,st.2.modify st.1 (· ++ [c]))
def zbp (s:zcI):Nat × List zcI:=s.foldl zgS (0,[[],[],[],[],[],[]])
def zcu (s:zcI):List zcI:=(zbp s).2
theorem zfC {s:zcI} {i:Nat} (h:i < s.length):s.take (i + 1) = s.take i ++ [s[i]]:=by rw [List.take_succ_eq_append_getElem h]
theorem zgM {s:zcI} {i:Nat} (h:i < s.length):zbp (s.take (i + 1)) = zgS (zbp (s.take i)) s[i]:=by
  unfold zbp; rw [zfC h,List.foldl_append]; rfl
theorem zfo:∀ (s:zcI) (st:Nat × List zcI),st.1 ≤ (s.foldl zgS st).1 ∧ (s.foldl zgS st).2.length = st.2.length
  | [],st=>⟨Nat.le_refl _,rfl⟩
  | c :: s, st => by
    have h:=zfo s (zgS st c)
    rw [List.foldl_cons]
    have e:st.1 ≤ (zgS st c).1 ∧ (zgS st c).2.length = st.2.length:=by
      unfold zgS; split
      · exact ⟨by simp,rfl⟩
      · exact ⟨Nat.le_refl _,by simp⟩
    exact ⟨Nat.le_trans e.1 h.1,h.2.trans e.2⟩
theorem zea (s:zcI):(zbp s).2.length = 6:=(zfo s _).2
theorem ziF {s:zcI} {i:Nat}:(zbp (s.take i)).1 ≤ (zbp s).1:=by
  have:zbp s = (s.drop i).foldl zgS (zbp (s.take i)):=by
    unfold zbp; rw [← List.foldl_append,List.take_append_drop]
  rw [this]; exact (zfo _ _).1
theorem zf1 (s:zcI):∀ i,i ≤ s.length → ∀ f ∈ (zbp (s.take i)).2,f.length ≤ i
  | 0,_=>by simp [zbp]
  | i + 1, h => by
    rw [zgM (by omega)]
    have ih:=zf1 s i O
    intro f hf
    unfold zgS at hf
    split at hf
    · have:=ih f hf; omega
    · obtain ⟨j, hj, rfl⟩ := List.getElem_of_mem hf
      simp only [List.length_modify] at hj
      rw [List.getElem_modify]
      have:=ih _ (List.getElem_mem hj)
      split <;> simp <;> omega
def zpa (s:zcI):Bool:=s.all (fun c=>c.toNat < 128) && decide ((zbp s).1 ≤ 5) && decide (s.length ≤ 100) && (zcu s).all (fun f=>f.all fun c=>c.toNat < 128) && (s == [] || !((zcu s).getD 5 []).isEmpty)
def zh7 (c:UInt8) (n:Int):Int:=IntKind.u8.wrap ((c.toNat:Int) - n)
def ofS (op:Int):Option FormL :=
  if zi8 op = [] then none
  else some ⟨op,(zcu (zi8 op)).getD 0 [],((zcu (zi8 op)).getD 1 []).contains 84,((zcu (zi8 op)).getD 1 []).contains 82,(zcu (zi8 op)).getD 2 [],(zcu (zi8 op)).getD 3 [],
    (if (zcu (zi8 op)).getD 4 [] = [] then 0 else zh7 (((zcu (zi8 op)).getD 4 []).getD 0 0) 48),zh7 (((zcu (zi8 op)).getD 5 []).getD 0 0) 48⟩
theorem znu:(List.range 256).all (fun n=>zpa (zi8 n) && decide (ofS n = zbd n)) = true:=by decide +kernel
theorem zjN:thirdT.all (fun p=>decide (p.1 ≤ 255)) = true:=by decide +kernel
theorem znv:refT.all (fun f=>decide (0 ≤ f.op ∧ f.op ≤ 255)) = true:=by decide +kernel
theorem zmm {op:Int} (h:255 < op):zi8 op = []:=by
  unfold zi8
  rw [if_neg (by omega),if_neg (by omega)]
  refine zdK fun p hp e=>?_
  have:=List.all_eq_true.1 zjN p hp
  simp only [decide_eq_true_eq] at this
  omega
theorem zrp {op:Int} (h:255 < op):zbd op = none:=zhw fun f hf e=>by
  have:=List.all_eq_true.1 znv f hf
  simp only [decide_eq_true_eq] at this
  omega
theorem zfI {op:Int} (h:0 ≤ op):zpa (zi8 op) = true ∧ ofS op = zbd op:=by
  by_cases hb:255 < op
  · have e : ofS op = none := by unfold ofS; rw [if_pos (zmm hb)]
    rw [zmm hb,zrp hb,e]; exact ⟨by decide +kernel,rfl⟩
  · have := List.all_eq_true.1 znu op.toNat (List.mem_range.2 O)
    simp only [Bool.and_eq_true,decide_eq_true_eq] at this
    rw [show ((op.toNat:Nat):Int) = op by omega] at this
    exact this
theorem ziv {s:zcI} (h:zpa s = true):(∀ c ∈ s,c.toNat < 128) ∧ (zbp s).1 ≤ 5 ∧ s.length ≤ 100 ∧ (∀ f ∈ zcu s,∀ c ∈ f,c.toNat < 128) ∧ (s = [] ∨ (zcu s).getD 5 [] ≠ []):=by
  simp only [zpa,Bool.and_eq_true,List.all_eq_true,decide_eq_true_eq,Bool.or_eq_true,beq_iff_eq,Bool.not_eq_true',List.isEmpty_eq_false_iff] at h
  exact ⟨h.1.1.1.1,h.1.1.1.2,h.1.1.2,h.1.2,h.2⟩
theorem zpb {op:Int} {f:FormL} (h:zbd op = some f):f.op = op:=(zdo h).2
def zko (f:FormL):Bool:=decide (0 ≤ f.op ∧ f.op ≤ 255) && decide (0 ≤ f.most ∧ f.most ≤ 9) && decide (f.fixed.length ≤ 40) && decide (f.rest.length ≤ 40) && decide (f.name.length ≤ 100) && decide (0 ≤ f.part ∧ f.part ≤ 9) && f.fixed.all (· != 0) && f.rest.all (· != 0)
theorem ztn:refT.all zko = true:=by decide +kernel
theorem zto {op:Int} {f:FormL} (h:zbd op = some f):zko f = true:=List.all_eq_true.1 ztn f (zdo h).1
theorem znY {l:List zcI} {n i:Nat} (h:∀ f ∈ l,f.length ≤ n):(l.getD i []).length ≤ n:=by
  by_cases hi:i < l.length
  · simp only [List.getD,List.getElem?_eq_getElem hi,Option.getD_some]; exact h _ (List.getElem_mem hi)
  · simp [List.getD,List.getElem?_eq_none (Nat.le_of_not_lt hi)]
theorem zdr {l:zcI} {i:Nat} (x:UInt8) {m:Int} (hm:((x.toNat:Nat):Int) = m) (h:i < l.length):(l.take (i + 1)).contains x = ((l.take i).contains x || decide ((l[i].toNat:Int) = m)):=by
  subst hm
  rw [zfC h,List.contains_eq_any_beq,List.any_append,← List.contains_eq_any_beq]
  congr 1
  simp only [List.any_cons,List.any_nil,Bool.or_false]
  by_cases e:x = l[i]
  · rw [e]; simp
  · rw [show (x == l[i]) = false from beq_eq_false_iff_ne.2 e]
    symm
    rw [decide_eq_false_iff_not]
    intro he
    exact e (UInt8.toNat_inj.1 O)
theorem zoY (n:Int):0 ≤ IntKind.u8.wrap n ∧ IntKind.u8.wrap n ≤ 255:=by simp [IntKind.wrap,IntKind.bits,IntKind.signed]; omega
def zps (n:Int) (c:UInt8):Int:=IntKind.u32.wrap (IntKind.u32.wrap (10 * n) + IntKind.u32.wrap ((c.toNat:Int) - 48))
def ztv (s:zcI):Int:=s.foldl zps 0
theorem zpt {s:zcI} {i:Nat} (h:i < s.length):ztv (s.take (i + 1)) = zps (ztv (s.take i)) s[i]:=by
  unfold ztv; rw [zfC h,List.foldl_append]; rfl
theorem zhc {α:Type} {p:α → Bool} {l:List α} {i:Nat} {d:α} {R:Option α} (h:(l.drop i).find? p = R) (hi:i < l.length) (hp:p (l.getD i d) = true):R = some (l.getD i d):=by
  rw [List.drop_eq_getElem_cons hi] at h
  simp only [List.getD,List.getElem?_eq_getElem hi,Option.getD_some] at hp ⊢
  rw [List.find?_cons_of_pos hp] at h
  exact h.symm
theorem zez {α:Type} {p:α → Bool} {l:List α} {i:Nat} {d:α} {R:Option α} (h:(l.drop i).find? p = R) (hi:i < l.length) (hp:p (l.getD i d) = false):(l.drop (i + 1)).find? p = R:=by
  rw [List.drop_eq_getElem_cons hi] at h
  simp only [List.getD,List.getElem?_eq_getElem hi,Option.getD_some] at hp
  rwa [List.find?_cons_of_neg (by simp [hp])] at h
theorem zhd {α:Type} {p:α → Bool} {l:List α} {i:Nat} {R:Option α} (h:(l.drop i).find? p = R) (hi:l.length ≤ i):R = none:=by
  rw [List.drop_eq_nil_of_le hi] at h; exact h.symm
def zca:NameL:=⟨0,0,[]⟩
abbrev zpz (n:NameL):List Value:=[.int .u8 n.letter,.int .u32 n.n,str n.name]
theorem zhC (n:NameL):(zpz n).length = 3:=rfl
abbrev enN (c n:Int) (x:NameL):Bool:=decide (x.letter = c ∧ x.n = n)
abbrev enS (c:Int) (s:zcI) (x:NameL):Bool:=decide (x.letter = c ∧ x.name = s)
abbrev ztw (o:Option NameL):Value:=.tuple #[str (o.getD zca).name,.bool o.isSome]
abbrev numV (o:Option NameL):Value:=.tuple #[.int .u32 (o.getD zca).n,.bool o.isSome]
def za9 (c:Int):List NameL:=namesL.filter fun x=>decide (x.letter = c)
structure EnSt where
  n:Int
  word:zcI
  num:Bool
  out:List (Int × zcI)
def zek (st:EnSt) (c:UInt8):EnSt :=
  if c ≠ 32 then ⟨st.n,st.word ++ [c],st.num,st.out⟩
  else if st.num then ⟨st.n,[],false,st.out ++ [(st.n,st.word)]⟩ else ⟨ztv st.word,[],true,st.out⟩
def enF (s:zcI):EnSt:=s.foldl zek ⟨0,[],false,[]⟩
theorem zf2 {s:zcI} {i:Nat} (h:i < s.length):enF (s.take (i + 1)) = zek (enF (s.take i)) s[i]:=by
  unfold enF; rw [zfC h,List.foldl_append]; rfl
theorem zlM (s:zcI) (hs:∀ c ∈ s,c.toNat < 128):∀ i,i ≤ s.length → (enF (s.take i)).word.length ≤ i ∧ ∀ c ∈ (enF (s.take i)).word,c.toNat < 128
  | 0,_=>by simp [enF]
  | i + 1, h => by
    have ih:=zlM s hs i O
    rw [zf2 (by omega)]
    unfold zek
    split
    · refine ⟨by simp; omega, fun c hc => ?_⟩
      rcases List.mem_append.1 hc with hc | hc
      · exact ih.2 c hc
      · rw [List.mem_singleton.1 hc]; exact hs _ (List.getElem_mem _)
    · split <;> exact ⟨by simp,by simp⟩
theorem zgL:∀ (s:zcI) (st:EnSt),∃ t,(s.foldl zek st).out = st.out ++ t
  | [],st=>⟨[],by simp⟩
  | c :: s, st => by
    obtain ⟨t,ht⟩:=zgL s (zek st c)
    rw [List.foldl_cons,ht]
    unfold zek
    split
    · exact ⟨t,rfl⟩
    · split
      · exact ⟨(st.n,st.word) :: t,by simp⟩
      · exact ⟨t,rfl⟩
theorem ztP (s:zcI) (i:Nat):∃ t,(enF s).out = (enF (s.take i)).out ++ t:=by
  have:enF s = (s.drop i).foldl zek (enF (s.take i)):=by
    unfold enF; rw [← List.foldl_append,List.take_append_drop]
  rw [this]; exact zgL _ _
theorem zmU {s:zcI} {l:List (Int × zcI)} (hl:(enF s).out = l) {i:Nat} (h:i < s.length) (hc:s[i] = 32) (hn:(enF (s.take i)).num = true) :
    (enF (s.take i)).out.length < l.length ∧ l.getD (enF (s.take i)).out.length (0,[]) = ((enF (s.take i)).n,(enF (s.take i)).word):=by
  obtain ⟨t,ht⟩:=ztP s (i + 1)
  rw [zf2 h] at ht
  have e:(zek (enF (s.take i)) s[i]).out = (enF (s.take i)).out ++ [((enF (s.take i)).n,(enF (s.take i)).word)]:=by
    unfold zek; rw [if_neg (by simp [hc]),if_pos hn]
  rw [e,List.append_assoc] at ht
  subst hl
  rw [ht]
  refine ⟨by simp,?_⟩
  simp [List.getD]
def zpy (s:zcI):Bool:=s.all (fun c=>c.toNat < 128) && decide (s.length ≤ 100)
theorem zlB:(List.range 256).all (fun n=>zpy (zig zdI n) && decide ((enF (zig zdI n)).out = (za9 n).map fun x=>(x.n,x.name))) = true:=by decide +kernel
theorem zpx {c:Int} (h0:0 ≤ c) (h1:c ≤ 255):(∀ x ∈ zig zdI c,x.toNat < 128) ∧ (zig zdI c).length ≤ 100 ∧ (enF (zig zdI c)).out = (za9 c).map fun x=>(x.n,x.name):=by
  have:=List.all_eq_true.1 zlB c.toNat (List.mem_range.2 O)
  rw [show ((c.toNat:Nat):Int) = c by omega] at this
  simp only [zpy,Bool.and_eq_true,List.all_eq_true,decide_eq_true_eq] at this
  exact ⟨this.1.1,this.1.2,this.2⟩
theorem ziH {c n:Int}:(za9 c).find? (fun x=>decide (x.n = n)) = namesL.find? (enN c n):=by
  unfold za9; rw [List.find?_filter]; congr 1; funext x
  simp [enN]
theorem zhR {c:Int} {s:zcI}:(za9 c).find? (fun x=>decide (x.name = s)) = namesL.find? (enS c s):=by
  unfold za9; rw [List.find?_filter]; congr 1; funext x
  simp [enS]
theorem zrB {α β:Type} {l:List α} {f:α → β} {k:Nat} {d:α} {d':β} (hk:k < l.length):(l.map f).getD k d' = f (l.getD k d):=by
  simp [List.getD,hk]
def zii (n:Nat):List FormL:=refT.filter fun f=>decide (f.op < (n:Int))
theorem zqo:(List.range 256).all (fun n=>decide (zii (n + 1) = zii n ++ (zbd n).toList) && decide ((zbd n).isSome = true → refT.getD (zii n).length zeroF = (zbd n).getD zeroF ∧ (zii n).length < refT.length)) = true:=by decide +kernel
theorem zhe {n:Nat} (h:n < 256):zii (n + 1) = zii n ++ (zbd n).toList ∧ ((zbd n).isSome = true → refT.getD (zii n).length zeroF = (zbd n).getD zeroF ∧ (zii n).length < refT.length):=by
  have:=List.all_eq_true.1 zqo n (List.mem_range.2 h)
  simpa only [Bool.and_eq_true,decide_eq_true_eq] using this
theorem zsj {n:Nat} (h:n < 256) (hs:(zbd n).isSome = false):zii (n + 1) = zii n:=by
  rw [(zhe h).1,show zbd n = none by simpa using hs]; simp
theorem zsi {n:Nat} (h:n < 256) (hs:(zbd n).isSome = true):zii (n + 1) = zii n ++ [(zbd n).getD zeroF]:=by
  rw [(zhe h).1]
  obtain ⟨f,hf⟩:=Option.isSome_iff_exists.1 hs
  rw [hf]; rfl
theorem zt1:zii 256 = refT:=by decide +kernel
theorem all_0:zii 0 = []:=by decide +kernel
abbrev nmF (q:zcI) (f:FormL):Bool:=decide (f.name = q)
def zb7 (c:Int):Int:=if c = 105 then 1 else if c = 110 then 2 else if c = 115 then 3 else if zig zdI c ≠ [] then 4 else 0
theorem zhB:(List.range 256).all (fun n=>decide ((zig zdI n ≠ []) ↔ (namesL.find? (fun x=>decide (x.letter = (n:Int)))).isSome = true)) = true:=by decide +kernel
theorem zpw {c:Int} (h0:0 ≤ c) (h1:c ≤ 255):(zig zdI c ≠ []) ↔ (namesL.find? (fun x=>decide (x.letter = c))).isSome = true:=by
  have:=List.all_eq_true.1 zhB c.toNat (List.mem_range.2 O)
  rw [show ((c.toNat:Nat):Int) = c by omega] at this
  simpa only [decide_eq_true_eq] using this
theorem ztp (op:Int):zko ((zbd op).getD zeroF) = true:=by
  cases h:zbd op with
  | none=>decide +kernel
  | some f=>exact zto h
structure FOk (f:FormL):Prop where
  op:0 ≤ f.op ∧ f.op ≤ 255
  most:0 ≤ f.most ∧ f.most ≤ 9
  fixed:f.fixed.length ≤ 40
  rest:f.rest.length ≤ 40
  name:f.name.length ≤ 100
  part:0 ≤ f.part ∧ f.part ≤ 9
  fix0:∀ c ∈ f.fixed,c ≠ 0
  rest0:∀ c ∈ f.rest,c ≠ 0
theorem FOk.of {f:FormL} (h:zko f = true):FOk f:=by
  simp only [zko,Bool.and_eq_true,decide_eq_true_eq,List.all_eq_true,bne_iff_ne] at h
  obtain ⟨⟨⟨⟨⟨⟨⟨h1,h2⟩,h3⟩,h4⟩,h5⟩,h6⟩,h7⟩,h8⟩:=h
  exact ⟨h1,h2,h3,h4,h5,h6,h7,h8⟩
abbrev za5 (op:Int):FormL:=(zbd op).getD zeroF
theorem zeQ (op:Int):FOk (za5 op):=FOk.of (ztp op)
def zow (f:FormL) (i:Int):Int:=if i < 0 ∨ (f.fixed.length:Int) ≤ i then 0 else ((f.fixed.getD i.toNat 0).toNat:Int)
def zfi (f:FormL) (i:Int):Int :=
  if i - f.fixed.length < 0 ∨ f.rest = [] ∨ (0 < f.most ∧ f.most * f.rest.length ≤ i - f.fixed.length) then 0
  else ((f.rest.getD ((i - f.fixed.length) % f.rest.length).toNat 0).toNat:Int)
def zaN (f:FormL) (i:Int):Int:=if i < 0 then 0 else if i < f.fixed.length then ((f.fixed.getD i.toNat 0).toNat:Int) else zfi f i
theorem zsL {f:FormL} (hf:FOk f) {i:Int} (h0:0 ≤ i) (h1:i < f.fixed.length):zow f i = ((f.fixed.getD i.toNat 0).toNat:Int) ∧ zow f i ≠ 0:=by
  have e:zow f i = ((f.fixed.getD i.toNat 0).toNat:Int):=by unfold zow; rw [if_neg (by omega)]
  refine ⟨e,?_⟩
  rw [e]
  have hi:i.toNat < f.fixed.length:=by omega
  have hc:=hf.fix0 _ (List.getElem_mem hi)
  simp only [List.getD,List.getElem?_eq_getElem hi,Option.getD_some]
  intro h
  exact hc (UInt8.toNat_inj.1 (by simpa using (by omega:f.fixed[i.toNat].toNat = 0)))
theorem znS {f:FormL} (hf:FOk f) {i:Int} (h0:0 ≤ i) (h:¬ zow f i = 0):zaN f i = zow f i:=by
  have h1:i < f.fixed.length:=by
    refine Classical.byContradiction fun hn=>h ?_
    unfold zow; rw [if_pos (by omega)]
  rw [(zsL hf h0 h1).1]; unfold zaN; rw [if_neg (by omega),if_pos h1]
theorem zhI {f:FormL} (hf:FOk f) {i:Int} (h0:0 ≤ i) (h:zow f i = 0):zaN f i = zfi f i:=by
  have h1:¬ i < f.fixed.length:=fun hn=>(zsL hf h0 hn).2 h
  unfold zaN; rw [if_neg (by omega),if_neg h1]
theorem zqg (c:UInt8):0 ≤ (c.toNat:Int) ∧ (c.toNat:Int) ≤ 255:=by have:=c.toNat_lt; omega
theorem zdN (f:FormL) (i:Int):0 ≤ zaN f i ∧ zaN f i ≤ 255:=by
  unfold zaN zfi
  have h1:=zqg (f.fixed.getD i.toNat 0)
  have h2:=zqg (f.rest.getD ((i - f.fixed.length) % f.rest.length).toNat 0)
  repeat (split; · omega)
  omega
theorem zmI (c:Int):0 ≤ zb7 c ∧ zb7 c ≤ 4:=by
  unfold zb7
  repeat (split; · omega)
  omega
theorem zje {k r m:Int} (hr:0 < r):(m ≤ k / r ↔ m * r ≤ k):=Int.le_ediv_iff_mul_le hr
theorem zhO:refT.all (fun f=>decide (refT.find? (nmF f.name) = some f)) = true:=by decide +kernel
theorem zkw {op:Int} {f:FormL} (h:zbd op = some f):refT.find? (nmF f.name) = some f:=by
  have:=List.all_eq_true.1 zhO f (zdo h).1
  simpa only [decide_eq_true_eq] using this
theorem zhP:namesL.all (fun x=>decide (namesL.find? (enS x.letter x.name) = some x) && decide (zig zdI x.letter ≠ [] ∧ zb7 x.letter = 4)) = true:=by decide +kernel
theorem zpU {c n:Int} {x:NameL} (h:namesL.find? (enN c n) = some x):x.letter = c ∧ x.n = n ∧ namesL.find? (enS c x.name) = some x ∧ zb7 c = 4:=by
  have h1:x.letter = c ∧ x.n = n:=by simpa using List.find?_some h
  have:=List.all_eq_true.1 zhP x (List.mem_of_find?_eq_some h)
  simp only [Bool.and_eq_true,decide_eq_true_eq] at this
  obtain ⟨h2,h3,h4⟩:=this
  rw [h1.1] at h2 h4
  exact ⟨h1.1,h1.2,h2,h4⟩
theorem zjW {op:Int} (h:(zbd op).isSome = false):za5 op = zeroF:=by
  rw [za5,show zbd op = none by simpa using h]; rfl
theorem zpc {op:Int} (h:(zbd op).isSome = true):refT.find? (nmF (za5 op).name) = some (za5 op) ∧ (za5 op).op = op:=by
  obtain ⟨f,hf⟩:=Option.isSome_iff_exists.1 h
  rw [za5,hf]
  exact ⟨zkw hf,zpb hf⟩
theorem zfm (i:Int):zaN zeroF i = 0:=by
  unfold zaN
  by_cases h:i < 0
  · rw [if_pos h]
  · rw [if_neg h, if_neg (by show ¬ i < 0; omega)]
    unfold zfi
    rw [if_pos (.inr (.inl rfl))]
theorem div_bd {a b:Int} (ha:0 ≤ a) (hb:0 < b):0 ≤ a / b ∧ a / b ≤ a:=⟨Int.ediv_nonneg ha O,Int.ediv_le_self b ha⟩
end Go.SK
