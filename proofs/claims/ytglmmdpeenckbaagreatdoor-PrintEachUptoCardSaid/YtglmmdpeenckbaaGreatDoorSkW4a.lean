/-
  Steps of functions,plain law,and walks of functions: what the laws rest on.
-/
import Derived.Test.YtglmmdpeenckbaaGreatDoorSkW0c
import Derived.Test.YtglmmdpeenckbaaGreatDoorSkW1a
import Derived.Test.YtglmmdpeenckbaaGreatDoorSkW2a
set_option linter.unusedVariables false
set_option linter.unusedSimpArgs false
set_option linter.unusedSectionVars false
namespace Go.SK
open Go.RowKit
theorem str_of (s:ByteArray):Value.string s = str s.data.toList:=by cases s; simp [str]
open Go.ChangeShapes Go.WideShapes Go.ChangeAt
inductive All2 {A B:Type} (R:A → B → Prop):List A → List B → Prop
  | nil:All2 R [] []
  | cons {a:A} {b:B} {xs:List A} {bs:List B}:R a b → All2 R xs bs → All2 R (a :: xs) (b :: bs)
theorem All2.of_get {A B:Type} {R:A → B → Prop}:∀ (xs:List A) (bs:List B),xs.length = bs.length → (∀ (i:Nat) (a:A) (b:B),xs[i]? = some a → bs[i]? = some b → R a b) → All2 R xs bs
  | [],[],_,_=>.nil
  | a :: xs,b :: bs,hl,h=>.cons (h 0 a b rfl rfl) (All2.of_get xs bs (by simpa using hl) (fun i x y hx hy=>h (i + 1) x y (by simpa using hx) (by simpa using hy)))
  | [],_ :: _,hl,_=>by simp at hl
  | _ :: _,[],hl,_=>by simp at hl
theorem zti {P:Program} {w:World} {r:Reach} {base:Nat} {t:TypeId} {cs:Array Value} {ts:List TypeId} (h:Row.okWide P w r base t cs) (ht:P.cellTypes P.depth t = some ts) (hs:cs.size = ts.length) :
    All2 (fun u v=>Cell.okWide P w r base u v) ts cs.toList:=by
  obtain ⟨ts',ht',_,hc⟩:=h
  rw [ht] at ht'
  obtain rfl:=Option.some.inj ht'
  refine All2.of_get _ _ (by simpa using hs.symm) fun i a b ha hb=>?_
  have hi:i < ts.length:=(List.getElem?_eq_some_iff.1 ha).1
  obtain ⟨u,hu,hok⟩:=hc i b (by simpa using hb)
  rw [Nat.mod_eq_of_lt hi,ha] at hu
  obtain rfl:=Option.some.inj hu
  exact hok
theorem agg_cells {P:Program} {w:World} {r:Reach} {base:Nat} {t:TypeId} {v:Value} {ts:List TypeId} {d:TypeDesc} (h:Value.okWide P w r base t v) (hu:P.underlying t = some d) (hd:zvj d = true)
    (ht:P.cellTypes P.depth t = some ts) (hs:P.cellsOf t = ts.length):∃ cs:List Value,v = .agg cs.toArray ∧ All2 (fun u v=>Cell.okWide P w r base u v) ts cs:=by
  simp only [Value.okWide,hu] at h
  have:∃ cs,v = .agg cs ∧ cs.size = P.cellsOf t ∧ Row.okWide P w r base t cs:=by
    cases d <;> simp [zvj] at hd <;> exact h
  obtain ⟨cs,rfl,hsz,hrow⟩:=this
  exact ⟨cs.toList,by simp,zti hrow ht (hsz.trans hs)⟩
end Go.SK
namespace Go.SK
open Go.RowKit
section
variable {P:Program} {ty:TypeId} {ρ:Operand → Value} {w:World} {C:Value → World → Prop} {T T2:TypeId} {x y:Operand} {sz bytes:Nat} {zs:List Value} {ps rs:Array TypeId} {va:Bool}
theorem zwt {fn:Go.Fn} {a b:Array Value} (hT:TyF P T (.func ps rs va) sz bytes zs):(Op.equal T (.func fn a b) .nilFunc).run P w = .ok false w:=by
  show (Op.equalIn (9999 + 1) T (.func fn a b) .nilFunc).run P w = _
  rw [Op.equalIn]
  simp [Sem.run_bind,hT.run_und,Result.andThen]
theorem zvd {fn:Go.Fn} {a b:Array Value} (hT:TyF P T (.func ps rs va) sz bytes zs) (hx:ρ x = .func fn a b) (hy:ρ y = .nilFunc) (h:C (.bool false) w):Op1 P (.binOp .eql T x y T2) ty ρ w C:=by
  refine zbT (v:=.bool false) (w':=w) ?_ h
  simp only [execOp,hx,hy,eqGuard]
  simp [binOp,zwt hT,Result.andThen]
end
open Go.ChangeShapes Go.WideShapes Go.ChangeAt
theorem idE_ne {n Y:Int}:idE n Y ≠ 0 ↔ (n = 0 ∨ n ≥ Y):=by unfold idE; split <;> simp_all
end Go.SK
namespace Go.SK
structure InstL.Okay (i:InstL):Prop where
  op:0 ≤ i.op ∧ i.op < 65536
  ty:0 ≤ i.ty ∧ i.ty < 4294967296
  res:0 ≤ i.res ∧ i.res < 4294967296
  args:∀ a ∈ i.args,(0 ≤ a.n ∧ a.n < 4294967296) ∧ 0 ≤ a.kind ∧ a.kind < 256
open Go.RowKit Go.ChangeShapes Go.WideShapes Go.ChangeAt
def zeI (P:Program) (f:Field) (off n:Nat) (d:TypeDesc):Prop:=f.offset = off ∧ P.cellsOf f.type = n ∧ P.underlying f.type = some d
structure MdTys (P:Program) (M I A:TypeId) where
  m0:Field
  m1:Field
  m2:Field
  i0:Field
  i1:Field
  i2:Field
  i3:Field
  a0:Field
  a1:Field
  a2:Field
  hM:P.underlying M = some (.struct #[m0,m1,m2])
  hI:P.underlying I = some (.struct #[i0,i1,i2,i3])
  hA:P.underlying A = some (.struct #[a0,a1,a2])
  fm0:zeI P m0 0 1 (.int .u32)
  fm1:zeI P m1 1 1 (.int .u32)
  fm2:zeI P m2 2 1 (.slice I)
  fi0:zeI P i0 0 1 (.int .u16)
  fi1:zeI P i1 1 1 (.int .u32)
  fi2:zeI P i2 2 1 (.int .u32)
  fi3:zeI P i3 3 1 (.slice A)
  fa0:zeI P a0 0 1 (.int .u8)
  fa1:zeI P a1 1 1 (.int .u32)
  fa2:zeI P a2 2 1 .string
  cM:P.cellsOf M = 3
  cI:P.cellsOf I = 4
  cA:P.cellsOf A = 3
  bI:P.bytesOf I = 40
  bA:P.bytesOf A = 24
section
variable {H:Type} {enc:TypeId × Value → H} {P:Program} {w:World} {base:Nat} {spare:Nat → Bool} {held:Bool} {M I A:TypeId}
theorem zik {t:TypeId} {f0 f1 f2:Field} {fuel:Nat} {cs:List Value} {x:DataW H × List MemPlace} (ht:P.underlying t = some (.struct #[f0,f1,f2])) (h:DataW.trod enc P w base spare held fuel t cs = some x) :
    ∃ y0 y1 y2 n, x.1 = .agg [y0.1, y1.1, y2.1] ∧ cs.length = P.cellsOf t ∧ DataW.trod enc P w base spare held n f0.type ((cs.drop f0.offset).take (P.cellsOf f0.type)) = some y0 ∧
      DataW.trod enc P w base spare held n f1.type ((cs.drop f1.offset).take (P.cellsOf f1.type)) = some y1 ∧ DataW.trod enc P w base spare held n f2.type ((cs.drop f2.offset).take (P.cellsOf f2.type)) = some y2:=by
  obtain ⟨xs,n,_,rfl,hl,hlen,hf⟩:=DataW.trod_struct ht h
  match xs,hlen with
  | [y0,y1,y2],_=>exact ⟨y0,y1,y2,n,rfl,hl,by simpa using hf 0 f0 rfl,by simpa using hf 1 f1 rfl,by simpa using hf 2 f2 rfl⟩
theorem zmD {t:TypeId} {f0 f1 f2 f3:Field} {fuel:Nat} {cs:List Value} {x:DataW H × List MemPlace} (ht:P.underlying t = some (.struct #[f0,f1,f2,f3])) (h:DataW.trod enc P w base spare held fuel t cs = some x) :
    ∃ y0 y1 y2 y3 n, x.1 = .agg [y0.1, y1.1, y2.1, y3.1] ∧ cs.length = P.cellsOf t ∧ DataW.trod enc P w base spare held n f0.type ((cs.drop f0.offset).take (P.cellsOf f0.type)) = some y0 ∧
      DataW.trod enc P w base spare held n f1.type ((cs.drop f1.offset).take (P.cellsOf f1.type)) = some y1 ∧ DataW.trod enc P w base spare held n f2.type ((cs.drop f2.offset).take (P.cellsOf f2.type)) = some y2 ∧
      DataW.trod enc P w base spare held n f3.type ((cs.drop f3.offset).take (P.cellsOf f3.type)) = some y3:=by
  obtain ⟨xs,n,_,rfl,hl,hlen,hf⟩:=DataW.trod_struct ht h
  match xs,hlen with
  | [y0,y1,y2,y3],_=>exact ⟨y0,y1,y2,y3,n,rfl,hl,by simpa using hf 0 f0 rfl,by simpa using hf 1 f1 rfl,by simpa using hf 2 f2 rfl,by simpa using hf 3 f3 rfl⟩
theorem list3 {α:Type} {l:List α} (h:l.length = 3):∃ a b c,l = [a,b,c]:=by
  match l,h with
  | [a,b,c],_=>exact ⟨a,b,c,rfl⟩
theorem list4 {α:Type} {l:List α} (h:l.length = 4):∃ a b c d,l = [a,b,c,d]:=by
  match l,h with
  | [a,b,c,d],_=>exact ⟨a,b,c,d,rfl⟩
theorem wf_u16 {n:Int} (h:(Lit.int .u16 n).wf = true):0 ≤ n ∧ n ≤ 65535:=by
  simpa [Lit.wf,IntKind.min,IntKind.max,IntKind.signed,IntKind.bits] using h
theorem zmC {n:Int} (h:(Lit.int .u32 n).wf = true):0 ≤ n ∧ n ≤ 4294967295:=by
  simpa [Lit.wf,IntKind.min,IntKind.max,IntKind.signed,IntKind.bits] using h
def ArgP.good (a:ArgP):Prop:=(0 ≤ a.kind ∧ a.kind ≤ 255) ∧ (0 ≤ a.n ∧ a.n ≤ 4294967295)
def relA {H:Type} (a:ArgP) (d:DataW H):Prop:=d = .agg [.lit (.int .u8 a.kind),.lit (.int .u32 a.n),.lit (.string a.s)]
def relL {H:Type} {α:Type} (r:α → DataW H → Prop) (l:List α) (d:DataW H):Prop:=(d = .nil ∧ l = []) ∨ ∃ elems sp,d = .slice elems sp ∧ elems.length = l.length ∧ ∀ (i:Nat) (a:α) (y:DataW H),l[i]? = some a → elems[i]? = some y → r a y
theorem zty (T:MdTys P M I A):∀ fuel cs (y:DataW H × List MemPlace),DataW.trod enc P w base spare held fuel A cs = some y → ∃ a:ArgP,cs = zdX a ∧ a.good ∧ relA a y.1:=fun fuel cs y h=>by
  obtain ⟨y0,y1,y2,n,hy,hl,h0,h1,h2⟩:=zik T.hA h
  rw [T.cA] at hl
  obtain ⟨c0,c1,c2,rfl⟩:=list3 hl
  rw [T.fa0.1,T.fa0.2.1] at h0
  rw [T.fa1.1,T.fa1.2.1] at h1
  rw [T.fa2.1,T.fa2.2.1] at h2
  obtain ⟨k,e0,rfl,w0⟩:=DataW.trod_int T.fa0.2.2 h0
  obtain ⟨m,e1,rfl,w1⟩:=DataW.trod_int T.fa1.2.2 h1
  obtain ⟨s,e2,rfl,w2⟩:=DataW.trod_string T.fa2.2.2 h2
  simp only [List.drop_zero,List.drop_succ_cons,List.take_succ_cons,List.take_zero,List.cons.injEq,and_true] at e0 e1 e2
  subst e0; subst e1; subst e2
  exact ⟨⟨k,m,s.data.toList⟩,by rw [zdX,str_of s],⟨wf_u8 w0,zmC w1⟩,hy⟩
def InstP.good (w:World) (i:InstP):Prop:=(0 ≤ i.op ∧ i.op ≤ 65535) ∧ (0 ≤ i.ty ∧ i.ty ≤ 4294967295) ∧ (0 ≤ i.res ∧ i.res ≤ 4294967295) ∧ (∀ a ∈ i.args,a.good) ∧ (Res.rargs i).holds w
def relI {H:Type} (i:InstP) (d:DataW H):Prop:=∃ da,d = .agg [.lit (.int .u16 i.op),.lit (.int .u32 i.ty),.lit (.int .u32 i.res),da] ∧ relL relA i.args da
theorem zhe {t e:TypeId} {c:Value} {n:Nat} {y:DataW H × List MemPlace} (ht:P.underlying t = some (.slice e)) (h:DataW.trod enc P w base spare held n t [c] = some y):c.cells.toList = [c]:=by
  cases n with
  | zero=>simp [DataW.trod] at h
  | succ n =>
    unfold DataW.trod at h
    rw [ht] at h
    split at h <;> simp_all
    all_goals first | rfl | (subst_vars; rfl) | skip
theorem zrA (T:MdTys P M I A):∀ fuel cs (y:DataW H × List MemPlace),DataW.trod enc P w base spare held fuel I cs = some y → ∃ i:InstP,cs = zdK i ∧ i.good w ∧ relI i y.1:=fun fuel cs y h=>by
  obtain ⟨y0,y1,y2,y3,n,hy,hl,h0,h1,h2,h3⟩:=zmD T.hI h
  rw [T.cI] at hl
  obtain ⟨c0,c1,c2,c3,rfl⟩:=list4 hl
  rw [T.fi0.1,T.fi0.2.1] at h0
  rw [T.fi1.1,T.fi1.2.1] at h1
  rw [T.fi2.1,T.fi2.2.1] at h2
  rw [T.fi3.1,T.fi3.2.1] at h3
  obtain ⟨o,e0,rfl,w0⟩:=DataW.trod_int T.fi0.2.2 h0
  obtain ⟨t,e1,rfl,w1⟩:=DataW.trod_int T.fi1.2.2 h1
  obtain ⟨r,e2,rfl,w2⟩:=DataW.trod_int T.fi2.2.2 h2
  simp only [List.drop_zero,List.drop_succ_cons,List.take_succ_cons,List.take_zero,List.cons.injEq,and_true] at e0 e1 e2 h3
  subst e0; subst e1; subst e2
  obtain ⟨ao,cap,l,rfl,hb,hg,hR,hr⟩:=zna (g:=zdX) (good:=ArgP.good) (rel:=relA) (es:=3) T.fi3.2.2 T.cA (by decide) zeA (zty T) (v:=c3) (d:=y3.1) (p:=y3.2) ⟨n,(by rw [zhe T.fi3.2.2 h3]; exact h3)⟩ (zhe T.fi3.2.2 h3)
  exact ⟨⟨o,t,r,ao,cap,l⟩,rfl,⟨wf_u16 w0,zmC w1,zmC w2,hg,hR⟩,⟨y3.1,hy,hr⟩⟩
theorem open_mod (T:MdTys P M I A) {v:Value} {d:DataW H} {p:List MemPlace} (h:DataW.Trod enc P w base spare held M v d p) (hv:∃ cs:List Value,v = .agg cs.toArray) :
    ∃ (ga ba : Int) (ao : Option Addr) (cap : Nat) (l : List InstP), v = .agg #[.int .u32 ga, .int .u32 ba, .slice ao l.length cap] ∧ (0 ≤ ga ∧ ga ≤ 4294967295) ∧ (0 ≤ ba ∧ ba ≤ 4294967295) ∧ (∀ i ∈ l, i.good w) ∧ (Res.rmod ao l).holds w ∧
      ∃ dm,d = .agg [.lit (.int .u32 ga),.lit (.int .u32 ba),dm] ∧ relL relI l dm:=by
  obtain ⟨fuel,h⟩:=h
  obtain ⟨cs,rfl⟩:=hv
  replace h:DataW.trod enc P w base spare held fuel M cs = some (d,p):=h
  obtain ⟨y0,y1,y2,n,hy,hl,h0,h1,h2⟩:=zik T.hM h
  rw [T.cM] at hl
  obtain ⟨c0,c1,c2,rfl⟩:=list3 hl
  rw [T.fm0.1,T.fm0.2.1] at h0
  rw [T.fm1.1,T.fm1.2.1] at h1
  rw [T.fm2.1,T.fm2.2.1] at h2
  obtain ⟨ga,e0,rfl,w0⟩:=DataW.trod_int T.fm0.2.2 h0
  obtain ⟨ba,e1,rfl,w1⟩:=DataW.trod_int T.fm1.2.2 h1
  simp only [List.drop_zero,List.drop_succ_cons,List.take_succ_cons,List.take_zero,List.cons.injEq,and_true] at e0 e1 h2
  subst e0; subst e1
  obtain ⟨ao,cap,l,rfl,hb,hg,hR,hr⟩:=zna (g:=zdK) (good:=InstP.good w) (rel:=relI) (es:=4) T.fm2.2.2 T.cI (by decide) zcM (zrA T) (v:=c2) (d:=y2.1) (p:=y2.2) ⟨n,(by rw [zhe T.fm2.2.2 h2]; exact h2)⟩ (zhe T.fm2.2.2 h2)
  refine ⟨ga,ba,ao,cap,l,rfl,zmC w0,zmC w1,hg,fun r hr=>?_,y2.1,hy,hr⟩
  cases hr with
  | head=>exact hR
  | tail _ hr =>
    obtain ⟨i,hi,rfl⟩:=List.mem_map.1 hr
    exact (hg i hi).2.2.2.2
end
structure BulkOk {H:Type} (f:DataW H → Nat) (fa:List (DataW H) → Nat):Prop where
  str:∀ b,b.length + 1 ≤ f (.lit (.string b))
  one:∀ d,1 ≤ f d
  agg:∀ l,fa l + 1 ≤ f (.agg l)
  slice:∀ l sp,fa l + 1 ≤ f (.slice l sp)
  cons:∀ d r,fa (d :: r) = f d + fa r
section
variable {H:Type} {f:DataW H → Nat} {fa:List (DataW H) → Nat}
theorem zqM (h:BulkOk f fa) {α:Type} {r:α → DataW H → Prop} {g:α → Nat} (hg:∀ a y,r a y → g a ≤ f y):∀ (l:List α) (elems:List (DataW H)),elems.length = l.length → (∀ (i:Nat) (a:α) (y:DataW H),l[i]? = some a → elems[i]? = some y → r a y) → (l.map g).sum ≤ fa elems
  | [],elems,_,_=>Nat.zero_le _
  | a :: l,[],hl,_=>by simp at hl
  | a :: l, y :: elems, hl, hr => by
    have h1:=hg a y (hr 0 a y rfl rfl)
    have h2:=zqM h hg l elems (by simpa using hl) (fun i b z hb hz=>hr (i + 1) b z (by simpa using hb) (by simpa using hz))
    rw [h.cons,List.map_cons,List.sum_cons]
    omega
theorem zhI (h:BulkOk f fa) {α:Type} {r:α → DataW H → Prop} {g:α → Nat} (hg:∀ a y,r a y → g a ≤ f y) {l:List α} {d:DataW H} (hr:relL r l d):(l.map g).sum ≤ f d:=by
  rcases hr with ⟨rfl,rfl⟩ | ⟨elems,sp,rfl,hl,hr⟩
  · exact Nat.zero_le _
  · have := zqM h hg l elems hl hr
    have:=h.slice elems sp
    omega
theorem zoM {α:Type} {g:α → Nat} {l:List α} {a:α} (h:a ∈ l):g a ≤ (l.map g).sum:=by
  induction l with
  | nil=>cases h
  | cons x l ih =>
    simp only [List.map_cons,List.sum_cons]
    cases h with
    | head=>omega
    | tail _ h=>have:=ih h; omega
theorem zxX {α:Type} (l:List α):(l.map fun _=>1).sum = l.length:=by
  induction l with
  | nil=>rfl
  | cons x l ih=>simp only [List.map_cons,List.sum_cons,List.length_cons,ih]; omega
theorem zqN (h:BulkOk f fa):∀ (a:ArgP) (y:DataW H),relA a y → zaT a ≤ f y ∧ a.s.length ≤ f y:=fun a y hr=>by
  obtain rfl:=hr
  have h1:=h.agg [.lit (.int .u8 a.kind),.lit (.int .u32 a.n),.lit (.string a.s)]
  rw [h.cons,h.cons,h.cons] at h1
  have h2:=h.str a.s
  have h3:=h.one (.lit (.int .u8 a.kind))
  unfold zaT
  constructor
  · split <;> omega
  · omega
structure InstP.Tiny (i:InstP):Prop where
  sum:(i.args.map zaT).sum ≤ 1048576
  txt:∀ a ∈ i.args,a.s.length ≤ 1048576
theorem zli (h:BulkOk f fa):∀ (i:InstP) (d:DataW H),relI i d → (i.args.map zaT).sum ≤ f d ∧ (i.args.map fun a=>a.s.length).sum ≤ f d:=fun i d hr=>by
  obtain ⟨da,rfl,hra⟩:=hr
  have h1:=zhI h (fun a y hy=>(zqN h a y hy).1) hra
  have h2:=zhI h (g:=fun a:ArgP=>a.s.length) (fun a y hy=>(zqN h a y hy).2) hra
  have h3:=h.agg [.lit (.int .u16 i.op),.lit (.int .u32 i.ty),.lit (.int .u32 i.res),da]
  rw [h.cons,h.cons,h.cons,h.cons] at h3
  omega
theorem bulk_mod (h:BulkOk f fa) {ga ba:Int} {l:List InstP} {d:DataW H} (hr:∃ dm,d = .agg [.lit (.int .u32 ga),.lit (.int .u32 ba),dm] ∧ relL relI l dm) (hk:f d ≤ 1048576):l.length ≤ 1048576 ∧ ∀ i ∈ l,i.Tiny:=by
  obtain ⟨dm,rfl,hr⟩:=hr
  have h0:=h.agg [.lit (.int .u32 ga),.lit (.int .u32 ba),dm]
  rw [h.cons,h.cons,h.cons] at h0
  have h1:=zhI h (g:=fun _:InstP=>1) (fun i y _=>h.one y) hr
  have h2:=zhI h (g:=fun i:InstP=>(i.args.map zaT).sum) (fun i y hy=>(zli h i y hy).1) hr
  have h3:=zhI h (g:=fun i:InstP=>(i.args.map fun a=>a.s.length).sum) (fun i y hy=>(zli h i y hy).2) hr
  rw [zxX] at h1
  refine ⟨by omega,fun i hi=>⟨?_,fun a ha=>?_⟩⟩
  · have:=zoM (g:=fun i:InstP=>(i.args.map zaT).sum) hi; omega
  · have := zoM (g := fun i : InstP => (i.args.map fun a => a.s.length).sum) hi
    have:=zoM (g:=fun a:ArgP=>a.s.length) ha
    omega
end
theorem good_okay {w:World} {i:InstP} (h:i.good w):i.L.Okay:=by
  obtain ⟨h1,h2,h3,h4,_⟩:=h
  refine ⟨⟨h1.1,by show i.op < _; omega⟩,⟨h2.1,by show i.ty < _; omega⟩,⟨h3.1,by show i.res < _; omega⟩,fun a ha=>?_⟩
  have:=h4 a ha
  obtain ⟨g1,g2⟩:=this
  exact ⟨⟨g2.1,by omega⟩,g1.1,by omega⟩
theorem zyQ {w:World} {l:List InstP} (h:l.length ≤ 1048576 ∧ ∀ i ∈ l,i.Tiny) (hg:∀ i ∈ l,i.good w):Small l :=
  ⟨by omega,fun i hi=>(hg i hi).1.1,fun i hi=>by have:=(hg i hi).1.2; omega,fun i hi=>by have:=(h.2 i hi).sum; omega,fun i hi a ha=>by have:=(h.2 i hi).txt a ha; omega⟩
end Go.SK
namespace Go.SK
theorem zsK {c bd b2:Int} {a:ArgP} (h:zbv c a bd = 0) (hb:bd ≤ b2):zbv c a b2 = 0:=by
  unfold zbv at h ⊢
  split at h
  · cases h
  rename_i h1
  rw [if_neg h1]
  split at h
  · cases h
  rename_i h2
  rw [if_neg h2]
  split at h
  · cases h
  rename_i h3
  split at h
  · cases h
  rename_i h4
  rw [if_neg (fun q=>h3 ⟨q.1,idE_ne.2 ((idE_ne.1 q.2).imp id (fun q=>by omega))⟩),if_neg h4]
  exact h
theorem zmz {fm:FormL} {bd b2:Int} (hb:bd ≤ b2):∀ (l:List ArgP) (k:Nat),zby fm bd k l = 0 → zby fm b2 k l = 0
  | [],_,_=>rfl
  | a :: r, k, h => by
    unfold zby at h ⊢
    split at h
    · rename_i h1; exact absurd h h1
    rename_i h1
    rw [if_neg (fun q=>q (zsK (Nn h1) hb))]
    exact zmz hb r (k + 1) h
theorem zxl {m:Bool} {n e bd b2:Int} (h:idH m n bd e = 0) (he:e ≠ 0) (hb:bd ≤ b2):idH m n b2 e = 0:=by
  unfold idH at h ⊢
  split at h
  · exact absurd h he
  rename_i h1
  rw [if_neg h1]
  split at h
  · cases h
  rename_i h2
  rw [if_neg (fun q=>h2 ⟨q.1,by omega⟩)]
theorem zwp {bd b2:Int} {i:InstL} (h:za7 bd i = 0) (hb:bd ≤ b2):za7 b2 i = 0:=by
  obtain ⟨h1,h2,h3,h4,h5,h6⟩:=ze1 h
  unfold za7
  rw [if_neg (by rw [h1]; simp),if_neg (fun q=>q (zxl h2 (by decide) hb)),if_neg (fun q=>q (zxl h3 (by decide) hb)),if_neg (fun q=>q (zmz hb _ _ h4)),if_neg h5,if_neg h6]
theorem ztN {bd:Int} {i:InstL} (h:za7 bd i ≠ 0):zeE bd i = ([],za7 bd i):=if_pos h
theorem zv6 {bd b2:Int} {i:InstL} (h:za7 bd i = 0) (hb:bd ≤ b2):zeE b2 i = zeE bd i:=by
  unfold zeE; rw [if_neg (by rw [zwp h hb]; simp),if_neg (by rw [h]; simp)]
theorem znj {bd:Int}:∀ (l:List InstL),(∀ i ∈ l,za7 bd i = 0 ∧ i.U32) → lnF (zcH bd l) = l.map fun i=>(zeE bd i).1
  | [],_=>rfl
  | i :: l, h => by
    obtain ⟨o,ho,hp,_⟩:=zgk (h i (.head _)).1 (h i (.head _)).2
    have e:zcH bd (i :: l) = Lib.join o [32] ++ 10 :: zcH bd l:=by
      unfold zcH; rw [List.flatMap_cons,hp]; simp
    rw [e,ziQ (zht ho),znj l (fun j hj=>h j (.tail _ hj)),List.map_cons,hp]
theorem zre {gn bd:Int} {l:List InstL} (hs:(zbl bd l).1 = 0) (hg:0 ≤ gn ∧ gn < 4294967296) (hu:∀ i ∈ l,i.U32) (hb0:0 ≤ bd):lnF (zcV gn bd l).1 = wrS (ziA gn bd) :: l.map fun i=>(zeE bd i).1:=by
  obtain ⟨hbd,hf⟩:=zgb hb0 hs
  obtain ⟨o,ho,hw,hh,hn⟩:=znu hg hbd
  unfold zcV
  rw [if_neg (by rw [hs]; simp),hw]
  dsimp only
  rw [ziQ (zht ho),znj l (fun i hi=>⟨hf i hi,hu i hi⟩)]
theorem zwd {gn bd:Int} (hg:0 ≤ gn ∧ gn < 4294967296) (hb:1 ≤ bd ∧ bd ≤ 65536):(zbn (wrS (ziA gn bd))).2 = (0,0) ∧ (zbn (wrS (ziA gn bd))).1.length = 3 ∧ ((zbn (wrS (ziA gn bd))).1.getD 0 zaM).text = modW ∧ za3 ((zbn (wrS (ziA gn bd))).1.getD 1 zaM).text = (gn,0) ∧ za3 ((zbn (wrS (ziA gn bd))).1.getD 2 zaM).text = (bd,0):=by
  have ho:wrL (ziA gn bd) = some [modW,zdW gn,zdW bd]:=za8 (zfH De) (za8 (zgC hg.1 hg.2 0) (za8 (zgC O O 0) rfl))
  rw [(zd3 (zkJ ho)).1,zgn ho]
  exact ⟨rfl,rfl,rfl,zmg hg.1 hg.2,zmg O O⟩
theorem InstL.Okay.u32 {i:InstL} (h:i.Okay):i.U32:=⟨h.ty,h.res,fun a ha=>(h.args a ha).1⟩
section
variable {gn bd:Int} {l:List InstL}
theorem zyn (hg:0 ≤ gn ∧ gn < 4294967296) (hb:0 ≤ bd ∧ bd < 4294967296):wrS (ziA gn bd) = modW ++ 32 :: (zdW gn ++ 32 :: zdW bd) ∧ wrE (ziA gn bd) = 0:=by
  have ho:wrL (ziA gn bd) = some [modW,zdW gn,zdW bd]:=za8 (zfH De) (za8 (zgC hg.1 hg.2 0) (za8 (zgC hb.1 hb.2 0) rfl))
  have:=zd3 (zkJ ho)
  rw [this.1,this.2]
  refine ⟨?_,rfl⟩
  rw [join_cons,join_cons,zfR]
end
theorem zkO {gn bd se sa:Int} {l:List InstL} {x:Tx} (h:zcV gn bd l = (x,(se,sa))):(se ≠ 0 → x = [] ∧ zbl bd l = (se,sa)) ∧ (se = 0 → sa = 0 ∧ (zbl bd l).1 = 0):=by
  unfold zcV at h
  split at h
  · rename_i q
    injection h with h1 h2
    exact ⟨fun _=>⟨h1.symm,h2⟩,fun e=>absurd (by rw [h2]; exact e) q⟩
  · rename_i q
    injection h with h1 h2
    injection h2 with h3 h4
    exact ⟨fun e=>absurd h3.symm e,fun _=>⟨h4.symm,Nn q⟩⟩
open Go.RowKit
theorem mapU {l:List InstP} (hu:∀ x ∈ l,x.L.U32):∀ y ∈ l.map InstP.L,y.U32:=fun y hy=>by obtain ⟨x,hx,rfl⟩:=List.mem_map.1 hy; exact hu x hx
theorem zrf {gn bd se sa:Int} {l:List InstP} {x:Tx} (hT:zcV gn bd (l.map InstP.L) = (x,(se,sa))) (hs0:(zbl bd (l.map InstP.L)).1 = 0) (hg:0 ≤ gn ∧ gn < 4294967296) (hb0:0 ≤ bd) (hu:∀ y ∈ l,y.L.U32):se = 0 ∧ sa = 0 ∧ x.length ≤ 16777216 ∧ zet x = ((gn,bd,l.map InstP.L),(0,0)):=by
  have h:=zmK hs0 hg (mapU hu) hb0
  rw [hT] at h
  obtain ⟨h1,h2,h3⟩:=h
  injection h1 with h4 h5
  exact ⟨h4,h5,h2,h3⟩
theorem zr3 {gn bd:Int} {l:List InstP} {x:Tx} (hT:zcV gn bd (l.map InstP.L) = (x,(0,0))) (hs0:(zbl bd (l.map InstP.L)).1 = 0) (hg:0 ≤ gn ∧ gn < 4294967296) (hb0:0 ≤ bd) (hu:∀ y ∈ l,y.L.U32) :
    (lnF x).length = l.length + 1 ∧ (lnF x).getD 0 [] = wrS (ziA gn bd) ∧ ∀ i,0 < i → i < l.length + 1 → zeE bd (l.getD (i - 1) zeroI).L = ((lnF x).getD i [],0) ∧ za7 bd (l.getD (i - 1) zeroI).L = 0:=by
  have h:=zre hs0 hg (mapU hu) hb0
  rw [hT] at h
  dsimp only at h
  rw [h]
  refine ⟨by simp,rfl,fun i hi hl=>?_⟩
  obtain ⟨k,rfl⟩:∃ k,i = k + 1:=⟨i - 1,by omega⟩
  have hk:k < l.length:=by omega
  have hm:l.getD k zeroI ∈ l:=zbJ hk
  have hf:=(zgb hb0 hs0).2 _ (List.mem_map_of_mem hm)
  have h2:=(zh1 hf (hu _ hm)).2
  rw [Nat.add_sub_cancel]
  refine ⟨?_,hf⟩
  have e:(wrS (ziA gn bd) :: (l.map InstP.L).map fun i=>(zeE bd i).1).getD (k + 1) [] = (zeE bd (l.getD k zeroI).L).1:=by
    rw [List.getD_cons_succ,List.map_map]
    simp [List.getD,List.getElem?_map,List.getElem?_eq_getElem hk]
  rw [e,h2]
theorem zwf {gn bd:Int} (hg:0 ≤ gn ∧ gn < 4294967296) (hb:0 ≤ bd ∧ bd < 4294967296):(wrS (ziA gn bd)).length ≤ 30:=by
  have h1:=zg0 hg.1 hg.2
  have h2:=zg0 hb.1 hb.2
  rw [(zyn hg hb).1]
  simp only [List.length_append,List.length_cons,modW,List.length_nil]; omega
open Go Go.Proofs Go.Proofs.Tryz
theorem zuK (p:InstP) (Y:Int) (w:World) (hG:LxG.holds w) (hA0:(Res.rargs p).holds w) (hu:p.L.U32) (hop:0 ≤ p.op) (hsm:(p.args.map zaT).sum ≤ 900000000) (hla:∀ a ∈ p.args,a.s.length ≤ 100000000000):Ret prog 33 #[.agg #[.int .u16 p.op,.int .u32 p.ty,.int .u32 p.res,.slice p.ao p.args.length p.cap],.int .u32 Y] w (fun v w'=>v = .tuple #[str (zeE Y p.L).1,.int .i64 (zeE Y p.L).2] ∧ St w NoM [] [] w'):=by
 refine zav (args:=[.agg #[.int .u16 p.op,.int .u32 p.ty,.int .u32 p.res,.slice p.ao p.args.length p.cap],.int .u32 Y]) func33 Z Z Z ?_
 have V:St w NoM [] [LxG,Res.rargs p] w:=St.init_Ds (by simp only [List.forall_mem_cons]; exact ⟨hG,hA0,fun _ h=>absurd h List.not_mem_nil⟩)
 have hyw:=zkM hu hsm
 refine SR<|Q<|zbi (v:=zbf _ _ _ _ _ _) V Z Z fun w b2 V=>AS Z<|AI Z<|G<|SQ<|SR<|Q<|zay (vs:=zbq _ _ _ _ _ _) zbo Z Z Z (zac (n:=4) (V.objL Q0) _ Z)<|MU Z ?_
 obtain ⟨⟨rop,rws⟩,re,hR⟩:∃ r e,zkV Y p.L = (r,e):=⟨_,_,rfl⟩
 have hre:=(zp8 hR).1
 refine Q (zaE (v1:=zbf _ _ _ _ _ _) (v2:=.int .u32 _) zww Z Z Z ((zkf hR hop _ (V.hD _ Q1) hsm hla).mono fun v w hp=>?_))
 obtain ⟨ro,rc,rfl,hp⟩:=hp
 replace V:St _ _ (_ :: _) _ _:=V.call0 hp
 refine Q<|zad (v:=.tuple #[gHL _ _ _ _,.int .i64 _]) Z<|Q<|Ex (gHL _ _ _ _) Z Z<|Q<|Ex (.int .i64 _) Z Z<|Q<|zar V zcK fun w b6 V=>Q (SO (v:=gHL _ _ _ _) V zcK Z Z .u0 fun w V=>?_)
 refine AI Z<|NSR<|MI Z<|Q<|zaF Z Z<|G<|zab Z (fun g1=>?_) (fun g1=>?_)
 ·refine SR <| MI Z <| AS Z <| AI Z <| G <| zaq func33 Z (TP (v := str _) Z) (TP (v := .int .i64 _) Z) ?_
  rw [ztN (by rw [← hre]; exact g1),← hre]
  exact ⟨Z,V.pure⟩
 refine zag<|SR<|Q<|zay (vs:=zbq _ _ _ _ _ _) zbo Z Z Z (zac (n:=4) (V.objL Q2) _ Z)<|Q (zao (v1:=zbf _ _ _ _ _ _) ent50 Z Z ((zj7 p _ (V.hD _ Q0) (V.hD _ Q1) hu hop hsm).mono fun v w hp=>?_))
 obtain ⟨aoK,cpK,rfl,hp⟩:=hp
 replace V:St _ _ (_ :: _) _ _:=V.call0 hp
 refine Q<|zao (v1:=.slice _ _ _) ent63 Z Z<|Ret.det (zkc (zhT p.L) _ _ _ (V.hD _ Q0) (Res.rs_of_sl (V.hL _ Q0)) hyw.2 hyw.1) V fun w V=>Q<|Ex (str _) Z Z<|Q<|Ex (.int .i64 _) Z Z<|AS Z<|AI Z<|G<|zaq func33 Z (TP (v:=str _) Z) (TP (v:=.int .i64 _) Z) ?_
 have hw:=zh1 (bd:=Y) (by rw [← hre]; exact Nn g1) hu
 rw [hw.2,hw.1]
 exact ⟨Z,V.pure⟩
theorem zlo {p:InstP} {Y e:Int} {x:Tx} (hL:zeE Y p.L = (x,e)) (w:World) (hG:LxG.holds w) (hA0:(Res.rargs p).holds w) (hu:p.L.U32) (hop:0 ≤ p.op) (hsm:(p.args.map zaT).sum ≤ 900000000) (hla:∀ a ∈ p.args,a.s.length ≤ 100000000000):Ret prog 33 #[.agg #[.int .u16 p.op,.int .u32 p.ty,.int .u32 p.res,.slice p.ao p.args.length p.cap],.int .u32 Y] w (fun v w'=>v = .tuple #[str x,.int .i64 e] ∧ St w NoM [] [] w'):=by
 have h:=zuK p Y w hG hA0 hu hop hsm hla
 rw [hL] at h; exact h
theorem zuN (s:Tx) (l:List TokL) (e a:Int) (h:zbn s = (l,(e,a))) (w:World) (hG:LxG.holds w) (hl:s.length ≤ 1099511627776):Ret prog 38 #[str s] w (fun v w'=>∃ ao cp,v = .tuple #[.slice ao l.length cp,.agg #[.int .i64 e,.int .i64 a]] ∧ St w NoM [AT 72 ao cp l] [] w'):=by
 refine (zf3 s w hG hl).mono fun v w' ⟨ao,cp,hv,V⟩=>?_
 rw [h] at hv V
 exact ⟨ao,cp,hv,V⟩
theorem zn9 (s:Tx) (a e:Int) (h:za3 s = (a,e)) (w:World) (hG:LxG.holds w) (hl:s.length ≤ 140737488355328):Ret prog 40 #[str s] w (fun v w'=>v = .tuple #[.int .u32 a,.int .i64 e] ∧ St w NoM [] [] w'):=by
 refine (zc2 s w hG hl).mono fun v w' ⟨hv,V⟩=>⟨?_,V⟩
 rw [hv,h]
theorem zkb (t:Tx) (hl:t.length ≤ 140737488355328) (bc:Nat) (w:World) (hb:(Res.row bc 9 [str t]).holds w):zq3 prog 81 [.pointer (some ⟨bc,0,none⟩)] (lnF t).length (fun j=>[.int .i64 ((j:Int) + 1),str ((lnF t).getD j [])]) (· = bc) w:=by
 intro yv R S hR hFD hy
 have hlnl:=zjB t
 have hyx:∀ (i:Nat) (r:Tx),lnR t i r → r ≠ [] → ∀ w1,St w (R 0).foot [R i] [] w1 → CallV prog yv [.int .i64 ((i:Int) + 1),str (zlf r)] w1 fun v w2=>(v = .bool true ∧ St w1 (R i).foot [R (i + 1)] [] w2) ∨ (v = .bool false ∧ St w1 (R i).foot [S i] [] w2):=fun i r hI hr w1 hw1=>by
  obtain ⟨h1,h2,_⟩:=zgH hI hr
  have t:=hy i h1 w1 hw1
  dsimp only at t
  rwa [h2] at t
 refine zav (args:=[yv,.pointer (some ⟨bc,0,none⟩)]) func81 Z Z Z ?_
 have V:St w (R 0).foot [R 0] [Res.row bc 9 [str t]] w:=St.enter1 hR (fun d hd=>by cases hd with | head=>exact hb | tail _ h=>cases h) (fun d hd=>by cases hd with | head=>exact fun b hb hb2=>hFD b hb hb2 | tail _ h=>cases h)
 refine SQ<|zaC [] V (bs:=[0,0,3]) (ds:=[some 8,some 3,some 4]) ⟨Kr,Kr,Kr⟩ (fun tab1=>?_)
 refine DO tab1 1 (fun _ _ _ hc=>zae (v:=str _) ty9 Z (hc.old (v:=Pp _ _) Z Z Z) (hc.st.cellD Q0 Z) hc.z)<|DO tab1 2 (fun _ _ _ hc=>zap (v:=.int .i64 _) Z hc.z)<|RunD.fin zaw tab1 V Z (fun f2 w R5 hs3 hd4 hr6 V=>?_)
 obtain ⟨h8_,r0⟩:=hd4 0 8 rfl rfl
 obtain ⟨h3_,r1⟩:=hd4 1 3 rfl rfl
 simp only [rg2,Fc,Fn,Mc,Mn,r0,r1,Na,An,Ca] at V
 refine zaz (sl:=[(0,_),(3,.int .i64 _),(8,str _)]) ⟨(hs3 0 Z).trans Z,h3_,h8_,trivial⟩ ?_
 clear hs3 hd4 hr6 tab1
 refine AS Z<|G<|zak<|zaY<|zaZ [(0,_)] ⟨Z,trivial⟩ (fun (qq:Nat × Tx)=>[(3,.int .i64 ((qq.1:Int) + 1)),(4,str qq.2)]) (fun (qq:Nat × Tx)=>[R qq.1]) (fun (qq:Nat × Tx)=>lnR t qq.1 qq.2) (fun (qq:Nat × Tx)=>qq.2.length) ((0,t)) V (zni t) E2 ?_
 intro ⟨i,r⟩ f w V hJ ih7
 replace V:St _ _ ([R i] ++ []) _ _:=V
 replace hJ:lnR t i r:=hJ
 refine za6 (sl:=[(3,.int .i64 ((i:Int) + 1)),(4,str r)]) E2 ?_
 have hj1:=hJ.1
 have hj3:=hJ.2.2
 refine SQ<|SR<|MS Z<|Q<|zdo Z Z<|G<|zab Z (fun g8=>?_) (fun g8=>?_)
 ·have hri := (zgH hJ g8).1
  refine zag<|SQ<|zak<|SR<|MS Z<|Q<|zaE (v1:=str _) (v2:=str _) ent82 Z Z Z<|Ret.det (zqV r _ O) V fun w V=>Q<|zad (v:=.tuple #[str _,str _,.bool _]) Z<|Q<|Ex (str _) Z Z<|Q<|Ex (str _) Z Z<|Q<|Ex (.bool _) Z Z<|AS Z<|AS Z<|AB Z<|G ?_
  refine SQ<|SR<|Q<|zad (v:=_) Z<|MI Z<|MS Z<|Q (ze6 (v1:=.int .i64 _) (v2:=str _) Z Z Z ((hyx i r hJ g8 _ V.one).mono fun v w hp=>?_))
  rcases hp with ⟨rfl,hp⟩ | ⟨rfl,hp⟩
  ·replace V := V.call1 hp
   refine Q<|zaU Z<|G<|zal (Vb (congrArg not (Z:true = _)))<|zag<|RG<|MS Z<|AS Z<|G<|zah<|RG<|MI Z<|Q<|zaA Z Z Z zbt<|AI Z<|G<|zaD ?_
   exact ih7 ((i + 1,zjY r)) _ w ((by (try dsimp only); have h:=(zgH hJ g8).2.2.2; omega)) V ((zgH hJ g8).2.2.1) ⟨rfl,trivial⟩ ⟨(Vi Od),rfl,trivial⟩
  ·replace V := V.call1 hp
   refine Q<|zaU Z<|G<|zas (Vb (congrArg not (Z:false = _)))<|zgd func81 Z  ?_
   replace V:=V.pick (.k1 .nil)
   exact .inr ⟨i,(zgH hJ g8).1,V.one⟩
 refine zaK (id:=0) Z<|zdA func81 Z  ?_
 replace V:=V.pick (.k1 .nil)
 obtain rfl:r = []:=Nn g8
 obtain rfl:=ztJ hJ
 exact .inl V.one
end Go.SK
namespace Go.SK
open Go Go.Proofs Go.Proofs.Tryz
theorem ent33:zaG prog 33:=⟨f33,_,func33,Kr,rfl⟩
theorem ty69:TyF prog 69 (.func #[142] #[] false) 1 8 [.nilFunc]:=zbp Kr Kr
open Go.RowKit
theorem zuP (gn bd:Int) (l:List InstP) (ao:Option Addr) (cp:Nat) (w:World) (hG:LxG.holds w) (hA0:(Res.rmod ao l).holds w) (hs:Small l) (hu:∀ x ∈ l,x.L.U32) (hgn:0 ≤ gn ∧ gn < 4294967296) (hbd:0 ≤ bd ∧ bd < 4294967296):Ret prog 9 #[.agg #[.int .u32 gn,.int .u32 bd,.slice ao l.length cp]] w (fun v w'=>v = .bool true ∧ St w NoM [] [] w'):=by
 refine zav (args:=[.agg #[.int .u32 gn,.int .u32 bd,.slice ao l.length cp]]) func9 Z Z Z ?_
 have V:St w NoM [] [LxG,Res.rmod ao l] w:=St.init_Ds (by simp only [List.forall_mem_cons]; exact ⟨hG,hA0,fun _ h=>absurd h List.not_mem_nil⟩)
 obtain ⟨tx,se,sa,hT⟩:∃ tx se sa,zcV gn bd (l.map InstP.L) = (tx,(se,sa)):=⟨_,_,_,rfl⟩
 refine SR<|Q<|zbi (v:=zc7 _ _ _ _ _) V Z Z fun w b1 V=>Q<|zar V ty4 fun w b2 V=>NSR<|Q<|zay (vs:=zh8 _ _ _ _ _) zcx Z Z Z (zac (n:=3) (V.objL Q1) _ Z)<|Q (zao (v1:=zc7 _ _ _ _ _) zwB Z Z ((zdn _ _ l _ _ _ (V.hD _ Q1) hs.lenC hs.laC).mono fun v w hp=>?_))
 obtain ⟨bM1,dM1,rfl,hdM1,hp⟩:=hp
 replace V:St _ _ (_ :: _) _ _:=V.call0 hp
 refine Q<|zao (v1:=zc7 _ _ _ _ _) zwA rfl rfl<|Ret.det (zgu (x:=tx) (se:=se) (sa:=sa) (by rw [hdM1]; exact hT) _ _ _ (V.hD _ Q0) (Res.rmod_of_omod (V.hL _ Q0)) (Small.of hdM1 hs) (zsZ hdM1 (mapU hu)) hgn hbd) V fun w V=>Q<|zad (v:=.tuple #[str _,gII _ _]) rfl<|Q<|Ex (str _) rfl rfl<|Q<|Ex (gII _ _) rfl rfl<|Q<|zar V zaV fun w b4 V=>AS rfl<|Q (SO (v:=gII _ _) V zaV rfl rfl .u0 fun w V=>?_)
 refine G<|SQ<|SR<|Q<|zaa zbB Z<|Q<|zae (v:=.int .i64 _) zdQ Z Z (V.cellL Q0 Z)<|Q<|zaF Z Z<|G<|zab Z (fun g1=>?_) (fun g1=>?_)
 ·obtain ⟨hz1, hz2⟩ := (zkO hT).1 g1
  subst hz1
  refine SR<|MS Z<|Q<|zcu Z Z<|MB Z<|zau (d:=30) Z (fun g2=>?_) (fun g2=>?_)
  ·refine TK (t := 30) Z (Vb (Dt g2)) (zei  zwx Z  ((zgt _ (V.hD _ Q0)).mono fun v w hp => ?_))
   obtain ⟨rfl,hp⟩:=hp
   replace V:=V.keepc hp
   refine Q<|zaB (u:=.bool _) (Vb (Dt g2)) Z<|Q (SO (v:=.bool _) V ty4 Z Z .u2 fun w V=>?_)
   refine G<|zai func9 Z (zcT (v:=.bool _) Z ty4 Z (V.cellL Q2 Z)) ?_
   exact ⟨Z,V.pure⟩
  exfalso
  exact g2 Z
 have hse:se = 0:=Nn g1
 obtain ⟨hsa,hs0⟩:=(zkO hT).2 hse
 subst hse
 subst hsa
 obtain ⟨hll,hl0,hli⟩:=zr3 hT hs0 hgn hbd.1 hu
 have hbdr:=(zgb hbd.1 hs0).1
 have hfx:=zrf hT hs0 hgn hbd.1 hu
 have hln:=hs.len
 refine zag<|SR<|Q<|zar V ty3 fun w b5 V=>Q (SO (v:=.int .i64 _) V ty3 Z Z .u0 fun w V=>?_)
 refine NSR<|MS Z<|Q (zao (v1:=str _) ent39 Z Z ((zkd tx _).mono fun v w hp=>?_))
 obtain ⟨bc,rfl,hp⟩:=hp
 replace V:St _ _ (_ :: _) _ _:=V.call0 hp
 refine Q<|zap (v:=.func _ _ _) Z<|G<|SQ<|SR<|Q<|zad (v:=.func _ _ _) Z<|Q<|zvd (fn:=_) (a:=_) (b:=_) ty69 Z Z<|G<|zaj [(1,Pp _ _),(2,Pp _ _),(5,Pp _ _),(6,.func _ _ _),(36,.bool _)] E5 fun f=>zal (Vb (Z:false = _))<|zag<|SQ<|SR<|Q (zad (v:=.func _ _ _) Z ?_)
 refine G<|zak ?_
 replace V:=V.pick (.c .u1 (.k5 .nil))
 refine zdT (L1:=[_]) (L2:=[_,_,_,_,_]) (item:=(fun j=>[.int .i64 ((j:Int) + 1),str ((lnF tx).getD j [])])) (FD:=(· = bc)) (fun i=>[Res.row b5 3 [.int .i64 (i:Int)]]) (fun _=>[Res.prop False]) (fun _=>.ret) V rfl rfl ent81 (fun b hb=>.inl (by subst hb; exact ⟨_,Q0,rfl⟩)) (fun w1 hw1=>zkb tx O bc w1 (hw1.hL _ Q1)) (fun _ _=>rfl) ?_ ?_ ?_
 ·intro i hi w bl br lp hlp V hk
  refine SR<|AI Z<|NR<|AS Z<|G<|zdZ hlp V .u0 fun w V=>zak<|SR<|Q<|zae (v:=.int .i64 _) ty3 Z Z (V.cellL Q2 Z)<|Q<|zaA Z Z Z zbt<|Q (SO (v:=.int .i64 _) V ty3 Z Z .u2 fun w V=>?_)
  refine G<|SQ<|SR<|MI Z<|Q<|zae (v:=.int .i64 _) ty3 Z Z (V.cellL Q2 Z)<|Q<|zaF Z Z<|MB Z<|zau (d:=45) Z (fun g3=>?_) (fun g3=>?_)
  ·exfalso
   omega
  refine TK (t:=45) Z (Vb (Df g3))<|zad (v:=.int .i64 _) Z<|TK (t:=45) Z (Vb (Df g3))<|zaa zbX Z<|TK (t:=45) Z (Vb (Df g3))<|zae (v:=.slice _ _ _) zdO Z Z (V.cellD Q4 Z)<|TK (t:=45) Z (Vb (Df g3))<|zaH (rest:=[]) zdO Z<|TK (t:=45) Z (Vb (Df g3))<|zaA Z Z Z zbt<|TK (t:=45) Z (Vb (Df g3))<|zbI Z Z<|Q<|zax (u:=.bool _) (Vb (Df g3)) Z<|G<|zab Z (fun g4=>?_) (fun g4=>?_)
  ·exfalso
   omega
  refine zag<|SQ<|SR<|MI Z<|Q<|zam Z Z<|G<|zab Z (fun g5=>?_) (fun g5=>?_)
  ·have hi0 : i = 0 := by omega
   have hle:((lnF tx).getD i []) = wrS (ziA gn bd):=by rw [hi0]; exact hl0
   have hh:=zwd (gn:=gn) (bd:=bd) hgn hbdr
   have hz:=zje ((lnF tx).getD i [])
   have hw30:=zwf hgn hbd
   rw [← hle] at hh hw30
   obtain ⟨⟨tl,te,ta⟩,hTK⟩:∃ r,zbn ((lnF tx).getD i []) = r:=⟨_,rfl⟩
   rw [hTK] at hh hz
   obtain ⟨hh1,hh2,hh3,hh4,hh5⟩:=hh
   dsimp only at hh1 hh2 hh3 hh4 hh5 hz
   obtain ⟨rfl,rfl⟩:te = 0 ∧ ta = 0:=by injection hh1 with h1 h2; exact ⟨h1,h2⟩
   have hw1:=zja (l:=tl) (i:=1) O
   have hw2:=zja (l:=tl) (i:=2) O
   refine SR<|MS Z<|Q (zao (v1:=str _) zyx Z Z ((zuN ((lnF tx).getD i []) tl 0 0 hTK _ (V.hD _ Q5) O).mono fun v w hp=>?_))
   obtain ⟨aoK,cpK,rfl,hp⟩:=hp
   replace V:St _ _ (_ :: _) _ _:=V.call0 hp
   refine Q<|zad (v:=.tuple #[.slice _ _ _,gII _ _]) Z<|Q<|Ex (.slice _ _ _) Z Z<|Q<|Ex (gII _ _) Z Z<|Q<|zar V zaV fun w b10 V=>AL Z<|Q (SO (v:=gII _ _) V zaV Z Z .u0 fun w V=>?_)
   refine G<|zaj [(1,Pp _ _),(2,Pp _ _),(9,.slice _ _ _),(10,Pp _ _)] E4 fun f=>SQ<|SR<|Q<|zaa zbB Z<|Q<|zae (v:=.int .i64 _) zdQ Z Z (V.cellL Q0 Z)<|Q<|zaF Z Z<|MB Z<|zau (d:=63) Z (fun g6=>?_) (fun g6=>?_)
   ·exfalso
    exact g6 Z
   refine TK (t:=63) Z (Vb (Df g6))<|zad (v:=.slice _ _ _) Z<|TK (t:=63) Z (Vb (Df g6))<|zaH (rest:=[]) zfI Z<|TK (t:=63) Z (Vb (Df g6))<|zaF Z Z<|Q<|zax (u:=.bool _) (Vb (Df g6)) Z<|MB Z<|zau (d:=68) Z (fun g7=>?_) (fun g7=>?_)
   ·exfalso
    omega
   refine TK (t:=68) Z (Vb (Df g7)) (zad (v:=.slice _ _ _) Z ?_)
   obtain ⟨bs8,rfl⟩:=Res.sl_some (V.hL _ Q1) O
   refine TK (t:=68) Z (Vb (Df g7))<|zbd zfI zbw Z Z O O<|TK (t:=68) Z (Vb (Df g7))<|zaa zbP Z<|TK (t:=68) Z (Vb (Df g7))<|zae (v:=str _) ty9 Z Z (Res.sl_cell (V.hL _ Q1) (zcO (g:=zeJ) (d:=zaM) zcP Z O))<|TK (t:=68) Z (Vb (Df g7))<|zdo Z Z<|Q<|zax (u:=.bool _) (Vb (Df g7)) Z<|G<|zab Z (fun g9=>?_) (fun g9=>?_)
   ·exfalso
    exact g9 hh3
   refine zag<|SR<|ML Z<|Q<|zbd zfI zbw Z Z O O<|Q<|zaa zbP Z<|Q<|zae (v:=str _) ty9 Z Z (Res.sl_cell (V.hL _ Q1) (zcO (g:=zeJ) (d:=zaM) zcP Z O))<|Q<|zao (v1:=str _) zpe Z Z<|Ret.det (zn9 (tl.getD ((1:Int).toNat) zaM).text gn 0 hh4 _ (V.hD _ Q5) (by show (tl.getD 1 zaM).text.length ≤ _; omega)) V fun w V=>Q<|zad (v:=.tuple #[.int .u32 _,.int .i64 _]) Z<|Q<|Ex (.int .u32 _) Z Z<|Q<|Ex (.int .i64 _) Z Z<|AU Z<|AI Z<|G<|zaj [(1,Pp _ _),(2,Pp _ _),(9,.slice _ _ _),(11,.int .u32 _),(12,.int .i64 _)] E5 (fun f=>?_)
   refine SR<|ML Z<|Q<|zbd zfI zbw Z Z O O<|Q<|zaa zbP Z<|Q<|zae (v:=str _) ty9 Z Z (Res.sl_cell (V.hL _ Q1) (zcO (g:=zeJ) (d:=zaM) zcP Z O))<|Q<|zao (v1:=str _) zpe Z Z<|Ret.det (zn9 (tl.getD ((2:Int).toNat) zaM).text bd 0 hh5 _ (V.hD _ Q5) (by show (tl.getD 2 zaM).text.length ≤ _; omega)) V fun w V=>Q<|zad (v:=.tuple #[.int .u32 _,.int .i64 _]) Z<|Q<|Ex (.int .u32 _) Z Z<|Q<|Ex (.int .i64 _) Z Z<|AU Z<|AI Z<|G<|SQ<|SQ ?_
   refine RG<|MI Z<|Q<|zaF Z Z<|MB Z<|zau (d:=93) Z (fun g10=>?_) (fun g10=>?_)
   ·exfalso
    exact g10 Z
   refine TK (t:=93) Z (Vb (Df g10))<|zad (v:=.int .i64 _) Z<|TK (t:=93) Z (Vb (Df g10))<|zaF Z Z<|Q<|zax (u:=.bool _) (Vb (Df g10)) Z<|MB Z<|zau (d:=97) Z (fun g11=>?_) (fun g11=>?_)
   ·exfalso
    exact g11 Z
   refine TK (t:=97) Z (Vb (Df g11))<|zad (v:=.int .u32 _) Z<|TK (t:=97) Z (Vb (Df g11))<|zaa zfg Z<|TK (t:=97) Z (Vb (Df g11))<|zae (v:=.int .u32 _) za9 Z Z (V.cellD Q4 Z)<|TK (t:=97) Z (Vb (Df g11))<|zaF Z Z<|Q<|zax (u:=.bool _) (Vb (Df g11)) Z<|MB Z<|zau (d:=103) Z (fun g12=>?_) (fun g12=>?_)
   ·exfalso
    exact g12 Z
   refine TK (t:=103) Z (Vb (Df g12))<|zad (v:=.int .u32 _) Z<|TK (t:=103) Z (Vb (Df g12))<|zaa zcZ Z<|TK (t:=103) Z (Vb (Df g12))<|zae (v:=.int .u32 _) za9 Z Z (V.cellD Q4 Z)<|TK (t:=103) Z (Vb (Df g12))<|zaF Z Z<|Q<|zax (u:=.bool _) (Vb (Df g12)) Z<|G<|zaj [(2,Pp _ _),(108,.bool _)] E2 fun f=>zab Z (fun g13=>?_) (fun g13=>?_)
   ·exfalso
    exact g13 Z
   refine zag<|zaK (id:=1) Z<|zdc hlp V .u2 fun w V=>?_
   replace V:=V.pick (.c .u2 (.c .u2 (.c .u2 .nil)))
   exact .inl ⟨Z,_,V⟩
  have hi1:0 < i ∧ i < l.length + 1:=by omega
  obtain ⟨hLy0,hfy⟩:=hli i hi1.1 hi1.2
  have hyk:((i:Int) + 1 - 2).toNat = i - 1:=by omega
  rw [← hyk] at hLy0 hfy
  have hyi:((i:Int) + 1 - 2).toNat < l.length:=by omega
  have hym:(l.getD (((i:Int) + 1 - 2).toNat) zeroI) ∈ l:=zbJ hyi
  have hyu:=hu _ hym
  have hyo:=hs.op _ hym
  have hys:=hs.sum _ hym
  have hyt:=hs.txt _ hym
  have hyl:=hs.laC _ hym
  have hLy2:zeE 4294967295 (l.getD (((i:Int) + 1 - 2).toNat) zeroI).L = (((lnF tx).getD i []),0):=by rw [zv6 hfy (by omega)]; exact hLy0
  refine zag<|SQ<|zaC [] V (bs:=[0,1,0,4,15,31,63,0,128,511,1023,2047,2047,4095,16383]) (ds:=[some 110,some 111,some 112,some 113,some 114,some 115,some 116,some 117,some 118,some 119,some 109,some 120,some 121,some 15,some 16]) ⟨Kr,Kr,Kr⟩ (fun tab14=>?_)
  refine DO tab14 1 (fun _ _ _ hc=>zaa zbX (hc.old (v:=Pp _ _) rfl rfl rfl) hc.z)<|DO tab14 2 (fun _ _ _ hc=>zae (v:=.slice _ _ _) zdO rfl (hc.d 0 rfl rfl rfl rfl) (hc.st.cellD Q4 rfl) hc.z)<|DO tab14 3 (fun _ _ _ hc=>zad (v:=.int .i64 _) (hc.old rfl rfl rfl) hc.z)<|DO tab14 4 (fun _ _ _ hc=>zbu (hc.d 2 rfl rfl rfl rfl) rfl rfl zbt hc.z)<|DO tab14 5 (fun _ _ _ hc=>zaR zdO zbo (Res.rmod_insts (hc.st.hD _ Q6)) (hc.d 1 rfl rfl rfl rfl) (hc.d 3 rfl rfl rfl rfl) O O hc.z)<|DO tab14 6 (fun _ _ _ hc=>zay (vs:=zbq _ _ _ _ _ _) zbo rfl (hc.d 4 rfl rfl rfl rfl) rfl (Res.rs2_cells (m:=4) (Res.rmod_insts (hc.st.hD _ Q6)) _ (zbO (g:=zdK) (d:=zeroI) zcM _ _ O)) hc.z)<|RunD.op (fun v rs=>∃ bE,v = .agg #[.int .u16 (l.getD (((i:Int) + 1 - 2).toNat) zeroI).op,.int .u32 (l.getD (((i:Int) + 1 - 2).toNat) zeroI).ty,.int .u32 (l.getD (((i:Int) + 1 - 2).toNat) zeroI).res,.slice (some ⟨bE,0,none⟩) (l.getD (((i:Int) + 1 - 2).toNat) zeroI).args.length (l.getD (((i:Int) + 1 - 2).toNat) zeroI).args.length] ∧ rs = [Res.sl (some ⟨bE,0,none⟩) (l.getD (((i:Int) + 1 - 2).toNat) zeroI).args.length (l.getD (((i:Int) + 1 - 2).toNat) zeroI).args.length 110 3 ((l.getD (((i:Int) + 1 - 2).toNat) zeroI).args.flatMap zdX)]) tab14 7 (fun _ _ _ hc=>zao (v1:=zbf _ _ _ _ _ _) zyy rfl (hc.d 5 rfl rfl rfl rfl) ((zft (l.getD (((i:Int) + 1 - 2).toNat) zeroI) _ (Res.rmod_argsI (hc.st.hD _ Q6) hyi) hyl).mono fun v w hp=>(by obtain ⟨bE,rfl,hp⟩:=hp; exact ⟨_,⟨bE,rfl,rfl⟩,hc.st.call0 hp⟩)))<|DO tab14 8 (fun _ _ _ hc=>zaa zcZ (hc.old (v:=Pp _ _) rfl rfl rfl) hc.z)<|DO tab14 9 (fun _ _ _ hc=>zae (v:=.int .u32 _) za9 rfl (hc.d 7 rfl rfl rfl rfl) (hc.st.cellD Q4 rfl) hc.z)<|RunD.op (det (.tuple #[str ((lnF tx).getD i []),.int .i64 0])) tab14 10 (fun _ _ _ hc=>by obtain ⟨_,rs,⟨bE,h116,hrs⟩,_,hm⟩:=hc.dep 6 116 rfl rfl; subst hrs; exact zaE (v1:=zbf _ _ _ _ _ _) (v2:=.int .u32 _) ent33 rfl (evs h116 rfl) (hc.d 8 rfl rfl rfl rfl) ((zlo (p:=(⟨(l.getD (((i:Int) + 1 - 2).toNat) zeroI).op,(l.getD (((i:Int) + 1 - 2).toNat) zeroI).ty,(l.getD (((i:Int) + 1 - 2).toNat) zeroI).res,some ⟨bE,0,none⟩,(l.getD (((i:Int) + 1 - 2).toNat) zeroI).args.length,(l.getD (((i:Int) + 1 - 2).toNat) zeroI).args⟩:InstP)) (x:=((lnF tx).getD i [])) (e:=0) hLy0 _ (hc.st.hD _ Q5) (Res.rs_of_sl (hc.st.hL _ (Al (hm rfl _ Q0)))) hyu hyo hys hyt).mono fun v w hp=>⟨[],⟨hp.1,rfl⟩,hc.st.keepc hp.2⟩))<|DO tab14 11 (fun _ _ _ hc=>zad (v:=.tuple #[str _,.int .i64 _]) (hc.d 9 rfl rfl rfl rfl) hc.z)<|DO tab14 12 (fun _ _ _ hc=>zbM (v:=str _) (hc.d 10 rfl rfl rfl rfl) rfl hc.z)<|DO tab14 13 (fun _ _ _ hc=>zbM (v:=.int .i64 _) (hc.d 10 rfl rfl rfl rfl) rfl hc.z)<|DO tab14 14 (fun _ _ _ hc=>zap (v:=str _) (hc.d 11 rfl rfl rfl rfl) hc.z)<|RunD.fin zaw tab14 V rfl (fun f15 w R18 hs16 hd17 hr19 V=>?_)
  obtain ⟨h110_,r0⟩:=hd17 0 110 rfl rfl
  obtain ⟨h111_,r1⟩:=hd17 1 111 rfl rfl
  obtain ⟨h112_,r2⟩:=hd17 2 112 rfl rfl
  obtain ⟨h113_,r3⟩:=hd17 3 113 rfl rfl
  obtain ⟨h114_,r4⟩:=hd17 4 114 rfl rfl
  obtain ⟨h115_,r5⟩:=hd17 5 115 rfl rfl
  obtain ⟨bE,h116_,r6⟩:=hd17 6 116 rfl rfl
  obtain ⟨h117_,r7⟩:=hd17 7 117 rfl rfl
  obtain ⟨h118_,r8⟩:=hd17 8 118 rfl rfl
  obtain ⟨h119_,r9⟩:=hd17 9 119 rfl rfl
  obtain ⟨h109_,r10⟩:=hd17 10 109 rfl rfl
  obtain ⟨h120_,r11⟩:=hd17 11 120 rfl rfl
  obtain ⟨h121_,r12⟩:=hd17 12 121 rfl rfl
  obtain ⟨h15_,r13⟩:=hd17 13 15 rfl rfl
  simp only [zyR,Fc,Fn,Mc,Mn,r0,r1,r2,r3,r4,r5,r6,r7,r8,r9,r10,r11,r12,r13,Na,An,Ca] at V
  refine zaz (sl:=[(1,Pp _ _),(2,Pp _ _),(7,.int .i64 _),(8,str _),(15,str _),(121,.int .i64 _)]) ⟨(hs16 1 Z).trans Z,(hs16 2 Z).trans Z,(hs16 7 Z).trans Z,(hs16 8 Z).trans Z,h15_,h121_,trivial⟩ ?_
  clear hs16 hd17 hr19 tab14
  refine AI Z<|G<|zaj [(1,Pp _ _),(2,Pp _ _),(7,.int .i64 _),(8,str _),(15,str _),(16,.int .i64 _)] E6 fun f=>SR<|Q<|zaa zbX Z<|Q<|zae (v:=.slice _ _ _) zdO Z Z (V.cellD Q4 Z)<|MI Z<|Q<|zbu Z Z Z zbt<|Q<|zaR zdO zbo (Res.rmod_insts (V.hD _ Q6)) Z Z O O<|Q<|zay (vs:=zbq _ _ _ _ _ _) zbo Z Z Z (Res.rs2_cells (m:=4) (Res.rmod_insts (V.hD _ Q6)) _ (zbO (g:=zdK) (d:=zeroI) zcM _ _ O))<|Q (zao (v1:=zbf _ _ _ _ _ _) zyy Z Z ((zft (l.getD (((i:Int) + 1 - 2).toNat) zeroI) _ (Res.rmod_argsI (V.hD _ Q6) hyi) hyl).mono fun v w hp=>?_))
  obtain ⟨bF,rfl,hp⟩:=hp
  replace V:St _ _ (_ :: _) _ _:=V.call0 hp
  refine Q<|zaE (v1:=zbf _ _ _ _ _ _) (v2:=.int .u32 _) ent33 Z Z Z<|Ret.det (zlo (p:=(⟨(l.getD (((i:Int) + 1 - 2).toNat) zeroI).op,(l.getD (((i:Int) + 1 - 2).toNat) zeroI).ty,(l.getD (((i:Int) + 1 - 2).toNat) zeroI).res,some ⟨bF,0,none⟩,(l.getD (((i:Int) + 1 - 2).toNat) zeroI).args.length,(l.getD (((i:Int) + 1 - 2).toNat) zeroI).args⟩:InstP)) (x:=((lnF tx).getD i [])) (e:=0) hLy2 _ (V.hD _ Q5) (Res.rs_of_sl (V.hL _ Q0)) hyu hyo hys hyt) V fun w V=>Q<|zad (v:=.tuple #[str _,.int .i64 _]) Z<|Q<|Ex (str _) Z Z<|Q<|Ex (.int .i64 _) Z Z<|AS Z<|AI Z<|NSR<|MI Z<|Q<|zaF Z Z<|MB Z<|zau (d:=135) Z (fun g20=>?_) (fun g20=>?_)
  ·exfalso
   exact g20 Z
  refine TK (t:=135) Z (Vb (Df g20))<|zad (v:=str _) Z<|TK (t:=135) Z (Vb (Df g20))<|zad (v:=str _) Z<|TK (t:=135) Z (Vb (Df g20))<|zdo Z Z<|Q<|zax (u:=.bool _) (Vb (Df g20)) Z<|MB Z<|zau (d:=140) Z (fun g21=>?_) (fun g21=>?_)
  ·exfalso
   exact g21 Z
  refine TK (t:=140) Z (Vb (Df g21))<|zad (v:=.int .i64 _) Z<|TK (t:=140) Z (Vb (Df g21))<|zaF Z Z<|Q<|zax (u:=.bool _) (Vb (Df g21)) Z<|MB Z<|zau (d:=144) Z (fun g22=>?_) (fun g22=>?_)
  ·exfalso
   exact g22 Z
  refine TK (t:=144) Z (Vb (Df g22))<|zad (v:=str _) Z<|TK (t:=144) Z (Vb (Df g22))<|zad (v:=str _) Z<|TK (t:=144) Z (Vb (Df g22))<|zdo Z Z<|Q<|zax (u:=.bool _) (Vb (Df g22)) Z<|G<|zaj [(2,Pp _ _),(148,.bool _)] E2 fun f=>zab Z (fun g23=>?_) (fun g23=>?_)
  ·exfalso
   exact g23 Z
  refine zag<|zah<|zdc hlp V .u2 fun w V=>?_
  replace V:=V.pick (.c .u2 (.c .u2 (.c .u2 .nil)))
  exact .inl ⟨Z,_,V⟩
 ·intro w bl br lp V
  refine zah<|SR<|Q<|zae (v:=.int .i64 _) ty3 Z Z (V.cellL Q2 Z)<|Q<|zaa zbX Z<|Q<|zae (v:=.slice _ _ _) zdO Z Z (V.cellL Q7 Z)<|Q<|zaH (rest:=[]) zdO Z<|Q<|zaA Z Z Z zbt<|Q<|zam Z Z<|MB Z<|zau (d:=155) Z (fun g24=>?_) (fun g24=>?_)
  ·refine TK (t := 155) Z (Vb (Dt g24)) (zei  zwx Z  ((zgt _ (V.hD _ Q0)).mono fun v w hp => ?_))
   obtain ⟨rfl,hp⟩:=hp
   replace V:=V.keepc hp
   refine Q<|zaB (u:=.bool _) (Vb (Dt g24)) Z<|Q (SO (v:=.bool _) V ty4 Z Z .u6 fun w V=>?_)
   refine G ?_
   replace V:=V.pick (.c .u1 (.k7 .nil))
   refine zbs [br] func9 V fun w V=>⟨_,zrs Z (zcT (v:=.bool _) Z ty4 Z (V.cellL Q5 Z)),?_⟩
   exact ⟨Z,V.pure⟩
  exfalso
  first | omega | (simp at g24; omega)
 ·intro i hi w bl br lp V
  exact (V.hL _ Q2:False).elim
end Go.SK
