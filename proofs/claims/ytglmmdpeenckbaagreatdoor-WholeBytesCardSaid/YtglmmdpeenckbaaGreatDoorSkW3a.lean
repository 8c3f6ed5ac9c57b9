/-
  Steps of functions,plain law,and walks of functions: what the laws rest on.
-/
import Derived.Test.YtglmmdpeenckbaaGreatDoorSkW0c
set_option linter.unusedVariables false
set_option linter.unusedSimpArgs false
set_option linter.unusedSectionVars false
namespace Go.SK
open Go.RowKit
theorem zvn {n:Int} (h1:0 ≤ n) (h2:n ≤ 65535):IntKind.u16.wrap n = n:=by
  simp [IntKind.wrap,IntKind.bits,IntKind.signed]; omega
section
variable {P:Program} {ty:TypeId} {ρ:Operand → Value} {w:World} {C:Value → World → Prop} {g:FuncId} {tys:Array TypeId}
variable {a1 a2 a3 a4 a5:Operand} {v1 v2 v3 v4 v5:Value}
theorem zsE {c:Operand} {fv:Value} (hf:ρ c = fv) (hc:CallV P fv [] w C):Op1 P (.call ⟨.value c,#[],tys⟩) ty ρ w C:=ze7 (args:=[]) hf rfl hc
variable {T:TypeId} {d:TypeDesc} {sz bytes:Nat} {zs:List Value} {k:IntKind} {a b:Int}
theorem zw7 (h1:ρ a1 = .int k a) (h2:ρ a2 = .int k b) (hc:C (.int k (if b < a then b else a)) w):Op1 P (.call ⟨.builtin .min,#[a1,a2],tys⟩) ty ρ w C :=
  zcz (args:=[a1,a2]) (fun cs=>by simp [h1,h2,Go.builtin,Builtin.min_,Builtin.min2]) hc
end
theorem Sel.right {r r':Res} {L L':List Res} (h:Sel r r' L L') (B:List Res):Sel r r' (L ++ B) (L' ++ B):=by
  induction h with
  | here=>exact .here
  | there _ ih=>exact .there ih
variable {P:Program} {b:Base} {k:List Item} {E:Frame → World → Prop} {ops:Array Oper} {f:Nat → Value} {w0 w:World} {M:Nat → Prop} {L D:List Res} {φ:Nat → zgM} {pd:zkE} {tk:zdr}
section
variable {bs:List Nat} {ds:List (Option Nat)} {i:Nat} {l:List Oper} {ws:Nat → zgM} {n:Nat} {f':Nat → Value} {L':List Res} {w':World}
theorem zpm (tk:zdr) (pd:zkE) (V:St w0 M (pd.map (·.2.1) ++ L) D w) (htab:DrawTab ops bs ds) (h:DrawTab ops bs ds → RunD tk pd P b ops bs ds k E f w0 M L D w 0 ops.toList noW) {id:Nat}:Run P b (.code (.region id ops true) :: k) f w E :=
  h htab rfl (fun i hi=>absurd hi O) id
theorem zcb {d:Option Tmp} {op:Op} {ty:TypeId} {pos:String} {aft:Array Edge} {r r':Res} (htab:DrawTab ops bs ds) (i':Nat) (hm:(i,r,r') ∈ pd)
    (hv:∀ f' L' L'' w',Know1 tk bs ds f w0 M L D i ws f' L' w' → Sel r r' (L' ++ L) (L'' ++ L) → Op1 P op ty (ev b.n f') w' (fun v w''=>v = undef ∧ St w0 M (L'' ++ L) D w''))
    (h:RunD tk pd P b ops bs ds k E f w0 M L D w i' l (zou ws i (cw (SK.det undef)))) (hi:i + 1 = i':=by rfl) (hd:zcW op = false:=by rfl) (hk:zs6 tk i = true:=by rfl):RunD tk pd P b ops bs ds k E f w0 M L D w i (⟨d,op,ty,pos,aft,none⟩ :: l) ws:=by
  subst hi
  refine RunD.cons (cw (SK.det undef)) (fun ho φ hφ hi2 o ho' f' L' L'' w' hc=>?_) h
  rw [ho] at ho'
  obtain rfl:=Option.some.inj ho'
  refine .inl ⟨rfl,hd,?_⟩
  have:=hv f' L' L'' w' (zdB htab hφ ho hc) ((hc.turn.own r r' hm (zdb hk)).right L)
  rw [hi2]
  exact this.mono fun v w hw=>⟨[],⟨hw.1,rfl⟩,hw.2⟩
theorem zcE {d:Option Tmp} {op:Op} {ty:TypeId} {pos:String} {aft:Array Edge} {j t:Nat} {c:Bool} (htab:DrawTab ops bs ds) (i':Nat)
    (hj:ds.getD j none = some t) (hg:∀ f' L' w',Know1 tk bs ds f w0 M L D i ws f' L' w' → ev b.n f' (.tmp t) = undef)
    (h:RunD tk pd P b ops bs ds k E f w0 M L D w i' l (zou ws i (cw (SK.det undef)))) (hi:i + 1 = i':=by rfl) (hp:(pd.all fun p=>!(Nat.beq p.1 i)) = true:=by rfl) (hk:zs6 tk i = true:=by rfl):RunD tk pd P b ops bs ds k E f w0 M L D w i (⟨d,op,ty,pos,aft,some (j,c)⟩ :: l) ws:=by
  subst hi
  refine RunD.cons (cw (SK.det undef)) (fun ho φ hφ hi2 o ho' f' L' L'' w' hc=>?_) h
  rw [ho] at ho'
  obtain rfl:=Option.some.inj ho'
  have hl:=zdB htab hφ ho hc
  refine .inr ⟨?_,?_,hc.turn.same (zgg hp) (zdb hk)⟩
  · have := zg9 (ops := ops) (zoL htab hj) (hg f' L' w' hl)
    simp only [Region.wanted,this]
    cases c <;> rfl
  · rw [hi2]; exact ⟨rfl,rfl⟩
theorem zuE {d:Option Tmp} {op:Op} {ty:TypeId} {pos:String} {aft:Array Edge} (wd:zgM) (htab:DrawTab ops bs ds) (i':Nat) (j t:Nat) (hm:(j,i) ∈ tk) (ht:ds.getD j none = some t)
    (hv:∀ f' L' L'' w',Know1 tk bs ds f w0 M L D i ws f' L' w' → (∃ g rs,ws j g (f' t) rs ∧ (∀ l u,zmx (bs.getD j 0) l = true → ds.getD l none = some u → g u = f' u) ∧ L'.Perm (rs ++ L'')) →
      Op1 P op ty (ev b.n f') w' (fun v w''=>∃ rs,(∀ g,(∀ l u,zmx (bs.getD i 0) l = true → ds.getD l none = some u → g u = f' u) → wd g v rs) ∧ St w0 M (rs ++ (L'' ++ L)) D w''))
    (h:RunD tk pd P b ops bs ds k E f w0 M L D w i' l (zou ws i wd)) (hj:Nat.blt j i = true:=by rfl) (hi:i + 1 = i':=by rfl) (hd:zcW op = false:=by rfl):RunD tk pd P b ops bs ds k E f w0 M L D w i (⟨d,op,ty,pos,aft,none⟩ :: l) ws:=by
  subst hi
  refine RunD.cons wd (fun ho φ hφ hi2 o ho' f' L' L'' w' hc=>?_) h
  rw [ho] at ho'
  obtain rfl:=Option.some.inj ho'
  refine .inl ⟨rfl,hd,?_⟩
  rw [hi2]
  refine (hv f' L' L'' w' (zdB htab hφ ho hc) ?_).mono fun v w'' ⟨rs,h1,h2⟩=>⟨rs,h1 _ fun l u hl hu=>zff f' (by rw [htab.waits,zdP]; exact hl) (by rw [htab.dstOf]; exact hu),h2⟩
  obtain ⟨rs,h1,h2⟩:=hc.took j t hm (by rw [htab.dstOf]; exact ht)
  rw [hφ j (by simpa using hj)] at h1
  exact ⟨_,rs,h1,fun l u hl hu=>zff f' (by rw [htab.waits,zdP]; exact hl) (by rw [htab.dstOf]; exact hu),h2⟩
end
end Go.SK
namespace Go.SK
open Go.RowKit
def EqOk (P:Program) (k:Nat) (T:TypeId) (x y:Value) (b:Bool):Prop:=∀ (d:Nat) (w:World),(Op.equalIn (d + k) T x y).run P w = .ok b w
def PartOk (P:Program) (T:TypeId) (cs:List Value) (off:Nat) (v:Value):Prop:=∀ w:World,(part T cs.toArray off).run P w = .ok v w
theorem zcc {P:Program} {T:TypeId} {k:IntKind} {sz bytes:Nat} {zs:List Value} {a b:Int} (hT:TyF P T (.int k) sz bytes zs):EqOk P 1 T (.int k a) (.int k b) (decide (a = b)):=fun d w=>by
  rw [Op.equalIn]
  simp only [Sem.run_bind,hT.run_und,Result.andThen]
  have:(a == b) = decide (a = b):=rfl
  simp [this]
theorem PartOk.one {P:Program} {T:TypeId} {d:TypeDesc} {sz bytes:Nat} {zs cs:List Value} {off:Nat} {v:Value} (hT:TyF P T d sz bytes zs) (hd:zvj d = false) (hv:cs[off]? = some v):PartOk P T cs off v:=fun w=>by
  simp only [part,Sem.run_bind,hT.run_isAgg,hd,Result.andThen]
  simp [hv]
inductive EqFields (P:Program) (k:Nat) (xs ys:List Value):List Field → List Bool → Prop
  | nil:EqFields P k xs ys [] []
  | cons {f : Field} {fs : List Field} {b : Bool} {bs : List Bool} {px py : Value} (hn : f.name ≠ "_") (hx : PartOk P f.type xs f.offset px) (hy : PartOk P f.type ys f.offset py) (h : EqOk P k f.type px py b) (hr : EqFields P k xs ys fs bs) : EqFields P k xs ys (f :: fs) (b :: bs)
theorem zcA {P:Program} {T:TypeId} {k:Nat} {fs:List Field} {xs ys:List Value} {bs:List Bool} (hu:P.underlying T = some (.struct fs.toArray)) (hs:P.stoodInHeld T = false) (h:EqFields P k xs ys fs bs) :
    EqOk P (k + 1) T (.agg xs.toArray) (.agg ys.toArray) (bs.all id):=fun d w=>by
  rw [show d + (k + 1) = (d + k) + 1 by omega,Op.equalIn]
  simp only [Sem.run_bind,run_underlying hu,Result.andThen]
  have hp:(program:Sem Program).run P w = .ok P w:=rfl
  simp only [Sem.run_bind,hp,Result.andThen,hs,Bool.false_eq_true,if_false]
  simp only [List.forIn_toArray]
  clear hu
  induction h with
  | nil=>simp
  | @cons f fs b bs px py hn hx hy h hr ih =>
    have h1:=hx w
    have h2:=hy w
    have h3:=h d w
    simp only [List.forIn_cons,Sem.run_bind,if_pos hn,h1,h2,h3,Result.andThen]
    cases b
    · simp
    · simp at ih ⊢
      exact ih
section
variable {P:Program} {ty:TypeId} {ρ:Operand → Value} {w:World} {C:Value → World → Prop} {T T2:TypeId} {x y:Operand} {k:Nat} {xs ys:List Value} {b:Bool}
theorem znK {x y:Value} (h:EqOk P k T x y b) (hk:Nat.ble k 10000 = true):(Op.equal T x y).run P w = .ok b w:=by
  have:=h (10000 - k) w
  rw [Nat.sub_add_cancel (Nat.le_of_ble_eq_true hk)] at this
  exact this
theorem zmu (hx:ρ x = .agg xs.toArray) (hy:ρ y = .agg ys.toArray) (hg:P.eqGuardType P.depth T = false) (h:EqOk P k T (.agg xs.toArray) (.agg ys.toArray) b) (hc:C (.bool b) w) (hk:Nat.ble k 10000 = true:=by rfl):Op1 P (.binOp .eql T x y T2) ty ρ w C:=by
  refine zbT (v:=.bool b) (w':=w) ?_ hc
  have hp:(program:Sem Program).run P w = .ok P w:=rfl
  simp only [execOp,hx,hy,eqGuard,binOp]
  simp [Sem.run_bind,hp,hg,Result.andThen,znK h hk]
end
section
variable {w0 w:World} {M:Nat → Prop} {L1 L2 D:List Res}
theorem St.toD (h:St w0 M (L1 ++ L2) D w):St w0 M L1 (L2 ++ D) w where
  kept:=h.kept
  hL:=fun r hr=>h.hL r (List.mem_append_left _ hr)
  hD:=fun r hr=>(List.mem_append.1 hr).elim (fun hr=>h.hL r (List.mem_append_right _ hr)) (fun hr=>h.hD r hr)
  new:=fun r hr=>h.new r (List.mem_append_left _ hr)
  sep:=(List.pairwise_append.1 h.sep).1
  sepD:=fun r hr d hd=>(List.mem_append.1 hd).elim (fun hd=>(List.pairwise_append.1 h.sep).2.2 r hr d hd) (fun hd=>h.sepD r (List.mem_append_left _ hr) d hd)
end
open Go.ChangeShapes Go.WideShapes Go.ChangeAt
theorem zxZ {P:Program} {w:World} {r:Reach} {base:Nat} {t e:TypeId} {v:Value} (h:Value.okWide P w r base t v) (hu:P.underlying t = some (.slice e)):v.cells.toList = [v]:=by
  simp only [Value.okWide,hu,Cell.okWide,Cell.ok] at h
  cases v <;> first | rfl | (simp at h)
theorem len_sized {H:Type} {P:Program} {ts:List TypeId} {ds:List (DataW H)} (hs:(DataW.weightsEach P ts ds).all (· ≤ reachBytes) = true) {j b n:Nat} {t e:TypeId} {d:DataW H} {R:List (DataW H) → Prop} {z:Prop} (ht:ts[j]? = some t) (hd:ds[j]? = some d) (hu:P.underlying t = some (.slice e)) (hb:P.bytesOf e = b)
    (hn:n = 0 ∨ ∃ elems sp,d = .slice elems sp ∧ elems.length = n ∧ R elems):n * b ≤ 140737488355328:=by
  rcases hn with rfl | ⟨elems,sp,rfl,rfl,_⟩
  · simp
  · have h1 := sized_slice hs ht hd hu
    have h2:=reachBytes_lt
    rw [hb] at h1
    have h3:elems.length * b ≤ (elems.length + sp.length) * b:=Nat.mul_le_mul_right _ O
    omega
theorem zie {α:Type} {g:α → List Value} {es:Nat} (hg:∀ a,(g a).length = es):∀ (l:List α) (k:Nat),(l.flatMap g).take (k * es) = (l.take k).flatMap g
  | [],k=>by simp
  | a :: l,0=>by simp
  | a :: l, k + 1 => by
    rw [List.flatMap_cons,List.take_succ_cons,List.flatMap_cons,show (k + 1) * es = (g a).length + k * es by rw [hg,Nat.add_mul]; omega,List.take_length_add_append,zie hg l k]
section
variable {P:Program} {ty:TypeId} {ρ:Operand → Value} {w0 w:World} {C:Value → World → Prop} {M:Nat → Prop} {L L' D:List Res}
variable {T T2 e:TypeId} {de:TypeDesc} {sz bytes es eb:Nat} {zs ez:List Value} {ao:Option Addr} {n cap:Nat} {xs:List Value}
theorem zg5 {x y:Operand} {kl kc:IntKind} {k:Nat} {kk:Int} (V:St w0 M L D w) (hT:TyF P T (.slice e) sz bytes zs) (he:TyF P e de es eb ez) (hx:ρ x = .int kl 0) (hy:ρ y = .int kc kk) (hkk:kk = (k:Int)) (hez:ez.length = es) (hes:0 < es) (hk:eb * k ≤ 281474976710656) (hk2:k ≤ 9223372036854775807)
    (h:∀ (w':World) (b:Nat),St w0 M (Res.sl (some ⟨b,0,none⟩) 0 k e es [] :: L) D w' → C (.slice (some ⟨b,0,none⟩) 0 k) w'):Op1 P (.makeSlice T x y) ty ρ w C:=by
  subst hkk
  obtain ⟨i,z,h1,h2,h3,h4,h5⟩:=he.info
  have hbb:(i.bytes:Int) * (k:Int) ≤ 281474976710656:=by
    rw [h3]
    have h:((eb * k:Nat):Int) ≤ 281474976710656:=by omega
    simpa using h
  have hr:=run_make (P:=P) w T e i z hT.und h1 h4 kl kc 0 (k:Int) O O hbb O
  refine Inv.value (v:=.slice (some ⟨w.heap.size,0,none⟩) 0 k) (w':=w.alloc (.cells (madeCells z.cells ((k:Int).toNat * i.size)) e)) ?_ (h _ _ ?_)
  · simp only [execOp, hx, hy, Sem.run_bind, hr, Result.andThen]
    rfl
  · refine V.push (Kept.alloc _ _ _) ?_ ?_
    · refine ⟨by simp, .inr ⟨_, _, _, rfl, Nat.zero_le _, zdl _ _, Nat.zero_le _, by simp [maxLen]; omega, ?_, by simp⟩⟩
      simp [madeCells,h2]
    · intro b hb
      have:some w.heap.size = some b:=hb
      cases this; exact Nat.le_refl _
theorem zf5 {x y:Operand} {a b q:Int} {i:Nat} {c:Int} (hx:ρ x = .int .u32 a) (hy:ρ y = .int .u32 b) (ha:a = q * 2 ^ i) (hq:0 ≤ q) (hb:0 ≤ b) (hb2:b < 2 ^ i) (hc:a + b = c) (hi:c < 4294967296) (h:C (.int .u32 c) w):Op1 P (.binOp .or T x y T2) ty ρ w C:=by
  have hp:(2:Int) ^ i = ((2 ^ i:Nat):Int):=by simp
  have ha0:0 ≤ a:=by rw [ha]; exact Int.mul_nonneg hq (by rw [hp]; omega)
  refine zkj (m1:=a.toNat) (m2:=b.toNat) (c:=c) hx hy (by omega) (by omega) (by show a.toNat < 4294967296; omega) (by show b.toNat < 4294967296; omega) ?_ (by rw [IntKind.wrap_u32]; omega) h
  have e:a.toNat = q.toNat * 2 ^ i:=by
    have:(a.toNat:Int) = ((q.toNat * 2 ^ i:Nat):Int):=by
      rw [Int.toNat_of_nonneg ha0,ha,Int.natCast_mul,Int.toNat_of_nonneg hq,← hp]
    omega
  have hbl:b.toNat < 2 ^ i:=by
    have:(b.toNat:Int) < ((2 ^ i:Nat):Int):=by rw [Int.toNat_of_nonneg hb,← hp]; exact hb2
    omega
  have h3:a.toNat ||| b.toNat = a.toNat + b.toNat:=by
    conv=>lhs; rw [e]
    rw [zxj _ _ _ hbl,← e]
  rw [h3]; omega
def zd4 (ao:Option Addr) (cap lo es:Nat):Option Addr:=if cap = lo then ao else ao.map (·.add (lo * es))
theorem Res.rs_sub {lo hi:Nat} (h:(Res.rs ao n es xs).holds w) (h1:lo ≤ hi) (h2:hi ≤ n) (h3:n ≤ cap):(Res.rs (zd4 ao cap lo es) (hi - lo) es ((xs.drop (lo * es)).take ((hi - lo) * es))).holds w:=by
  have hlen:((xs.drop (lo * es)).take ((hi - lo) * es)).length = (hi - lo) * es:=by
    rw [List.length_take,List.length_drop,h.1]
    have:(hi - lo) * es ≤ n * es - lo * es:=by rw [← Nat.sub_mul]; exact Nat.mul_le_mul_right _ (by omega)
    omega
  refine ⟨hlen,?_⟩
  by_cases he:hi = lo
  · exact .inl O
  · rcases h.2 with h0 | ⟨b, o, rfl, hc⟩
    · omega
    · right
      refine ⟨b,o + lo * es,?_,fun i v hi=>?_⟩
      · unfold zd4; rw [if_neg (by omega)]; simp [zcS]
      · rw [List.getElem?_take] at hi
        split at hi
        · rw [List.getElem?_drop] at hi
          have:=hc _ _ hi
          rwa [← Nat.add_assoc] at this
        · simp at hi
theorem Res.rs_subF {α:Type} {g:α → List Value} {l:List α} {lo hi:Nat} (hg:∀ a,(g a).length = es) (h:(Res.rs ao l.length es (l.flatMap g)).holds w) (h1:lo ≤ hi) (h2:hi ≤ l.length) (h3:l.length ≤ cap):(Res.rs (zd4 ao cap lo es) ((l.drop lo).take (hi - lo)).length es (((l.drop lo).take (hi - lo)).flatMap g)).holds w:=by
  have e:((l.drop lo).take (hi - lo)).length = hi - lo:=by rw [List.length_take,List.length_drop]; omega
  have:=Res.rs_sub h h1 h2 h3
  rw [e]
  rw [zeZ hg,zie hg] at this
  exact this
variable {k k2 k3:IntKind} {x y z u:Operand} {lo hi mx:Int}
theorem ziv {lo hi:Nat} {loz hiz:Int} (hT:TyF P T (.slice e) sz bytes zs) (he:TyF P e de es eb ez) (hx:ρ x = .slice ao n cap) (hy:ρ y = .int k loz) (hz:ρ z = .int k2 hiz) (hlo:loz = lo) (hhi:hiz = hi) (h1:lo ≤ hi) (h2:hi ≤ cap)
    (h:C (.slice (zd4 ao cap lo es) (hi - lo) (cap - lo)) w):Op1 P (.slice T x (some y) (some z) none) ty ρ w C:=by
  subst hlo; subst hhi
  refine zbT (v:=.slice (zd4 ao cap lo es) (hi - lo) (cap - lo)) (w':=w) ?_ h
  simp [execOp,Instr.sliceAt,Instr.slice,Instr.sliceBounds,Instr.sliceBound,asIntOf,hx,hy,hz,Sem.run_bind,hT.run_und,he.run_size,Result.andThen,h1,h2,zd4]
theorem zom {lo hi m:Nat} {loz hiz mz:Int} (hT:TyF P T (.slice e) sz bytes zs) (he:TyF P e de es eb ez) (hx:ρ x = .slice ao n cap) (hy:ρ y = .int k loz) (hz:ρ z = .int k2 hiz) (hu:ρ u = .int k3 mz) (hlo:loz = lo) (hhi:hiz = hi) (hm:mz = m) (h1:lo ≤ hi) (h2:hi ≤ m) (h3:m ≤ cap)
    (h:C (.slice (zd4 ao m lo es) (hi - lo) (m - lo)) w):Op1 P (.slice T x (some y) (some z) (some u)) ty ρ w C:=by
  subst hlo; subst hhi; subst hm
  refine zbT (v:=.slice (zd4 ao m lo es) (hi - lo) (m - lo)) (w':=w) ?_ h
  simp [execOp,Instr.sliceAt,Instr.slice,Instr.sliceBounds,Instr.sliceBound,asIntOf,hx,hy,hz,hu,Sem.run_bind,hT.run_und,he.run_size,Result.andThen,h1,h2,h3,zd4]
theorem ziu {lo:Nat} {loz:Int} (hT:TyF P T (.slice e) sz bytes zs) (he:TyF P e de es eb ez) (hx:ρ x = .slice ao n cap) (hy:ρ y = .int k loz) (hlo:loz = lo) (h1:lo ≤ n)
    (h:C (.slice (zd4 ao cap lo es) (n - lo) (cap - lo)) w):Op1 P (.slice T x (some y) none none) ty ρ w C:=by
  subst hlo
  refine zbT (v:=.slice (zd4 ao cap lo es) (n - lo) (cap - lo)) (w':=w) ?_ h
  simp [execOp,Instr.sliceAt,Instr.slice,Instr.sliceBounds,Instr.sliceBound,asIntOf,hx,hy,Sem.run_bind,hT.run_und,he.run_size,Result.andThen,h1,zd4]
theorem zol {hi:Nat} {hiz:Int} (hT:TyF P T (.slice e) sz bytes zs) (he:TyF P e de es eb ez) (hx:ρ x = .slice ao n cap) (hz:ρ z = .int k2 hiz) (hhi:hiz = hi) (h2:hi ≤ cap)
    (h:C (.slice (zd4 ao cap 0 es) (hi - 0) (cap - 0)) w):Op1 P (.slice T x none (some z) none) ty ρ w C:=by
  subst hhi
  refine zbT (v:=.slice (zd4 ao cap 0 es) (hi - 0) (cap - 0)) (w':=w) ?_ h
  simp [execOp,Instr.sliceAt,Instr.slice,Instr.sliceBounds,Instr.sliceBound,asIntOf,hx,hz,Sem.run_bind,hT.run_und,he.run_size,Result.andThen,h2,zd4]
end
end Go.SK
namespace Go.SK
theorem zb0 {P:Program} {ty:TypeId} {ρ:Operand → Value} {w:World} {C:Value → World → Prop} {x:Operand} {S D:TypeId} {k k':IntKind} {a c:Int} {ds:TypeDesc} {sz bytes sz' bytes':Nat} {zs zs':List Value} (hS:TyF P S ds sz bytes zs) (hD:TyF P D (.int k') sz' bytes' zs') (hx:ρ x = .int k a) (hw:k'.wrap a = c) (h:C (.int k' c) w):Op1 P (.convert S D x) ty ρ w C :=
  za0 hS hD hx (by rw [hw]; exact h)
open Go.RowKit Go.ChangeShapes Go.WideShapes Go.ChangeAt
theorem zdS {p:Nat → Prop} {i:Nat} (h:∀ j,j < i → p j) (hi:p i):∀ j,j < i + 1 → p j:=fun j hj=>by
  by_cases e:j = i
  · rw [e]; exact hi
  · exact h j O
theorem zsY {a b:UInt8} (h:((a.toNat:Int)) = b.toNat):a = b:=UInt8.toNat_inj.1 O
def Wd (w:List Int):Prop:=∀ x ∈ w,0 ≤ x ∧ x < 4294967296
theorem Wd.get {w:List Int} (h:Wd w) (i:Nat):0 ≤ w.getD i 0 ∧ w.getD i 0 < 4294967296:=by
  by_cases hi:i < w.length
  · simp only [List.getD,List.getElem?_eq_getElem hi,Option.getD_some]; exact h _ (List.getElem_mem hi)
  · simp [List.getD,List.getElem?_eq_none (show w.length ≤ i by omega)]
theorem zjl (b:List UInt8):Wd (zbV b):=fun x hx=>by
  obtain ⟨i,_,rfl⟩:=List.mem_map.1 hx
  exact zha b i
theorem zoN {b:List UInt8} {i:Nat} (h:i < b.length / 4):(zbV b).take (i + 1) = (zbV b).take i ++ [zds b i]:=by
  rw [zce (d:=0) (by rw [zb3]; exact h),zc0 h]
def zcG (b:List UInt8):Int:=if b.length > 4194304 then 4 else if b.length % 4 ≠ 0 then 10 else 0
def zeQ (b:List UInt8):List Int:=if zcG b = 0 then zbV b else []
theorem ztd (b:List UInt8):Wd (zeQ b):=by
  unfold zeQ; split
  · exact zjl b
  · intro x hx; cases hx
def zeo (x:Int) (k:Nat):UInt8:=UInt8.ofNat ((x / 256 ^ k) % 256).toNat
theorem zdM (x:Int) (k:Nat):((zeo x k).toNat:Int) = (x / 256 ^ k) % 256:=by
  unfold zeo
  have h:0 ≤ (x / 256 ^ k) % 256:=Int.emod_nonneg _ De
  have h2:(x / 256 ^ k) % 256 < 256:=Int.emod_lt_of_pos _ De
  rw [UInt8.toNat_ofNat']
  omega
def zlh (w:List Int) (k:Nat):UInt8:=zeo (w.getD (k / 4) 0) (k % 4)
def zbk (w:List Int):List UInt8:=(List.range (4 * w.length)).map (zlh w)
theorem zbc (w:List Int):(zbk w).length = 4 * w.length:=by simp [zbk]
theorem zdd {w:List Int} {i:Nat} (h:i < 4 * w.length):(zbk w).getD i 0 = zlh w i:=by
  simp [zbk,List.getD,h]
end Go.SK
namespace Go.SK
theorem zgr (x:Int) (i:Nat):x / 256 ^ i / 256 = x / 256 ^ (i + 1):=by
  rw [Int.pow_succ,Int.ediv_ediv_of_nonneg (Int.le_of_lt (Int.pow_pos (by decide)))]
theorem zmR {b:List UInt8} (h:b.length > 4194304):zcG b = 4:=if_pos h
theorem zrm {b:List UInt8} (h:¬ b.length > 4194304) (h2:b.length % 4 ≠ 0):zcG b = 10:=by unfold zcG; rw [if_neg h,if_pos h2]
theorem ztf {b:List UInt8} (h:¬ b.length > 4194304) (h2:b.length % 4 = 0):zcG b = 0:=by unfold zcG; rw [if_neg h,if_neg (by omega)]
theorem zkP {b:List UInt8} (h:zcG b ≠ 0):zeQ b = []:=if_neg h
theorem zjm {b:List UInt8} (h:zcG b = 0):zeQ b = zbV b:=if_pos h
theorem wrap8 (n:Int):IntKind.u8.wrap n = n % 256:=by simp [IntKind.wrap,IntKind.signed,IntKind.bits]
theorem zda (x:Int) (k:Nat):IntKind.u8.wrap (x / 256 ^ k) = ((zeo x k).toNat:Int):=by rw [wrap8,zdM]
theorem zhX (x:Int):IntKind.u8.wrap x = ((zeo x 0).toNat:Int):=by rw [wrap8,zdM,Int.pow_zero,Int.ediv_one]
theorem znP (x:Int):x / 256 = x / 256 ^ 1:=by rw [Int.pow_one]
theorem zo7 {l:List Int} {i:Nat} (h:i < 4 * l.length):(zbk l).take (i + 1) = (zbk l).take i ++ [zlh l i]:=by
  rw [zce (d:=0) (by rw [zbc]; exact h),zdd h]
theorem zj0 (l:List Int) (j t:Nat) (ht:t < 4):zlh l (4 * j + t) = zeo (l.getD j 0) t:=by
  unfold zlh
  rw [show (4 * j + t) / 4 = j by omega,show (4 * j + t) % 4 = t by omega]
theorem zea {l:List Int} {j:Nat} (t:Nat) (ht:t < 4) (h:j < l.length):(zbk l).take (4 * j + t + 1) = (zbk l).take (4 * j + t) ++ [zeo (l.getD j 0) t]:=by
  rw [zo7 (by omega),zj0 _ _ _ ht]
theorem zo6 {l:List Int} {j:Nat} (h:j < l.length):(zbk l).take (4 * (j + 1)) = (((((zbk l).take (4 * j) ++ [zeo (l.getD j 0) 0]) ++ [zeo (l.getD j 0) 1]) ++ [zeo (l.getD j 0) 2]) ++ [zeo (l.getD j 0) 3]):=by
  rw [show 4 * (j + 1) = 4 * j + 3 + 1 by omega,zea 3 (by decide) h,zea 2 (by decide) h,zea 1 (by decide) h]
  rw [show 4 * j + 1 = 4 * j + 0 + 1 by omega,zea 0 (by decide) h]
  rfl
theorem zjD {l:List Int} {j:Nat} (h:j < l.length):((zbk l).take (4 * (j + 1))).flatMap byC = (((((zbk l).take (4 * j)).flatMap byC ++ byC (zeo (l.getD j 0) 0)) ++ byC (zeo (l.getD j 0) 1)) ++ byC (zeo (l.getD j 0) 2)) ++ byC (zeo (l.getD j 0) 3):=by
  rw [zo6 h]; simp only [List.flatMap_append,List.flatMap_cons,List.flatMap_nil,List.append_nil]
def zdH (l:List Int):List UInt8 × Int × Int :=
  if zbr (zbk l) = 4 * l.length then ([],0,11)
  else if l.getD (zbr (zbk l) / 4) 0 / 256 ^ (zbr (zbk l) % 4) ≠ 0 then ([],0,12)
  else ((zbk l).take (zbr (zbk l)),((zbr (zbk l) / 4 + 1:Nat):Int),0)
abbrev textV (t:List UInt8 × Int × Int):Value:=.tuple #[str t.1,.int .i64 t.2.1,.int .i64 t.2.2]
theorem zrj {l:List Int} (hn:∀ q,q < 4 * l.length → (zbk l).getD q 0 ≠ 0):zdH l = ([],0,11):=by
  unfold zdH; rw [if_pos (by rw [zeM (by rw [zbc]; exact hn),zbc])]
section
variable {l:List Int} {j t:Nat}
theorem nzT (hj:j < l.length) (ht:t < 4) (h:¬ ((zeo (l.getD j 0) t).toNat:Int) = 0):(zbk l).getD (4 * j + t) 0 ≠ 0:=by
  rw [zdd (by omega),zj0 _ _ _ ht]; exact byte1 h
theorem zxd (hj:j < l.length) (ht:t < 4) (hz:((zeo (l.getD j 0) t).toNat:Int) = 0) (hn:∀ q,q < 4 * j + t → (zbk l).getD q 0 ≠ 0):zbr (zbk l) = 4 * j + t :=
  zly (by rw [zbc]; omega) (by rw [zdd (by omega),zj0 _ _ _ ht]; exact byte0 hz) hn
theorem zhc (hj:j < l.length) (ht:t < 4) (hz:((zeo (l.getD j 0) t).toNat:Int) = 0) (hn:∀ q,q < 4 * j + t → (zbk l).getD q 0 ≠ 0) (hx:l.getD j 0 / 256 ^ t ≠ 0):zdH l = ([],0,12):=by
  unfold zdH
  rw [zxd hj ht hz hn,if_neg (by omega),show (4 * j + t) / 4 = j by omega,show (4 * j + t) % 4 = t by omega,if_pos hx]
theorem ziH (hj:j < l.length) (ht:t < 4) (hz:((zeo (l.getD j 0) t).toNat:Int) = 0) (hn:∀ q,q < 4 * j + t → (zbk l).getD q 0 ≠ 0) (hx:l.getD j 0 / 256 ^ t = 0):zdH l = ((zbk l).take (4 * j + t),((j + 1:Nat):Int),0):=by
  unfold zdH
  rw [zxd hj ht hz hn,if_neg (by omega),show (4 * j + t) / 4 = j by omega,show (4 * j + t) % 4 = t by omega,if_neg (fun h=>h hx)]
theorem zeW (hj:j < l.length) (ht:t < 4):((zbk l).take (4 * j + t + 1)).flatMap byC = ((zbk l).take (4 * j + t)).flatMap byC ++ byC (zeo (l.getD j 0) t):=by
  rw [zea t ht hj,List.flatMap_append]; rfl
end
theorem zme {x:Int} {t u:Nat} (h:x / 256 ^ t = 0) (hu:t ≤ u):x / 256 ^ u = 0:=by
  obtain ⟨d,rfl⟩:=Nat.exists_eq_add_of_le hu
  rw [Int.pow_add,← Int.ediv_ediv_of_nonneg (Int.le_of_lt (Int.pow_pos (by decide))),h]; simp
theorem zhH (l:List Int) (n:Nat):zlh l n = zeo (l.getD (n / 4) 0) (n % 4):=rfl
open Go.RowKit Go.ChangeShapes Go.WideShapes Go.ChangeAt
abbrev RdR (T e:TypeId) (b:Nat) (ao:Option Addr) (cp:Nat) (l:List Int) (a:Nat):Res:=Res.star [Res.row b T [.slice ao l.length cp,.int .i64 (a:Int)],Res.sl ao l.length cp e 1 (l.flatMap zci)]
theorem RdR.row {T e:TypeId} {b:Nat} {ao:Option Addr} {cp a:Nat} {l:List Int} {w:World} (h:(RdR T e b ao cp l a).holds w):(Res.row b T [.slice ao l.length cp,.int .i64 (a:Int)]).holds w:=h.1 _ (.head _)
theorem rs_one {ao:Option Addr} {cap a:Nat} {l:List Int} {w:World} (h:(Res.rs ao l.length 1 (l.flatMap zci)).holds w) (ha:a < l.length) (hc:l.length ≤ cap):(Res.rs (zd4 ao cap a 1) (a + 1 - a) 1 ([l.getD a 0].flatMap zci)).holds w:=by
  have h1:=Res.rs_subF (lo:=a) (hi:=a + 1) zcC h O O hc
  have e:(l.drop a).take (a + 1 - a) = [l.getD a 0]:=by
    have hg:l.getD a 0 = l[a]:=by simp [List.getD,ha]
    rw [show a + 1 - a = 1 by omega,List.drop_eq_getElem_cons ha,hg]; rfl
  rw [e] at h1
  rw [show a + 1 - a = 1 by omega]
  exact h1
theorem zth {ao:Option Addr} {cap a:Nat} {l:List Int} {w:World} (h:(Res.rs ao l.length 1 (l.flatMap zci)).holds w) (ha:a ≤ l.length) (hc:l.length ≤ cap):(Res.rs (zd4 ao cap a 1) (l.length - a) 1 ((l.drop a).flatMap zci)).holds w:=by
  have h1:=Res.rs_subF (lo:=a) (hi:=l.length) zcC h ha (Nat.le_refl _) hc
  have e:(l.drop a).take (l.length - a) = l.drop a:=List.take_of_length_le (by rw [List.length_drop]; exact Nat.le_refl _)
  rw [e,List.length_drop] at h1
  exact h1
theorem ztg {ao:Option Addr} {cap a n:Nat} {l:List Int} {w:World} (h:(Res.rs ao l.length 1 (l.flatMap zci)).holds w) (ha:a + n ≤ l.length) (hc:l.length ≤ cap):(Res.rs (zd4 ao cap a 1) (a + n - a) 1 (((l.drop a).take n).flatMap zci)).holds w:=by
  have h1:=Res.rs_subF (lo:=a) (hi:=a + n) zcC h O ha hc
  rw [show a + n - a = n by omega] at h1 ⊢
  have e:((l.drop a).take n).length = n:=by rw [List.length_take,List.length_drop]; omega
  rw [e] at h1
  exact h1
theorem zji (l:List Int):(∃ e:Int,zdH l = ([],0,e) ∧ (e = 11 ∨ e = 12)) ∨ ∃ (s:List UInt8) (n:Nat),zdH l = (s,(n:Int),0) ∧ 1 ≤ n ∧ n ≤ l.length ∧ s.length < 4 * n:=by
  unfold zdH
  by_cases h1:zbr (zbk l) = 4 * l.length
  · rw [if_pos h1]; exact .inl ⟨11,rfl,.inl rfl⟩
  · rw [if_neg h1]
    by_cases h2:l.getD (zbr (zbk l) / 4) 0 / 256 ^ (zbr (zbk l) % 4) ≠ 0
    · rw [if_pos h2]; exact .inl ⟨12,rfl,.inr rfl⟩
    · rw [if_neg h2]
      have hle:zbr (zbk l) ≤ (zbk l).length:=List.findIdx_le_length
      rw [zbc] at hle
      exact .inr ⟨_,_,rfl,by omega,by omega,by rw [List.length_take,zbc]; omega⟩
section
variable {P:Program} {ty:TypeId} {ρ:Operand → Value} {w:World} {C:Value → World → Prop} {T T2:TypeId} {x y:Operand} {sz bytes:Nat} {zs:List Value} {e:TypeId}
theorem zwq {a:Addr} {n c n2 c2:Nat} (hT:TyF P T (.slice e) sz bytes zs):(Op.equal T (.slice (some a) n c) (.slice none n2 c2)).run P w = .ok false w:=by
  show (Op.equalIn (9999 + 1) T (.slice (some a) n c) (.slice none n2 c2)).run P w = _
  rw [Op.equalIn]
  simp [Sem.run_bind,hT.run_und,Result.andThen]
theorem zvc {a:Addr} {n c n2 c2:Nat} (hT:TyF P T (.slice e) sz bytes zs) (hx:ρ x = .slice (some a) n c) (hy:ρ y = .slice none n2 c2) (h:C (.bool false) w):Op1 P (.binOp .eql T x y T2) ty ρ w C:=by
  refine zbT (v:=.bool false) (w':=w) ?_ h
  simp only [execOp,hx,hy,eqGuard]
  simp [binOp,zwq hT,Result.andThen]
end
theorem zos {P:Program} {ty:TypeId} {ρ:Operand → Value} {w0 w:World} {C:Value → World → Prop} {M:Nat → Prop} {L D:List Res} {T e:TypeId} {de:TypeDesc} {sz bytes es eb:Nat} {zs ez:List Value} (V:St w0 M L D w) (hT:TyF P T (.slice e) sz bytes zs) (he:TyF P e de es eb ez)
    (h:∀ (w':World) (b:Nat),St w0 M (Res.row b e [] :: L) D w' → C (.slice (some ⟨b,0,none⟩) 0 0) w'):Op1 P (.buildSlice T 0 #[]) ty ρ w C:=by
  have hr:(Instr.buildSlice T 0 #[]).run P w = .ok (.slice (some ⟨w.heap.size,0,none⟩) 0 0) (w.alloc (.cells #[] e)):=by
    unfold Instr.buildSlice
    simp only [Sem.run_bind,hT.run_und,Result.andThen,he.run_size]
    rw [if_neg (by omega),if_pos (by omega)]
    simp [Sem.run_bind,Sem.run_pure,Result.andThen,Instr.fill,newRow,show Array.range 0 = #[] from rfl]
  refine Inv.value (v:=.slice (some ⟨w.heap.size,0,none⟩) 0 0) (w':=w.alloc (.cells #[] e)) ?_ (h _ _ ?_)
  · simp only [execOp, Sem.run_bind]
    rw [show (#[]:Array (Nat × Operand)).map (fun (p:Nat × Operand)=>(p.1,ρ p.2)) = #[] from by simp,hr]
    rfl
  · refine V.push (Kept.alloc _ _ _) ?_ ?_
    · simp only [Res.obj]; rw [zdl]
    · intro b hb; exact Nat.le_of_eq hb.symm
end Go.SK
namespace Go.SK
def zjT (l:List Int) (a:Nat):Int × Bool:=if l.getD a 0 / 65536 = 0 ∨ l.getD a 0 / 65536 > (l.length:Int) - a then (0,false) else (a + l.getD a 0 / 65536,true)
theorem zwC {l:List Int} {a:Nat} (h:¬ l.getD a 0 / 65536 = 0) (h2:¬ l.getD a 0 / 65536 > (l.length:Int) - a):zjT l a = (a + l.getD a 0 / 65536,true):=if_neg (fun h3=>h3.elim h h2)
open Go.RowKit Go.ChangeShapes Go.WideShapes Go.ChangeAt
theorem Res.rs_sub3 {ao:Option Addr} {n es:Nat} {xs:List Value} {w:World} {lo hi m:Nat} (h:(Res.rs ao n es xs).holds w) (h1:lo ≤ hi) (h2:hi ≤ n) (h3:hi ≤ m):(Res.rs (zd4 ao m lo es) (hi - lo) es ((xs.drop (lo * es)).take ((hi - lo) * es))).holds w:=by
  have hlen:((xs.drop (lo * es)).take ((hi - lo) * es)).length = (hi - lo) * es:=by
    rw [List.length_take,List.length_drop,h.1]
    have:(hi - lo) * es ≤ n * es - lo * es:=by rw [← Nat.sub_mul]; exact Nat.mul_le_mul_right _ (by omega)
    omega
  refine ⟨hlen,?_⟩
  by_cases he:hi = lo
  · exact .inl O
  · rcases h.2 with h0 | ⟨b, o, rfl, hc⟩
    · omega
    · right
      refine ⟨b,o + lo * es,?_,fun i v hi=>?_⟩
      · unfold zd4; rw [if_neg (by omega)]; simp [zcS]
      · rw [List.getElem?_take] at hi
        split at hi
        · rw [List.getElem?_drop] at hi
          have:=hc _ _ hi
          rwa [← Nat.add_assoc] at this
        · simp at hi
theorem zvR {ao:Option Addr} {lo hi m:Nat} {l:List Int} {w:World} (h:(Res.rs ao l.length 1 (l.flatMap zci)).holds w) (h1:lo ≤ hi) (h2:hi ≤ l.length) (h3:hi ≤ m):(Res.rs (zd4 ao m lo 1) (hi - lo) 1 (((l.drop lo).take (hi - lo)).flatMap zci)).holds w:=by
  have:=Res.rs_sub3 h h1 h2 h3
  rwa [zeZ zcC,zie zcC] at this
theorem zrk {ao:Option Addr} {m lo es:Nat} (h:∃ a,ao = some a):∃ a,zd4 ao m lo es = some a:=by
  obtain ⟨a,rfl⟩:=h
  unfold zd4; split
  · exact ⟨a,rfl⟩
  · exact ⟨_,rfl⟩
theorem rs_ao {ao:Option Addr} {n es:Nat} {xs:List Value} {w:World} (h:(Res.rs ao n es xs).holds w) (hn:0 < n):∃ a,ao = some a:=by
  rcases h.2 with h0 | ⟨b,o,rfl,_⟩
  · omega
  · exact ⟨_,rfl⟩
theorem wrap16 (n:Int):IntKind.u16.wrap n = n % 65536:=by simp [IntKind.wrap,IntKind.signed,IntKind.bits]
def zpP (P:Program) (g:FuncId) (cap:List Value) (n:Nat) (item:Nat → List Value → Res → Prop) (FD:Nat → Prop) (w:World):Prop :=
  ∀ (σ : Type) (I J : Nat → σ → Prop) (yv : Value) (R S : Nat → σ → Res) (s0 : σ), I 0 s0 → (R 0 s0).holds w → (∀ b, (R 0 s0).foot b → ¬ FD b) →
    (∀ i s vs r,i < n → I i s → item i vs r → ∀ w1,St w (R 0 s0).foot [r,R i s] [] w1 → CallV P yv vs w1 fun v w2=>(v = .bool true ∧ ∃ s',I (i + 1) s' ∧ St w1 (Res.star [r,R i s]).foot [R (i + 1) s'] [] w2) ∨ (v = .bool false ∧ ∃ s',J i s' ∧ St w1 (Res.star [r,R i s]).foot [S i s'] [] w2)) →
    Ret P g (yv :: cap).toArray w fun _ w'=>(∃ s,I n s ∧ St w (R 0 s0).foot [R n s] [] w') ∨ ∃ i s,i < n ∧ J i s ∧ St w (R 0 s0).foot [S i s] [] w'
theorem zvM {a b r:Res} {L:List Res} {x:Nat}:(Res.star [r,Res.star (a :: b :: L)]).foot x ↔ (Res.star (a :: b :: r :: L)).foot x:=by
  constructor
  · rintro ⟨q, hq, hx⟩
    cases hq with
    | head=>exact ⟨r,.tail _ (.tail _ (.head _)),hx⟩
    | tail _ hq =>
      cases hq with
      | head =>
        obtain ⟨q,hq,hx⟩:=hx
        cases hq with
        | head=>exact ⟨_,.head _,hx⟩
        | tail _ hq =>
          cases hq with
          | head=>exact ⟨_,.tail _ (.head _),hx⟩
          | tail _ hq=>exact ⟨q,.tail _ (.tail _ (.tail _ hq)),hx⟩
      | tail _ h=>cases h
  · rintro ⟨q, hq, hx⟩
    cases hq with
    | head=>exact ⟨_,.tail _ (.head _),⟨_,.head _,hx⟩⟩
    | tail _ hq =>
      cases hq with
      | head=>exact ⟨_,.tail _ (.head _),⟨_,.tail _ (.head _),hx⟩⟩
      | tail _ hq =>
        cases hq with
        | head=>exact ⟨_,.head _,hx⟩
        | tail _ hq=>exact ⟨_,.tail _ (.head _),⟨q,.tail _ (.tail _ hq),hx⟩⟩
theorem zgE {P:Program} {fid n g:Nat} {ds:List Deferred} {fo:Operand} {ps:List Tmp} {assign body:Code} {k:List Item} {f:Nat → Value} {w0 w:World} {M:Nat → Prop} {L1 L2 D:List Res} {E:Frame → World → Prop} {cap:List Value}
    {N:Nat} {item:Nat → List Value → Res → Prop} {FD:Nat → Prop} {σ:Type} (I J:Nat → σ → Prop) (A B:Nat → σ → List Res) (jc:Nat → Code) (s0:σ) (h0:I 0 s0)
    (V:St w0 M (L1 ++ L2) D w) (hA:A 0 s0 = L1) (hf:ev n f fo = .func (.func g) #[] cap.toArray) (hg:zaG P g)
    (hfd:∀ b,FD b → (∃ r ∈ L2,r.foot b) ∨ ∃ r ∈ D,r.foot b)
    (hit:∀ w1,St w0 M (L1 ++ L2) D w1 → zpP P g cap N item FD w1)
    (hlen:∀ i vs r,item i vs r → vs.length = ps.length)
    (hround:∀ i s vs x,i < N → I i s → item i vs x → ∀ w1 l r lp,Lp lp fid n f ps assign body → St w1 (Res.star (Res.obj l (.loop lp) :: Res.obj r (.deferred (some [])) :: x :: A i s)).foot (Res.obj l (.loop lp) :: Res.obj r (.deferred (some [])) :: x :: A i s) (L2 ++ D) w1 →
      (∀ w2,Kept (Res.star (Res.obj l (.loop lp) :: Res.obj r (.deferred (some [])) :: x :: A i s)).foot w1 w2 → Kept M w0 w2) →
      Run P (zhl fid n l) [.code assign,.beginRound,.code body] (zmT f (ps.zip vs)) w1 (zcB P fun v w2 =>
        (v = .bool true ∧ ∃ s' D',I (i + 1) s' ∧ St w1 (Res.star (Res.obj l (.loop lp) :: Res.obj r (.deferred (some [])) :: x :: A i s)).foot (Res.obj l (.loop lp) :: Res.obj r (.deferred (some [])) :: A (i + 1) s') D' w2) ∨
        (v = .bool false ∧ ∃ s' D',J i s' ∧ St w1 (Res.star (Res.obj l (.loop lp) :: Res.obj r (.deferred (some [])) :: x :: A i s)).foot (Res.obj l (.loop (zhF lp (jc i))) :: Res.obj r (.deferred (some [])) :: B i s') D' w2)))
    (hend:∀ s w2 l r lp,I N s → St w0 M (Res.obj l (.loop lp) :: Res.obj r (.deferred (some [])) :: (A N s ++ L2)) D w2 → Run P (zck fid n (zdI r :: ds)) k f w2 E)
    (hstop:∀ i s,i < N → J i s → ∀ w2 l r lp,St w0 M (Res.obj l (.loop lp) :: Res.obj r (.deferred (some [])) :: (B i s ++ L2)) D w2 → Run P (zck fid n (zdI r :: ds)) (.code (jc i) :: k) f w2 E) :
    Run P (zck fid n ds) (.code (.rangeFunc fo ps.toArray assign body) :: k) f w E:=by
  refine zhh V hf hg fun w1 l r hst1=>?_
  obtain ⟨lp,hlp,hst1⟩:∃ lp,Lp lp fid n f ps assign body ∧ St w0 M (Res.obj l (.loop lp) :: Res.obj r (.deferred (some [])) :: (L1 ++ L2)) D w1:=⟨_,⟨rfl,rfl,rfl,rfl,rfl,rfl,rfl⟩,hst1⟩
  subst hA
  let X:Nat → σ → List Res:=fun i s=>Res.obj l (.loop lp) :: Res.obj r (.deferred (some [])) :: A i s
  have hX:St w0 M (X 0 s0 ++ L2) D w1:=hst1
  have hplain:St w0 M (A 0 s0 ++ L2) D w1:=(hst1.drop .here).drop .here
  have hi:=hit w1 hplain
  refine (hi σ I J (.func (.yield l) #[] #[]) (fun i s=>Res.star (X i s)) (fun i s=>Res.star (Res.obj l (.loop (zhF lp (jc i))) :: Res.obj r (.deferred (some [])) :: B i s)) s0 h0 (hX.pack.hL _ (.head _)) ?_ ?_).mono ?_
  · intro b hb hfb
    have hp:=hX.pack
    rcases hfd b hfb with ⟨s,hs,hsb⟩ | ⟨s,hs,hsb⟩
    · exact (List.pairwise_cons.1 hp.sep).1 s hs b hb hsb
    · exact hp.sepD _ (.head _) s hs b hb hsb
  · intro i s vs x hiN hI hitem w2 hw2
    have h2:St w0 M (x :: Res.star (X i s) :: L2) D w2:=hX.pack.call1 hw2
    have h3:St w0 M (Res.star (X i s) :: x :: L2) D w2:=h2.perm (List.Perm.swap _ _ _)
    have h4:St w0 M (X i s ++ x :: L2) D w2:=h3.unpack
    have h5:St w0 M ((Res.obj l (.loop lp) :: Res.obj r (.deferred (some [])) :: x :: A i s) ++ L2) D w2:=h4.perm (by
      refine List.Perm.cons _ (List.Perm.cons _ ?_)
      exact List.perm_middle)
    have hr:=hround i s vs x hiN hI hitem w2 l r lp hlp h5.root (fun w3 hk3=>h5.kept.trans hk3 fun y hy hf=>by
      obtain ⟨q,hq,hqy⟩:=hf
      exact (h5.new q (List.mem_append_left _ hq) y hqy).resolve_left O)
    have hl:w2.heap[l]? = some (.loop lp):=h5.hL _ (.head _)
    refine zkl (ps:=ps) (n:=n) (f:=f) hl hlp.params (hlen i vs x hitem) hlp.tmps ?_
    rw [hlp.fn,hlp.assign,hlp.body]
    refine hr.mono fun fr w3 ⟨v,w4,hC,hs⟩=>⟨v,w4,?_,hs⟩
    have hfoot:(Res.star [x,Res.star (X i s)]).foot = (Res.star (Res.obj l (.loop lp) :: Res.obj r (.deferred (some [])) :: x :: A i s)).foot:=by
      funext b; exact propext (zvM)
    rcases hC with ⟨hv,s',D',hI',hC⟩ | ⟨hv,s',D',hJ',hC⟩
    · exact .inl ⟨hv,s',hI',by rw [hfoot]; exact hC.star_of⟩
    · exact .inr ⟨hv,s',hJ',by rw [hfoot]; exact hC.star_of⟩
  · rintro v w2 (⟨s, hI, h2⟩ | ⟨i, s, hiN, hJ, h2⟩)
    · have h3 : St w0 M (X N s ++ L2) D w2 := (hX.pack.call1 h2).unpack
      refine ⟨lp,_,by rw [hlp.state]; decide,h3,fun w3 h4=>?_⟩
      rw [hlp.pending]
      exact hend s w3 l r _ hI h4
    · have h3 := (hX.pack.call1 h2).unpack
      refine ⟨zhF lp (jc i),_,by simp [zhF],h3,fun w3 h4=>?_⟩
      exact hstop i s hiN hJ w3 l r _ h4
end Go.SK
namespace Go.SK
theorem Sel.swap {r e:Res} {X X2:List Res} (h:Sel r e X X2) (q:Res):∃ X1,Sel r q X X1 ∧ (e :: X1).Perm (q :: X2):=by
  induction h with
  | here=>exact ⟨_,.here,List.Perm.swap _ _ _⟩
  | there _ ih =>
    rename_i a L L' _
    obtain ⟨X1,h1,h2⟩:=ih
    exact ⟨a :: X1,.there h1,(List.Perm.swap _ _ _).trans ((List.Perm.cons a h2).trans (List.Perm.swap _ _ _))⟩
variable {P:Program} {b:Base} {k:List Item} {E:Frame → World → Prop} {ops:Array Oper} {f:Nat → Value} {w0 w:World} {M:Nat → Prop} {L D:List Res} {pd:zkE} {tk:zdr} {bs:List Nat} {ds:List (Option Nat)} {i:Nat} {l:List Oper} {ws:Nat → zgM}
theorem zuD {d:Option Tmp} {op:Op} {ty:TypeId} {pos:String} {aft:Array Edge} {r:Res} (wd:zgM) (htab:DrawTab ops bs ds) (i':Nat) (hm:(i,r,Res.emp) ∈ pd)
    (hv:∀ f' L' L'' w',Know1 tk bs ds f w0 M L D i ws f' L' w' → (∀ q,∃ X,Sel r q (L' ++ L) X ∧ ∀ w'',St w0 M X D w'' → St w0 M (q :: (L'' ++ L)) D w'') →
      Op1 P op ty (ev b.n f') w' (fun v w''=>∃ rs,(∀ g,(∀ l u,zmx (bs.getD i 0) l = true → ds.getD l none = some u → g u = f' u) → wd g v rs) ∧ St w0 M (rs ++ (L'' ++ L)) D w''))
    (h:RunD tk pd P b ops bs ds k E f w0 M L D w i' l (zou ws i wd)) (hi:i + 1 = i':=by rfl) (hd:zcW op = false:=by rfl) (hk:zs6 tk i = true:=by rfl):RunD tk pd P b ops bs ds k E f w0 M L D w i (⟨d,op,ty,pos,aft,none⟩ :: l) ws:=by
  subst hi
  refine RunD.cons wd (fun ho φ hφ hi2 o ho' f' L' L'' w' hc=>?_) h
  rw [ho] at ho'
  obtain rfl:=Option.some.inj ho'
  refine .inl ⟨rfl,hd,?_⟩
  rw [hi2]
  refine (hv f' L' L'' w' (zdB htab hφ ho hc) fun q=>?_).mono fun v w'' ⟨rs,h1,h2⟩=>⟨rs,h1 _ fun l u hl hu=>zff f' (by rw [htab.waits,zdP]; exact hl) (by rw [htab.dstOf]; exact hu),h2⟩
  obtain ⟨X,h1,h2⟩:=((hc.turn.own r _ hm (zdb hk)).right L).swap q
  exact ⟨X,h1,fun w'' V=>(V.addProp (p:=True) trivial).perm h2⟩
end Go.SK
namespace Go.SK
theorem Sel.remd {r e:Res} {X X2:List Res} (h:Sel r e X X2):∃ X1,Rem r X X1 ∧ X2.Perm (e :: X1):=by
  induction h with
  | here=>exact ⟨_,.here,List.Perm.refl _⟩
  | there _ ih =>
    rename_i a L L' _
    obtain ⟨X1,h1,h2⟩:=ih
    exact ⟨a :: X1,.there h1,(List.Perm.cons a h2).trans (List.Perm.swap _ _ _)⟩
variable {P:Program} {b:Base} {k:List Item} {E:Frame → World → Prop} {ops:Array Oper} {f:Nat → Value} {w0 w:World} {M:Nat → Prop} {L D:List Res} {pd:zkE} {tk:zdr} {bs:List Nat} {ds:List (Option Nat)} {i:Nat} {l:List Oper} {ws:Nat → zgM}
theorem zch {d:Option Tmp} {op:Op} {ty:TypeId} {pos:String} {aft:Array Edge} {r:Res} (wd:zgM) (htab:DrawTab ops bs ds) (i':Nat) (hm:(i,r,Res.emp) ∈ pd)
    (hv:∀ f' L' L'' w',Know1 tk bs ds f w0 M L D i ws f' L' w' → (∃ X,Rem r (L' ++ L) X ∧ ∀ w'' q,St w0 M (q :: X) D w'' → St w0 M (q :: (L'' ++ L)) D w'') →
      Op1 P op ty (ev b.n f') w' (fun v w''=>∃ rs,(∀ g,(∀ l u,zmx (bs.getD i 0) l = true → ds.getD l none = some u → g u = f' u) → wd g v rs) ∧ St w0 M (rs ++ (L'' ++ L)) D w''))
    (h:RunD tk pd P b ops bs ds k E f w0 M L D w i' l (zou ws i wd)) (hi:i + 1 = i':=by rfl) (hd:zcW op = false:=by rfl) (hk:zs6 tk i = true:=by rfl):RunD tk pd P b ops bs ds k E f w0 M L D w i (⟨d,op,ty,pos,aft,none⟩ :: l) ws:=by
  subst hi
  refine RunD.cons wd (fun ho φ hφ hi2 o ho' f' L' L'' w' hc=>?_) h
  rw [ho] at ho'
  obtain rfl:=Option.some.inj ho'
  refine .inl ⟨rfl,hd,?_⟩
  rw [hi2]
  refine (hv f' L' L'' w' (zdB htab hφ ho hc) ?_).mono fun v w'' ⟨rs,h1,h2⟩=>⟨rs,h1 _ fun l u hl hu=>zff f' (by rw [htab.waits,zdP]; exact hl) (by rw [htab.dstOf]; exact hu),h2⟩
  obtain ⟨X,h1,h2⟩:=((hc.turn.own r _ hm (zdb hk)).right L).remd
  exact ⟨X,h1,fun w'' q V=>((V.addProp (p:=True) trivial).perm (List.Perm.swap _ _ _)).perm (List.Perm.cons q h2.symm)⟩
end Go.SK
namespace Go.SK
open Go.RowKit Go.ChangeShapes Go.WideShapes Go.ChangeAt
abbrev zkn:=Nat × Int × List Int
def zbx:zkn:=(0,0,[])
def zev (w:List Int):Nat → Nat → List zkn × Nat
  | 0,a=>([],a)
  | k + 1,a=>if a < w.length ∧ (zjT w a).2 = true then ((a,w.getD a 0 % 65536,(w.drop (a + 1)).take ((w.getD a 0 / 65536).toNat - 1)) :: (zev w k (a + (w.getD a 0 / 65536).toNat)).1,(zev w k (a + (w.getD a 0 / 65536).toNat)).2) else ([],a)
abbrev zcf (w:List Int) (a:Nat):List zkn × Nat:=zev w w.length a
theorem zec {w:List Int} (hw:Wd w) {a:Nat} (h:(zjT w a).2 = true):1 ≤ (w.getD a 0 / 65536).toNat ∧ a + (w.getD a 0 / 65536).toNat ≤ w.length ∧ w.getD a 0 / 65536 = ((w.getD a 0 / 65536).toNat:Int):=by
  have h1:=hw.get a
  unfold zjT at h
  split at h
  · cases h
  · omega
theorem zuf {w:List Int} {a n:Nat} (hn:w.getD a 0 / 65536 = (n:Int)) (h1:1 ≤ n) (h2:a + n ≤ w.length):(zjT w a).2 = true:=by
  rw [zwC (by omega) (by omega)]
theorem zns {w:List Int} (hw:Wd w):∀ k k' a,w.length ≤ a + k → w.length ≤ a + k' → zev w k a = zev w k' a
  | 0,0,a,_,_=>rfl
  | 0,k' + 1,a,h,_=>by rw [zev,zev,if_neg (by omega)]
  | k + 1,0,a,_,h=>by rw [zev,zev,if_neg (by omega)]
  | k + 1, k' + 1, a, h, h' => by
    rw [zev,zev]
    by_cases hc:a < w.length ∧ (zjT w a).2 = true
    · have := zec hw hc.2
      rw [if_pos hc,if_pos hc,zns hw k k' _ (by omega) (by omega)]
    · rw [if_neg hc,if_neg hc]
theorem znr {w:List Int} {a:Nat} (h:a < w.length → (zjT w a).2 = false):zcf w a = ([],a):=by
  unfold zcf
  cases hl:w.length with
  | zero=>rfl
  | succ k =>
    rw [zev,if_neg (fun hc=>by rw [h hc.1] at hc; cases hc.2)]
theorem ztV {w:List Int} (hw:Wd w) {a n:Nat} (hn:w.getD a 0 / 65536 = (n:Int)) (h1:1 ≤ n) (h2:a + n ≤ w.length):zcf w a = ((a,w.getD a 0 % 65536,(w.drop (a + 1)).take (n - 1)) :: (zcf w (a + n)).1,(zcf w (a + n)).2):=by
  unfold zcf
  obtain ⟨k,hk⟩:∃ k,w.length = k + 1:=⟨w.length - 1,by omega⟩
  have e:(w.getD a 0 / 65536).toNat = n:=by omega
  rw [show zev w w.length a = zev w (k + 1) a by rw [hk],zev,if_pos ⟨by omega,zuf hn h1 h2⟩,e,zns hw k w.length (a + n) (by omega) (by omega)]
def atI (r:List zkn × Nat) (i:Nat):Nat:=if i < r.1.length then (r.1.getD i zbx).1 else r.2
theorem zi1 {w:List Int}:∀ (k a:Nat),atI (zev w k a) 0 = a
  | 0,a=>rfl
  | k + 1, a => by
    rw [zev]; split
    · simp [atI]
    · rfl
theorem zi2 (p:zkn) (l:List zkn) (e i:Nat):atI (p :: l,e) (i + 1) = atI (l,e) i:=by simp [atI]
theorem zhv {w:List Int} (hw:Wd w):∀ (k a i:Nat),i < (zev w k a).1.length → atI (zev w k a) i + 1 + ((zev w k a).1.getD i zbx).2.2.length = atI (zev w k a) (i + 1) ∧ ((zev w k a).1.getD i zbx).1 = atI (zev w k a) i
  | 0,a,i,h=>by simp [zev] at h
  | k + 1, a, i, h => by
    rw [zev] at h ⊢
    split at h
    · rename_i hc
      have ht:=zec hw hc.2
      rw [if_pos hc]
      cases i with
      | zero =>
        rw [zi2,show ((zev w k (a + (w.getD a 0 / 65536).toNat)).1,(zev w k (a + (w.getD a 0 / 65536).toNat)).2) = zev w k (a + (w.getD a 0 / 65536).toNat) from rfl,zi1]
        constructor
        · simp [atI]; simp at ht; omega
        · simp [atI]
      | succ i =>
        rw [zi2,zi2,List.getD_cons_succ]
        exact zhv hw k _ i (by simpa using h)
    · simp at h
theorem zic {w:List Int} (hw:Wd w):∀ (k a:Nat),a ≤ w.length → (zev w k a).2 ≤ w.length ∧ (zev w k a).1.length + a ≤ (zev w k a).2
  | 0,a,h=>⟨h,by simp [zev]⟩
  | k + 1, a, h => by
    rw [zev]; split
    · rename_i hc
      have ht:=zec hw hc.2
      have:=zic hw k (a + (w.getD a 0 / 65536).toNat) ht.2.1
      refine ⟨this.1,?_⟩
      simp only [List.length_cons]; omega
    · exact ⟨h,by simp⟩
theorem zl2 {w:List Int} (hw:Wd w):∀ (k a:Nat) (p:zkn),p ∈ (zev w k a).1 → Wd p.2.2 ∧ 0 ≤ p.2.1 ∧ p.2.1 < 65536 ∧ p.2.2.length < 65535
  | 0,a,p,h=>by simp [zev] at h
  | k + 1, a, p, h => by
    rw [zev] at h
    split at h
    · rename_i hc
      have ht:=zec hw hc.2
      have h1:=hw.get a
      simp only [List.mem_cons] at h
      rcases h with rfl | h
      · refine ⟨fun x hx => hw x (List.mem_of_mem_drop (List.mem_of_mem_take hx)), by simp only; omega, by simp only; omega, ?_⟩
        simp only [List.length_take]; omega
      · exact zl2 hw k _ p h
    · simp at h
def zc9 (k:Nat) (x:Int):Int:=if k = 0 then (if x = 50471687 then 21 else if x = 119734787 then 0 else 20) else if k = 1 then (if x = 65536 then 0 else 22) else if k = 3 then (if x = 0 ∨ x > 65536 then 24 else 0) else if k = 4 then (if x = 0 then 0 else 23) else 0
def hd1 (w:List Int) (k:Nat):Int:=if k < w.length then zc9 k (w.getD k 0) else 14
def zcN (w:List Int):Int × Int:=match (List.range 5).find? (fun k=>decide (hd1 w k ≠ 0)) with
  | some k=>(hd1 w k,(k:Int))
  | none=>(0,0)
theorem zkX {p:Nat → Bool} {n k:Nat} (hk:k < n) (hall:∀ j,j < k → p j = false) (h:p k = true):(List.range n).find? p = some k:=by
  rw [List.find?_range_eq_some]
  exact ⟨h,List.mem_range.2 hk,fun j hj=>by rw [hall j hj]; rfl⟩
theorem zt0 {w:List Int} {k:Nat} (hk:k < 5) (hall:∀ j,j < k → hd1 w j = 0) (h:hd1 w k ≠ 0):zcN w = (hd1 w k,(k:Int)):=by
  unfold zcN
  rw [zkX hk (fun j hj=>by simp [hall j hj]) (by simpa using h)]
theorem ziW {w:List Int} (hall:∀ j,j < 5 → hd1 w j = 0):zcN w = (0,0):=by
  unfold zcN
  rw [List.find?_eq_none.2 (fun j hj=>by simp [hall j (List.mem_range.1 hj)])]
theorem zfS {w:List Int} (h:(zcN w).1 = 0):5 ≤ w.length ∧ ∀ j,j < 5 → hd1 w j = 0:=by
  have hall:∀ j,j < 5 → hd1 w j = 0:=by
    by_cases hx:∃ j,j < 5 ∧ hd1 w j ≠ 0
    · exfalso
      unfold zcN at h
      cases hf:(List.range 5).find? (fun k=>decide (hd1 w k ≠ 0)) with
      | none =>
        obtain ⟨j,hj,hn⟩:=hx
        have:=List.find?_eq_none.1 hf j (List.mem_range.2 hj)
        simp [hn] at this
      | some k =>
        rw [hf] at h
        have:=List.find?_some hf
        simp at this
        exact this h
    · intro j hj
      exact Nn fun hn=>hx ⟨j,hj,hn⟩
  refine ⟨?_,hall⟩
  have:=hall 4 O
  unfold hd1 at this
  split at this
  · omega
  · cases this
theorem ziX {w:List Int} {k:Nat} (hk:k < 5):hd1 (w.take 5) k = hd1 w k:=by
  have e:(w.take 5).getD k 0 = w.getD k 0:=by
    simp [List.getD,List.getElem?_take,hk]
  unfold hd1; rw [e,List.length_take]
  by_cases h:k < w.length
  · rw [if_pos h,if_pos (by omega)]
  · rw [if_neg h,if_neg (by omega)]
theorem zk6 (w:List Int):zcN (w.take 5) = zcN w:=by
  by_cases h:(zcN w).1 = 0
  · have hl := zfS h
    rw [ziW hl.2,ziW (fun j hj=>(ziX hj).trans (hl.2 j hj))]
  · unfold zcN at h ⊢
    cases hf:(List.range 5).find? (fun k=>decide (hd1 w k ≠ 0)) with
    | none=>rw [hf] at h; exact absurd rfl h
    | some k =>
      rw [List.find?_range_eq_some] at hf
      have hk:=List.mem_range.1 hf.2.1
      rw [zkX (k:=k) hk (fun j hj=>by rw [ziX (by omega)]; simpa using hf.2.2 j hj) (by rw [ziX hk]; exact hf.1)]
      simp only [ziX hk]
def zcL (w:List Int):(Int × Int) × List zkn × (Int × Int) :=
  if w.length > 1048576 then ((0,0),[],(4,1048576))
  else if (zcN w).1 ≠ 0 then ((0,0),[],zcN w)
  else if (zcf w 5).2 < w.length then ((0,0),[],(25,((zcf w 5).2:Int)))
  else ((w.getD 2 0,w.getD 3 0),(zcf w 5).1,(0,0))
theorem zgR {w:List Int} (h:w.length > 1048576):zcL w = ((0,0),[],(4,1048576)):=if_pos h
theorem zkT {w:List Int} (h:¬ w.length > 1048576) (h2:(zcN w).1 ≠ 0):zcL w = ((0,0),[],zcN w):=by unfold zcL; rw [if_neg h,if_pos h2]
theorem zgS {w:List Int} (h:¬ w.length > 1048576) (h2:(zcN w).1 = 0) (h3:(zcf w 5).2 < w.length):zcL w = ((0,0),[],(25,((zcf w 5).2:Int))):=by unfold zcL; rw [if_neg h,if_neg (fun e=>e h2),if_pos h3]
theorem zlP {w:List Int} (h:¬ w.length > 1048576) (h2:(zcN w).1 = 0) (h3:¬ (zcf w 5).2 < w.length):zcL w = ((w.getD 2 0,w.getD 3 0),(zcf w 5).1,(0,0)):=by unfold zcL; rw [if_neg h,if_neg (fun e=>e h2),if_neg h3]
end Go.SK
namespace Go.SK
theorem zdf {w:List Int} {k:Nat} {e:Int} (hk:k < 5) (hall:∀ j,j < k → hd1 w j = 0) (h:hd1 w k = e) (he:e ≠ 0):zcN w = (e,(k:Int)):=by rw [zt0 hk hall (by rw [h]; exact he),h]
theorem znv {l:List Int} {k:Nat} (h:k = l.length):hd1 l k = 14:=if_neg (by omega)
theorem zjF {l:List Int} {k:Nat} {e:Int} (h:k < l.length) (he:zc9 k (l.getD k 0) = e):hd1 l k = e:=(if_pos h).trans he
theorem wf0s {x:Int} (h:x = 50471687):zc9 0 x = 21:=by subst h; rfl
theorem wf0m {x:Int} (h:¬ x = 50471687) (h2:¬ x = 119734787):zc9 0 x = 20:=by unfold zc9; rw [if_pos rfl,if_neg h,if_neg h2]
theorem wf0k {x:Int} (h:x = 119734787):zc9 0 x = 0:=by subst h; rfl
theorem wf1v {x:Int} (h:¬ x = 65536):zc9 1 x = 22:=by unfold zc9; rw [if_neg (by decide),if_pos rfl,if_neg h]
theorem wf1k {x:Int} (h:x = 65536):zc9 1 x = 0:=by subst h; rfl
theorem wf2k {x:Int}:zc9 2 x = 0:=rfl
theorem wf3b {x:Int} (h:x = 0 ∨ x > 65536):zc9 3 x = 24:=by unfold zc9; rw [if_neg (by decide),if_neg (by decide),if_pos rfl,if_pos h]
theorem wf3k {x:Int} (h:¬ x = 0) (h2:¬ x > 65536):zc9 3 x = 0:=by unfold zc9; rw [if_neg (by decide),if_neg (by decide),if_pos rfl,if_neg (fun h3=>h3.elim h h2)]
theorem wf4s {x:Int} (h:¬ x = 0):zc9 4 x = 23:=by unfold zc9; rw [if_neg (by decide),if_neg (by decide),if_neg (by decide),if_pos rfl,if_neg h]
theorem wf4k {x:Int} (h:x = 0):zc9 4 x = 0:=by subst h; rfl
theorem no_lt {p:Nat → Prop}:∀ j,j < 0 → p j:=fun j hj=>absurd hj (Nat.not_lt_zero j)
abbrev zwh (e:Int × Int) (a b:Int):Value:=.tuple #[.agg #[.int .u32 a,.int .u32 b],.agg #[.int .i64 e.1,.int .i64 e.2]]
abbrev ztZ (l:List Int):Value:=if (zcN l).1 = 0 then zwh (zcN l) (l.getD 2 0) (l.getD 3 0) else zwh (zcN l) 0 0
theorem zcp {l:List Int} {e k:Int} (h:zcN l = (e,k)) (he:e ≠ 0):ztZ l = zwh (e,k) 0 0:=by unfold ztZ; rw [h,if_neg he]
theorem zqt {l:List Int} (h:zcN l = (0,0)):ztZ l = zwh (0,0) (l.getD 2 0) (l.getD 3 0):=by unfold ztZ; rw [h,if_pos rfl]
theorem zug {α:Type} {l t:List α} {p:α} {k:Nat} (d:α) (h:l.drop k = p :: t):k < l.length ∧ l.getD k d = p ∧ l.drop (k + 1) = t:=by
  have hk:k < l.length:=by
    rcases Nat.lt_or_ge k l.length with h1 | h1
    · exact h1
    · rw [List.drop_of_length_le h1] at h; cases h
  rw [List.drop_eq_getElem_cons hk] at h
  injection h with h1 h2
  exact ⟨hk,by simp [List.getD,hk,h1],h2⟩
theorem znN {α:Type} {l:List α} {k:Nat} (h:l.drop k = []) (hk:k ≤ l.length):k = l.length:=by
  have:=congrArg List.length h
  simp at this; omega
abbrev rawV (p:zkn) (ro:Option Addr) (rc:Nat):Value:=.agg #[.int .u16 p.2.1,.slice ro p.2.2.length rc]
abbrev zyk (Tw:TypeId) (its:List zkn) (i:Nat) (vs:List Value) (r:Res):Prop:=∃ ro rc,vs = [.int .i64 ((its.getD i zbx).1:Int),rawV (its.getD i zbx) ro rc] ∧ r = Res.sl ro (its.getD i zbx).2.2.length rc Tw 1 ((its.getD i zbx).2.2.flatMap zci)
theorem zqO {w:List Int} (hw:Wd w):∀ (k a i:Nat),a ≤ w.length → atI (zev w k a) i ≤ w.length
  | 0,a,i,h=>by simpa [atI,zev] using h
  | k + 1, a, i, h => by
    rw [zev]; split
    · rename_i hc
      have ht:=zec hw hc.2
      cases i with
      | zero=>simpa [atI] using h
      | succ i=>rw [zi2]; exact zqO hw k _ i ht.2.1
    · simpa [atI] using h
open Go.RowKit Go.ChangeShapes Go.WideShapes Go.ChangeAt
def zxg (r:zqT):List Int:=(((r.2.length:Int) + 1) * 65536 + r.1) :: r.2
def zcd (gn bd:Int) (l:List zqT):List Int:=[119734787,65536,gn,bd,0] ++ l.flatMap zxg
abbrev zqn (r:zqT):Nat:=r.2.length
def zfx (gn bd:Int) (l:List zqT):List Int × (Int × Int) :=
  if bd = 0 ∨ bd > 65536 then ([],(24,0)) else if (zgB 5 0 (l.map zqn)).2.1 ≠ 0 then ([],(zgB 5 0 (l.map zqn)).2) else (zcd gn bd l,(0,0))
theorem zij {gn bd:Int} {l:List zqT} (h:bd = 0 ∨ bd > 65536):zfx gn bd l = ([],(24,0)):=if_pos h
theorem zq5 {gn bd:Int} {l:List zqT} (h1:¬ bd = 0) (h2:¬ bd > 65536) (h:(zgB 5 0 (l.map zqn)).2.1 ≠ 0):zfx gn bd l = ([],(zgB 5 0 (l.map zqn)).2):=by
  unfold zfx; rw [if_neg (fun h3=>h3.elim h1 h2),if_pos h]
theorem zmA {gn bd:Int} {l:List zqT} (h1:¬ bd = 0) (h2:¬ bd > 65536) (h:(zgB 5 0 (l.map zqn)).2.1 = 0):zfx gn bd l = (zcd gn bd l,(0,0)):=by
  unfold zfx; rw [if_neg (fun h3=>h3.elim h1 h2),if_neg (fun e=>e h)]
theorem zmm:∀ {ks:List Nat} {n i:Nat},n ≤ 1048576 → (zgB n i ks).2.1 = 0 → zgB n i ks = (((n + (ks.map (· + 1)).sum:Nat):Int),0,0) ∧ (∀ k ∈ ks,k < 65535) ∧ n + (ks.map (· + 1)).sum ≤ 1048576
  | [],n,i,hn,h=>⟨by simp [zgB],by simp,by simpa using hn⟩
  | k :: ks, n, i, hn, h => by
    rw [zgB] at h ⊢
    split at h
    · cases h
    · split at h
      · cases h
      · rename_i h1 h2
        rw [if_neg h1,if_neg h2]
        have ih:=zmm O h
        refine ⟨ih.1.trans ?_,?_,?_⟩
        · simp only [List.map_cons, List.sum_cons]
          rw [show n + 1 + k + (ks.map (· + 1)).sum = n + (k + 1 + (ks.map (· + 1)).sum) by omega]
        · intro x hx
          cases hx with
          | head=>omega
          | tail _ hx=>exact ih.2.1 x hx
        · have := ih.2.2
          simp only [List.map_cons,List.sum_cons]; omega
theorem zp7 (r:zqT):(zxg r).length = r.2.length + 1:=by simp [zxg]
theorem zf9 (gn bd:Int) (l:List zqT):(zcd gn bd l).length = 5 + ((l.map zqn).map (· + 1)).sum:=by
  unfold zcd
  rw [List.length_append,List.length_flatMap]
  have:l.map (fun r=>(zxg r).length) = (l.map zqn).map (· + 1):=by
    rw [List.map_map]; exact List.map_congr_left fun r _=>zp7 r
  rw [this]; rfl
theorem zoz {gn bd:Int} {l:List RawP} {i:Nat} (h:i < l.length):zcd gn bd ((l.take (i + 1)).map RawP.L) = zcd gn bd ((l.take i).map RawP.L) ++ [(((l.getD i zbG).ws.length:Int) + 1) * 65536 + (l.getD i zbG).op] ++ (l.getD i zbG).ws:=by
  rw [zce (d:=zbG) h]
  simp [zcd,zxg,List.flatMap_append]
theorem zlY (l:List RawP):l.map ziy = (l.map RawP.L).map zqn:=by rw [List.map_map]; rfl
theorem sum_le {ks:List Nat} {i:Nat}:((ks.take i).map (· + 1)).sum ≤ (ks.map (· + 1)).sum:=by
  have:=congrArg (fun l:List Nat=>(l.map (· + 1)).sum) (List.take_append_drop i ks)
  simp only [List.map_append,List.sum_append] at this
  omega
theorem zsL (gn bd:Int) (l:List RawP) (i:Nat):(zcd gn bd ((l.take i).map RawP.L)).length ≤ (zcd gn bd (l.map RawP.L)).length:=by
  rw [zf9,zf9]
  have:=sum_le (ks:=(l.map RawP.L).map zqn) (i:=i)
  rw [← List.map_take,← List.map_take] at this
  omega
abbrev Res.rword (r:RawP):Res:=Res.rs r.ao r.ws.length 1 (r.ws.flatMap zci)
abbrev Res.rraws (ao:Option Addr) (l:List RawP):Res:=Res.all (Res.rs ao l.length 2 (l.flatMap zkW) :: l.map Res.rword)
theorem Res.rraws_raws {ao:Option Addr} {l:List RawP} {w:World} (h:(Res.rraws ao l).holds w):(Res.rs ao l.length 2 (l.flatMap zkW)).holds w:=h _ (.head _)
theorem Res.rraws_ws {ao:Option Addr} {l:List RawP} {w:World} (h:(Res.rraws ao l).holds w) {r:RawP} (hr:r ∈ l):(Res.rword r).holds w:=h _ (.tail _ (List.mem_map_of_mem hr))
theorem Res.rraws_wsI {ao:Option Addr} {l:List RawP} {w:World} (h:(Res.rraws ao l).holds w) {i:Nat} (hi:i < l.length):(Res.rword (l.getD i zbG)).holds w:=Res.rraws_ws h (zbJ hi)
theorem Res.rraws_of_oraws {Tr Tw:TypeId} {ao:Option Addr} {cap:Nat} {l:List RawP} {w:World} (h:(Res.oraws Tr Tw ao cap l).holds w):(Res.rraws ao l).holds w:=by
  intro r hr
  cases hr with
  | head=>exact Res.rs_of_sl (h.1 _ (.head _))
  | tail _ hr =>
    obtain ⟨i,hi,rfl⟩:=List.mem_map.1 hr
    exact Res.rs_of_sl (h.1 (Res.oword Tw i) (.tail _ (List.mem_map_of_mem hi)))
end Go.SK
namespace Go.SK
abbrev numV (o:Option NameL):Value:=.tuple #[.int .u32 (o.getD zdq).n,.bool o.isSome]
theorem zjQ {c:Int} {s:zdN}:(zbg c).find? (fun x=>decide (x.name = s)) = namesL.find? (enS c s):=by
  unfold zbg; rw [List.find?_filter]; congr 1; funext x
  simp [enS]
def zkA (n:Nat):List FormL:=refT.filter fun f=>decide (f.op < (n:Int))
theorem zuB:(List.range 256).all (fun n=>decide (zkA (n + 1) = zkA n ++ (zc6 n).toList) && decide ((zc6 n).isSome = true → refT.getD (zkA n).length zeroF = (zc6 n).getD zeroF ∧ (zkA n).length < refT.length)) = true:=by decide +kernel
theorem zi3 {n:Nat} (h:n < 256):zkA (n + 1) = zkA n ++ (zc6 n).toList ∧ ((zc6 n).isSome = true → refT.getD (zkA n).length zeroF = (zc6 n).getD zeroF ∧ (zkA n).length < refT.length):=by
  have:=List.all_eq_true.1 zuB n (List.mem_range.2 h)
  simpa only [Bool.and_eq_true,decide_eq_true_eq] using this
theorem zwX {n:Nat} (h:n < 256) (hs:(zc6 n).isSome = false):zkA (n + 1) = zkA n:=by
  rw [(zi3 h).1,show zc6 n = none by simpa using hs]; simp
theorem zwW {n:Nat} (h:n < 256) (hs:(zc6 n).isSome = true):zkA (n + 1) = zkA n ++ [(zc6 n).getD zeroF]:=by
  rw [(zi3 h).1]
  obtain ⟨f,hf⟩:=Option.isSome_iff_exists.1 hs
  rw [hf]; rfl
theorem zyK:zkA 256 = refT:=by decide +kernel
theorem all_0:zkA 0 = []:=by decide +kernel
theorem zjw:(List.range 256).all (fun n=>decide ((zkx zeS n ≠ []) ↔ (namesL.find? (fun x=>decide (x.letter = (n:Int)))).isSome = true)) = true:=by decide +kernel
theorem ztF {c:Int} (h0:0 ≤ c) (h1:c ≤ 255):(zkx zeS c ≠ []) ↔ (namesL.find? (fun x=>decide (x.letter = c))).isSome = true:=by
  have:=List.all_eq_true.1 zjw c.toNat (List.mem_range.2 O)
  rw [show ((c.toNat:Nat):Int) = c by omega] at this
  simpa only [decide_eq_true_eq] using this
open Go.RowKit Go.ChangeShapes Go.WideShapes Go.ChangeAt
theorem idE_zero {n Y:Int}:idE n Y = 0 ↔ ¬ (n = 0 ∨ n ≥ Y):=by unfold idE; split <;> simp_all
def zeL (c:Int) (ws:List Int) (Y:Int):ArgP × Nat × Int :=
  if c = 0 ∨ ws.length = 0 then (zeroA,0,42)
  else if zbR c = 3 then (⟨3,0,(zdH ws).1⟩,(zdH ws).2.1.toNat,(zdH ws).2.2)
  else (⟨zbR c,ws.getD 0 0,[]⟩,1,if zbR c = 1 then idE (ws.getD 0 0) Y else if zbR c = 4 then zgX c (ws.getD 0 0) else 0)
theorem zhM {c:Int} {ws:List Int} {b:Int} (h:c = 0 ∨ ws.length = 0):zeL c ws b = (zeroA,0,42):=if_pos h
theorem zhK {c:Int} {ws:List Int} {b:Int} (h:¬ c = 0) (h2:¬ ws.length = 0) (hk:zbR c = 3):zeL c ws b = (⟨3,0,(zdH ws).1⟩,(zdH ws).2.1.toNat,(zdH ws).2.2):=by
  unfold zeL; rw [if_neg (fun h3=>h3.elim h h2),if_pos hk]
theorem zhL {c:Int} {ws:List Int} {b:Int} (h:¬ c = 0) (h2:¬ ws.length = 0) (hk:¬ zbR c = 3):zeL c ws b = (⟨zbR c,ws.getD 0 0,[]⟩,1,if zbR c = 1 then idE (ws.getD 0 0) b else if zbR c = 4 then zgX c (ws.getD 0 0) else 0):=by
  unfold zeL; rw [if_neg (fun h3=>h3.elim h h2),if_neg hk]
theorem zg2 {c:Int} {ws:List Int} {b:Int} (h:(zeL c ws b).2.2 = 0):1 ≤ (zeL c ws b).2.1 ∧ (zeL c ws b).2.1 ≤ ws.length ∧ c ≠ 0 ∧ (zeL c ws b).1.kind = zbR c:=by
  by_cases h1:c = 0 ∨ ws.length = 0
  · rw [zhM h1] at h; cases h
  · have h2 : ¬ c = 0 := fun e => h1 (.inl e)
    have h3:¬ ws.length = 0:=fun e=>h1 (.inr e)
    by_cases hk:zbR c = 3
    · rw [zhK h2 h3 hk] at h ⊢
      rcases zji ws with ⟨e,he,h4⟩ | ⟨s,n,he,h4,h5,h6⟩
      · rw [he] at h; simp only at h; omega
      · rw [he]; simp only [Int.toNat_natCast]; exact ⟨h4,h5,h2,hk.symm⟩
    · rw [zhL h2 h3 hk] at h ⊢
      exact ⟨Nat.le_refl _,by (try dsimp only); omega,h2,rfl⟩
def zep (fm:FormL) (Y:Int):Nat → Nat → List Int → List ArgP × Int
  | 0,_,_=>([],0)
  | n + 1, k, ws => if ws.length = 0 ∧ fm.fixed.length ≤ k then ([], 0)
    else if (zeL (zaJ fm k) ws Y).2.2 ≠ 0 then ([],(zeL (zaJ fm k) ws Y).2.2)
    else ((zeL (zaJ fm k) ws Y).1 :: (zep fm Y n (k + 1) (ws.drop (zeL (zaJ fm k) ws Y).2.1)).1,(zep fm Y n (k + 1) (ws.drop (zeL (zaJ fm k) ws Y).2.1)).2)
theorem zll {fm:FormL} {Y:Int}:∀ n n' k ws,ws.length < n → ws.length < n' → zep fm Y n k ws = zep fm Y n' k ws
  | 0,_,_,_,h,_=>absurd h (Nat.not_lt_zero _)
  | _,0,_,_,_,h=>absurd h (Nat.not_lt_zero _)
  | n + 1, n' + 1, k, ws, h, h' => by
    rw [zep,zep]
    by_cases h1:ws.length = 0 ∧ fm.fixed.length ≤ k
    · rw [if_pos h1,if_pos h1]
    · rw [if_neg h1, if_neg h1]
      by_cases h2:(zeL (zaJ fm k) ws Y).2.2 ≠ 0
      · rw [if_pos h2,if_pos h2]
      · have h3 := zg2 (Nn h2)
        rw [if_neg h2,if_neg h2,zll n n' _ _ (by rw [List.length_drop]; omega) (by rw [List.length_drop]; omega)]
abbrev zfD (fm:FormL) (Y:Int) (k:Nat) (ws:List Int):List ArgP × Int:=zep fm Y (ws.length + 1) k ws
theorem zr5 {fm:FormL} {Y:Int} {k:Nat} {ws:List Int} (h:ws.length = 0) (h2:fm.fixed.length ≤ k):zfD fm Y k ws = ([],0):=by
  unfold zfD; rw [zep,if_pos ⟨h,h2⟩]
theorem zuu {fm:FormL} {Y:Int} {k:Nat} {ws:List Int} (h:ws.length > 0 ∨ k < fm.fixed.length) (he:(zeL (zaJ fm k) ws Y).2.2 ≠ 0):zfD fm Y k ws = ([],(zeL (zaJ fm k) ws Y).2.2):=by
  unfold zfD; rw [zep,if_neg (by omega),if_pos he]
theorem zr6 {fm:FormL} {Y:Int} {k:Nat} {ws:List Int} {a:ArgP} {m:Nat} (h:ws.length > 0 ∨ k < fm.fixed.length) (he:zeL (zaJ fm k) ws Y = (a,m,0)):zfD fm Y k ws = (a :: (zfD fm Y (k + 1) (ws.drop m)).1,(zfD fm Y (k + 1) (ws.drop m)).2):=by
  have h0:(zeL (zaJ fm k) ws Y).2.2 = 0:=by rw [he]
  have h3:=zg2 h0
  unfold zfD
  rw [zep,if_neg (by omega),if_neg (fun e=>e h0)]
  rw [he] at h3 ⊢
  dsimp only at h3 ⊢
  rw [zll ws.length ((ws.drop m).length + 1) _ _ (by rw [List.length_drop]; omega) (by omega)]
theorem zlj {fm:FormL} {Y:Int}:∀ n k ws,(zep fm Y n k ws).2 = 0 → ∀ j,j < (zep fm Y n k ws).1.length → zaJ fm ((k + j:Nat):Int) ≠ 0 ∧ ((zep fm Y n k ws).1.getD j zeroA).kind = zbR (zaJ fm ((k + j:Nat):Int))
  | 0,k,ws,_,j,hj=>by simp [zep] at hj
  | n + 1, k, ws, h, j, hj => by
    rw [zep] at h hj ⊢
    split at h
    · rename_i h1; rw [if_pos h1] at hj; simp at hj
    · rename_i h1
      rw [if_neg h1] at hj ⊢
      split at h
      · rename_i h2; exact absurd h h2
      · rename_i h2
        rw [if_neg h2] at hj ⊢
        have h3:=zg2 (Nn h2)
        cases j with
        | zero=>exact ⟨h3.2.2.1,h3.2.2.2⟩
        | succ j =>
          have:=zlj n (k + 1) _ h j (by simpa using hj)
          rw [show k + 1 + j = k + (j + 1) by omega] at this
          simpa using this
def zde (fm:FormL) (l:List Int) (Y:Int):Nat × Int :=
  if fm.ty = true ∧ l.length = 0 then (0,40)
  else if fm.ty = true ∧ idE (l.getD 0 0) Y ≠ 0 then (0,43)
  else if fm.res = true ∧ l.length = b2n fm.ty then (0,41)
  else if fm.res = true ∧ idE (l.getD (b2n fm.ty) 0) Y ≠ 0 then (0,43)
  else (b2n fm.ty + b2n fm.res,0)
def zb2 (Y:Int) (op:Int) (l:List Int):InstL × Int :=
  if l.length ≥ 65535 then (zeroIL,25)
  else if (zc6 op).isSome = false then (zeroIL,30)
  else if (zde (zaW op) l Y).2 ≠ 0 then (zeroIL,(zde (zaW op) l Y).2)
  else if (zfD (zaW op) Y 0 (l.drop (b2n (zaW op).ty + b2n (zaW op).res))).2 ≠ 0 then (zeroIL,(zfD (zaW op) Y 0 (l.drop (b2n (zaW op).ty + b2n (zaW op).res))).2)
  else if znb (zaW op) (zfD (zaW op) Y 0 (l.drop (b2n (zaW op).ty + b2n (zaW op).res))).1.length then (zeroIL,42)
  else (⟨op,if (zaW op).ty = true then l.getD 0 0 else 0,if (zaW op).res = true then l.getD (b2n (zaW op).ty) 0 else 0,(zfD (zaW op) Y 0 (l.drop (b2n (zaW op).ty + b2n (zaW op).res))).1⟩,0)
theorem zwg {fm:FormL} {l:List Int} {Y:Int} (h:(zde fm l Y).2 = 0):b2n fm.ty + b2n fm.res ≤ l.length ∧ (fm.ty = true → idE (l.getD 0 0) Y = 0) ∧ (fm.res = true → idE (l.getD (b2n fm.ty) 0) Y = 0):=by
  unfold zde at h
  split at h
  · cases h
  · split at h
    · cases h
    · split at h
      · cases h
      · split at h
        · cases h
        · rename_i h1 h2 h3 h4
          refine ⟨?_,fun ht=>Nn fun hn=>h2 ⟨ht,hn⟩,fun ht=>Nn fun hn=>h4 ⟨ht,hn⟩⟩
          cases ht:fm.ty <;> cases hr:fm.res <;> simp only [ht,hr,b2n,if_true,if_false,true_and,false_and,Bool.false_eq_true,not_true_eq_false,not_false_eq_true] at h1 h3 ⊢ <;> omega
abbrev RdC (Tc Tr Tw Ta:TypeId) (bq:Nat) (fm:FormL) (b:Nat) (Y op ty res:Int) (aa:Option Addr) (ca:Nat) (ags:List ArgP) (ao:Option Addr) (cp:Nat) (l:List Int) (a:Nat):Res :=
  Res.star [Res.row bq Tc [.int .u16 fm.op,str fm.name,.bool fm.ty,.bool fm.res,str fm.fixed,str fm.rest,.int .i64 fm.most,.int .u8 fm.part,.pointer (some ⟨b,0,none⟩),.int .u32 Y,.int .u16 op,.int .u32 ty,.int .u32 res,.slice aa ags.length ca],RdR Tr Tw b ao cp l a,Res.sl aa ags.length ca Ta 3 (ags.flatMap zdX)]
end Go.SK
namespace Go.SK
def zdU (fm:FormL) (Y:Int) (l:List Int):List ArgP × Int :=
  if (zde fm l Y).2 ≠ 0 then ([],(zde fm l Y).2) else zfD fm Y 0 (l.drop (b2n fm.ty + b2n fm.res))
section
variable {fm:FormL} {Y op:Int} {l:List Int}
theorem zib (h:(zde fm l Y).2 ≠ 0):zdU fm Y l = ([],(zde fm l Y).2):=if_pos h
theorem zk5 (h:(zde fm l Y).2 = 0):zdU fm Y l = zfD fm Y 0 (l.drop (b2n fm.ty + b2n fm.res)):=if_neg (fun e=>e h)
theorem zo9 (h:l.length ≥ 65535):zb2 Y op l = (zeroIL,25):=if_pos h
theorem zwb (h:¬ l.length ≥ 65535) (h2:(zc6 op).isSome = false):zb2 Y op l = (zeroIL,30):=by unfold zb2; rw [if_neg h,if_pos h2]
theorem zo8 (h:(zdU (zaW op) Y l).2 = 0):zkz (zaW op) 0 ((zdU (zaW op) Y l).1.map ArgP.kind) = none:=by
  unfold zdU at h ⊢
  split at h
  · rename_i h1; exact absurd h h1
  · rename_i h1
    rw [if_neg h1]
    refine zk4 fun j hj=>?_
    have:=zlj _ 0 _ h j hj
    rwa [Nat.zero_add] at this
theorem zl1 (h:¬ l.length ≥ 65535) (h2:(zc6 op).isSome = true):zb2 Y op l = if (zdU (zaW op) Y l).2 ≠ 0 then (zeroIL,(zdU (zaW op) Y l).2) else if zdG op (zdU (zaW op) Y l).1 ≠ 0 then (zeroIL,zdG op (zdU (zaW op) Y l).1) else (⟨op,if (zaW op).ty = true then l.getD 0 0 else 0,if (zaW op).res = true then l.getD (b2n (zaW op).ty) 0 else 0,(zdU (zaW op) Y l).1⟩,0):=by
  unfold zb2
  rw [if_neg h,if_neg (by rw [h2]; decide)]
  by_cases h3:(zde (zaW op) l Y).2 ≠ 0
  · rw [if_pos h3,zib h3,if_pos h3]
  · rw [if_neg h3]
    have h4:=zk5 (Nn h3)
    rw [← h4]
    by_cases h5:(zdU (zaW op) Y l).2 ≠ 0
    · rw [if_pos h5,if_pos h5]
    · rw [if_neg h5, if_neg h5, zmB h2 (zo8 (Nn h5))]
      by_cases h6:znb (zaW op) (zdU (zaW op) Y l).1.length
      · rw [if_pos h6,if_pos h6,if_pos (by decide)]
      · rw [if_neg h6,if_neg h6,zcR]
theorem znp {e:Int} (h:¬ l.length ≥ 65535) (h2:(zc6 op).isSome = true) (h3:(zdU (zaW op) Y l).2 = e) (he:e ≠ 0):zb2 Y op l = (zeroIL,e):=by rw [zl1 h h2,h3,if_pos he]
theorem zjE {e:Int} (h:¬ l.length ≥ 65535) (h2:(zc6 op).isSome = true) (h3:(zdU (zaW op) Y l).2 = 0) (h4:zdG op (zdU (zaW op) Y l).1 = e) (he:e ≠ 0):zb2 Y op l = (zeroIL,e):=by rw [zl1 h h2,if_neg (fun x=>x h3),h4,if_pos he]
theorem zqr (h:¬ l.length ≥ 65535) (h2:(zc6 op).isSome = true) (h3:(zdU (zaW op) Y l).2 = 0) (h4:zdG op (zdU (zaW op) Y l).1 = 0):zb2 Y op l = (⟨op,if (zaW op).ty = true then l.getD 0 0 else 0,if (zaW op).res = true then l.getD (b2n (zaW op).ty) 0 else 0,(zdU (zaW op) Y l).1⟩,0):=by rw [zl1 h h2,if_neg (fun x=>x h3),if_neg (fun x=>x h4)]
def H1 (fm:FormL) (l:List Int) (Y:Int) (a:Nat) (ty e:Int):Prop:=a ≤ l.length ∧ (e = 0 → a = b2n fm.ty ∧ ty = (if fm.ty = true then l.getD 0 0 else 0) ∧ ¬ (fm.ty = true ∧ l.length = 0) ∧ ¬ (fm.ty = true ∧ idE (l.getD 0 0) Y ≠ 0)) ∧ (e ≠ 0 → (zde fm l Y).2 = e)
theorem H1.no (h:fm.ty = false):H1 fm l Y 0 0 0:=⟨Nat.zero_le _,fun _=>⟨by rw [b2n,h]; rfl,by rw [h]; rfl,by rw [h]; simp,by rw [h]; simp⟩,fun h=>absurd rfl h⟩
theorem H1.lacks (h:fm.ty = true) (hl:l.length = 0):H1 fm l Y 0 0 40:=⟨Nat.zero_le _,fun hx=>absurd hx (by decide),fun _=>by unfold zde; rw [if_pos ⟨h,hl⟩]⟩
theorem H1.word (h:fm.ty = true) (hl:0 < l.length):H1 fm l Y 1 (l.getD 0 0) (idE (l.getD 0 0) Y):=by
  refine ⟨hl,fun he=>⟨by rw [b2n,h]; rfl,by rw [h]; rfl,fun h2=>by omega,fun h2=>h2.2 he⟩,fun he=>?_⟩
  have h43:idE (l.getD 0 0) Y = 43:=by
    unfold idE at he ⊢; split
    · rfl
    · rename_i hn; rw [if_neg hn] at he; exact absurd rfl he
  unfold zde
  rw [if_neg (fun h2=>by omega),if_pos ⟨h,he⟩,h43]
def H2 (fm:FormL) (l:List Int) (Y:Int) (a:Nat) (ty res e:Int):Prop:=a ≤ l.length ∧ (e = 0 → (zde fm l Y).2 = 0 ∧ a = b2n fm.ty + b2n fm.res ∧ ty = (if fm.ty = true then l.getD 0 0 else 0) ∧ res = (if fm.res = true then l.getD (b2n fm.ty) 0 else 0)) ∧ (e ≠ 0 → (zde fm l Y).2 = e)
theorem H2.err {a:Nat} {ty e:Int} (h:H1 fm l Y a ty e) (he:e ≠ 0):H2 fm l Y a ty 0 e:=⟨h.1,fun h2=>absurd h2 he,h.2.2⟩
theorem H2.no {a:Nat} {ty e:Int} (h:H1 fm l Y a ty e) (hr:fm.res = false) (he:e = 0):H2 fm l Y a ty 0 e:=by
  have h1:=h.2.1 he
  refine ⟨h.1,fun _=>⟨?_,by rw [b2n.eq_def fm.res,hr]; exact h1.1,h1.2.1,by rw [hr]; rfl⟩,fun h2=>absurd he h2⟩
  unfold zde
  rw [if_neg h1.2.2.1,if_neg h1.2.2.2,if_neg (by rw [hr]; simp),if_neg (by rw [hr]; simp)]
theorem H2.lacks {a:Nat} {ty:Int} (h:H1 fm l Y a ty 0) (hr:fm.res = true) (hl:a = l.length):H2 fm l Y a ty 0 41:=by
  have h1:=h.2.1 rfl
  refine ⟨h.1,fun hx=>absurd hx De,fun _=>?_⟩
  unfold zde
  rw [if_neg h1.2.2.1,if_neg h1.2.2.2,if_pos ⟨hr,by omega⟩]
theorem H2.word {a:Nat} {ty:Int} (h:H1 fm l Y a ty 0) (hr:fm.res = true) (hl:a < l.length):H2 fm l Y (a + 1) ty (l.getD a 0) (idE (l.getD a 0) Y):=by
  have h1:=h.2.1 rfl
  have ha:=h1.1
  subst ha
  refine ⟨hl,fun he=>⟨?_,by rw [b2n.eq_def fm.res,hr]; rfl,h1.2.1,by rw [hr]; rfl⟩,fun he=>?_⟩
  · unfold zde
    rw [if_neg h1.2.2.1,if_neg h1.2.2.2,if_neg (fun h2=>by omega),if_neg (fun h2=>h2.2 he)]
  · have h43:idE (l.getD (b2n fm.ty) 0) Y = 43:=by
      unfold idE at he ⊢; split
      · rfl
      · rename_i hn; rw [if_neg hn] at he; exact absurd rfl he
    unfold zde
    rw [if_neg h1.2.2.1,if_neg h1.2.2.2,if_neg (fun h2=>by omega),if_pos ⟨hr,he⟩,h43]
theorem H2.zero {a:Nat} {ty res e:Int} (h:H2 fm l Y a ty res e) (hs:(zdU fm Y l).2 = 0):e = 0:=Classical.byContradiction fun he=>by
  have h1:=h.2.2 he
  rw [zib (by rw [h1]; exact he),h1] at hs
  exact he hs
def A1 (fm:FormL) (l:List Int) (Y:Int) (a:Nat) (e:Int) (ags:List ArgP):Prop:=a ≤ l.length ∧ ags.length ≤ a + 1 ∧ (e = 0 → ags.length ≤ a ∧ ags ++ (zfD fm Y ags.length (l.drop a)).1 = (zdU fm Y l).1 ∧ (zfD fm Y ags.length (l.drop a)).2 = (zdU fm Y l).2) ∧ (e ≠ 0 → (zdU fm Y l).2 = e)
theorem A1.start {a:Nat} {ty res e:Int} (h:H2 fm l Y a ty res e):A1 fm l Y a e []:=by
  refine ⟨h.1,Nat.zero_le _,fun he=>⟨Nat.zero_le _,?_⟩,fun he=>?_⟩
  · have h1 := h.2.1 he
    rw [zk5 h1.1,← h1.2.1]
    exact ⟨rfl,rfl⟩
  · have h1 := h.2.2 he
    rw [zib (by rw [h1]; exact he),h1]
theorem A1.step {a a2:Nat} {ags ags2:List ArgP} {c:Int} (h:A1 fm l Y a 0 ags) (hc:zaJ fm (ags.length:Int) = c) (hgo:l.length - a > 0 ∨ ags.length < fm.fixed.length)
    (hE:(zeL c (l.drop a) Y).2.2 = 0 → a2 = a + (zeL c (l.drop a) Y).2.1 ∧ ags2 = ags ++ [(zeL c (l.drop a) Y).1]) (ha2:a2 ≤ l.length) (hn:ags2.length ≤ ags.length + 1) (hle:a ≤ a2 ∨ (zeL c (l.drop a) Y).2.2 = 0):A1 fm l Y a2 (zeL c (l.drop a) Y).2.2 ags2:=by
  subst hc
  have h1:=h.2.2.1 rfl
  refine ⟨ha2,?_,fun he=>?_,fun he=>?_⟩
  · rcases hle with hh | hh
    · omega
    · have:=hE hh; omega
  · have h2 := hE he
    have h3:=zg2 he
    have hs:=zr6 (fm:=fm) (Y:=Y) (k:=ags.length) (ws:=l.drop a) (a:=(zeL (zaJ fm ags.length) (l.drop a) Y).1) (m:=(zeL (zaJ fm ags.length) (l.drop a) Y).2.1) (by rw [List.length_drop]; omega) (by rw [← he])
    rw [List.drop_drop] at hs
    rw [h2.1,h2.2,List.length_append,List.length_singleton]
    rw [hs] at h1
    exact ⟨by omega,by rw [List.append_assoc]; exact h1.2.1,h1.2.2⟩
  · rw [← h1.2.2,zuu (by rw [List.length_drop]; omega) he]
theorem A1.stop {a:Nat} {ags:List ArgP} (h:A1 fm l Y a 0 ags) (h1:¬ l.length - a > 0) (h2:¬ ags.length < fm.fixed.length):ags = (zdU fm Y l).1 ∧ (zdU fm Y l).2 = 0:=by
  have h3:=h.2.2.1 rfl
  rw [zr5 (by rw [List.length_drop]; omega) (by omega)] at h3
  exact ⟨by rw [← h3.2.1]; simp,h3.2.2.symm⟩
def A1mu (n a:Nat) (e:Int):Nat:=if e = 0 then n - a + 1 else 0
theorem A1mu.step {n a a2:Nat} {e2:Int} (h:e2 = 0 → a < a2 ∧ a2 ≤ n):A1mu n a2 e2 < A1mu n a 0:=by
  unfold A1mu
  rw [if_pos rfl]
  split
  · rename_i he; have:=h he; omega
  · omega
end
open Go.RowKit Go.ChangeShapes Go.WideShapes Go.ChangeAt
def zed (gn bd:Int) (l:List InstL):List UInt8 × (Int × Int):=if (zbl bd l).1 ≠ 0 then ([],zbl bd l) else (zbk (zcd gn bd (zd6 bd l)),(0,0))
section
variable {Y:Int}
theorem zgP:∀ {l:List InstL} {n k:Nat},n ≤ 1048576 → (zcl Y n k l).1 = 0 → (∀ i ∈ l,za7 Y i = 0) ∧ zcl Y n k l = (0,0) ∧ (zgB n k ((zd6 Y l).map zqn)).2.1 = 0
  | [],n,k,hn,h=>⟨by simp,rfl,rfl⟩
  | i :: is, n, k, hn, h => by
    rw [zcl] at h ⊢
    split at h
    · rename_i h1; exact absurd h h1
    · rename_i h1
      have hf:=Nn h1
      split at h
      · cases h
      · rename_i h2
        rw [if_neg h1,if_neg h2]
        have ih:=zgP (l:=is) O h
        have hw:=zeO hf
        refine ⟨fun x hx=>by cases hx with
          | head=>exact hf
          | tail _ hx=>exact ih.1 x hx,ih.2.1,?_⟩
        simp only [zd6,List.map_cons] at ih ⊢
        rw [zjs hf,zgB,if_neg (by simp only [zqn]; omega),if_neg (by simp only [zqn]; omega)]
        have e:n + 1 + zqn (i.op,zfy (zaW i.op) i) = n + zbY (zaW i.op) i.args:=by simp only [zqn]; omega
        rw [e]; exact ih.2.2
theorem zgY {gn:Int} {l:List InstL} (h:(zbl Y l).1 = 0):zed gn Y l = (zbk (zcd gn Y (zd6 Y l)),(0,0)) ∧ zfx gn Y (zd6 Y l) = (zcd gn Y (zd6 Y l),(0,0)) ∧ zbl Y l = (0,0) ∧ (∀ i ∈ l,za7 Y i = 0) ∧ ¬ Y = 0 ∧ ¬ Y > 65536:=by
  have hb:¬ (Y = 0 ∨ Y > 65536):=fun hb=>by rw [zfL hb] at h; cases h
  have h1:¬ Y = 0:=fun e=>hb (.inl e)
  have h2:¬ Y > 65536:=fun e=>hb (.inr e)
  have hg:(zcl Y 5 0 l).1 = 0:=by rw [zd5 h1 h2] at h; exact h
  have hh:=zgP De hg
  exact ⟨if_neg fun e=>e h,zmA h1 h2 hh.2.2,by rw [zd5 h1 h2]; exact hh.2.1,hh.1,h1,h2⟩
theorem zr2 {gn:Int} {l:List InstL} (h:(zbl Y l).1 ≠ 0):zed gn Y l = ([],zbl Y l):=if_pos h
end
end Go.SK
namespace Go.SK
theorem zr1 {Y gn:Int} {l:List InstL} (h:(zbl Y l).1 = 0):(zcd gn Y (zd6 Y l)).length ≤ 1048576:=by
  have he:=zgY (gn:=gn) h
  have hg:(zcl Y 5 0 l).1 = 0:=by rw [zd5 he.2.2.2.2.1 he.2.2.2.2.2] at h; exact h
  have hh:=zgP De hg
  rw [zf9]
  exact (zmm De hh.2.2).2.2
theorem zvT {Y:Int} {l:List InstP} {done:List RawP} (h:done.map RawP.L = zd6 Y (l.map InstP.L)) (hf:∀ i ∈ l.map InstP.L,za7 Y i = 0) {r:RawP} (hr:r ∈ done):∃ i ∈ l,r.op = i.op ∧ r.ws.length < 65535:=by
  have hm:r.L ∈ zd6 Y (l.map InstP.L):=h ▸ List.mem_map_of_mem hr
  obtain ⟨i,hi,he⟩:=List.mem_map.1 hm
  obtain ⟨p,hp,rfl⟩:=List.mem_map.1 hi
  have h0:=hf _ hi
  rw [zjs h0] at he
  have h1:=congrArg Prod.fst he
  have h2:=congrArg Prod.snd he
  refine ⟨p,hp,h1.symm,?_⟩
  have:=(zeO h0).2
  have h3:r.ws = zfy (zaW p.L.op) p.L:=h2.symm
  rw [h3]; exact this
theorem zvU {Y:Int} {l:List InstP} {done:List RawP} (h:done.map RawP.L = zd6 Y (l.map InstP.L)):done.length = l.length:=by
  have:=congrArg List.length h
  simpa [zd6] using this
open Go.RowKit Go.ChangeShapes Go.WideShapes Go.ChangeAt
def znT (Y:Int):List zkn → List InstL × (Int × Int)
  | []=>([],(0,0))
  | p :: ps=>if (zb2 Y p.2.1 p.2.2).2 ≠ 0 then ([],((zb2 Y p.2.1 p.2.2).2,(p.1:Int))) else if (znT Y ps).2.1 ≠ 0 then ([],(znT Y ps).2) else ((zb2 Y p.2.1 p.2.2).1 :: (znT Y ps).1,(0,0))
def zvi (w:List Int):zyU :=
  if (zcL w).2.2.1 ≠ 0 then ((0,0,[]),(zcL w).2.2)
  else if (znT (zcL w).1.2 (zcL w).2.1).2.1 ≠ 0 then ((0,0,[]),(znT (zcL w).1.2 (zcL w).2.1).2)
  else (((zcL w).1.1,(zcL w).1.2,(znT (zcL w).1.2 (zcL w).2.1).1),(0,0))
def za2 (b:List UInt8):zyU:=if zcG b ≠ 0 then ((0,0,[]),(zcG b,0)) else zvi (zeQ b)
section
variable {Y:Int}
theorem zqJ:∀ {ps:List zkn} {i:Nat},i < ps.length → (∀ j,j < i → (zb2 Y (ps.getD j zbx).2.1 (ps.getD j zbx).2.2).2 = 0) → (zb2 Y (ps.getD i zbx).2.1 (ps.getD i zbx).2.2).2 ≠ 0 →
    (znT Y ps).2 = ((zb2 Y (ps.getD i zbx).2.1 (ps.getD i zbx).2.2).2,((ps.getD i zbx).1:Int))
  | [],i,h,_,_=>by simp at h
  | p :: ps, 0, _, _, he => by
    simp only [List.getD_cons_zero] at he ⊢
    rw [znT,if_pos he]
  | p :: ps, i + 1, h, hall, he => by
    have h0:=hall 0 O
    simp only [List.getD_cons_zero] at h0
    have ih:=zqJ (ps:=ps) (i:=i) (by simpa using h) (fun j hj=>by simpa using hall (j + 1) (by omega)) (by simpa using he)
    rw [znT,if_neg (fun e=>e h0),ih]
    simp only [List.getD_cons_succ] at he ⊢
    rw [if_pos he]
theorem zmj:∀ {ps:List zkn},(∀ j,j < ps.length → (zb2 Y (ps.getD j zbx).2.1 (ps.getD j zbx).2.2).2 = 0) → znT Y ps = (ps.map fun p=>(zb2 Y p.2.1 p.2.2).1,(0,0))
  | [],_=>rfl
  | p :: ps, hall => by
    have h0:=hall 0 (by simp)
    simp only [List.getD_cons_zero] at h0
    have ih:=zmj (ps:=ps) (fun j hj=>by simpa using hall (j + 1) (by simpa using hj))
    rw [znT,if_neg (fun e=>e h0),ih,zcR]
    rfl
end
theorem zfl {b:List UInt8} (h:zcG b ≠ 0):za2 b = ((0,0,[]),(zcG b,0)):=if_pos h
theorem zdk {b:List UInt8} (h:zcG b = 0):za2 b = zvi (zeQ b):=if_neg fun e=>e h
theorem zjX {w:List Int} (h:(zcL w).2.2.1 ≠ 0):zvi w = ((0,0,[]),(zcL w).2.2):=if_pos h
theorem zum {w:List Int} {g bd e a:Int} {its:List zkn} {z:Int × Int} (h:zcL w = ((g,bd),its,z)) (h0:z.1 = 0) (hd:(znT bd its).2 = (e,a)) (he:e ≠ 0):zvi w = ((0,0,[]),(e,a)):=by
  unfold zvi
  rw [h]
  simp only
  rw [if_neg (fun x=>x h0),hd,if_pos he]
theorem zpg {w:List Int} {g bd:Int} {its:List zkn} {z:Int × Int} {l:List InstL} (h:zcL w = ((g,bd),its,z)) (h0:z.1 = 0) (hd:znT bd its = (l,(0,0))):zvi w = ((g,bd,l),(0,0)):=by
  unfold zvi
  rw [h]
  simp only
  rw [if_neg (fun x=>x h0),hd,zcR]
theorem zh2 {w:List Int} (h:(zcL w).2.2.1 = 0):zcL w = ((w.getD 2 0,w.getD 3 0),(zcf w 5).1,(0,0)) ∧ w.length ≤ 1048576 ∧ (zcN w).1 = 0 ∧ ¬ (zcf w 5).2 < w.length:=by
  by_cases h1:w.length > 1048576
  · rw [zgR h1] at h; cases h
  · by_cases h2 : (zcN w).1 = 0
    · by_cases h3 : (zcf w 5).2 < w.length
      · rw [zgS h1 h2 h3] at h; cases h
      · exact ⟨zlP h1 h2 h3,by omega,h2,h3⟩
    · rw [zkT h1 h2] at h; exact absurd h h2
theorem zm2 {done:List RawP} {its:List zkn} (h:done.map RawP.L = its.map (·.2)) {i:Nat} (hi:i < done.length):(done.getD i zbG).op = (its.getD i zbx).2.1 ∧ (done.getD i zbG).ws = (its.getD i zbx).2.2:=by
  have hl:done.length = its.length:=by simpa using congrArg List.length h
  have h1:=congrArg (fun l:List zqT=>l.getD i (0,[])) h
  have h2:(done.map RawP.L).getD i (0,[]) = (done.getD i zbG).L:=by
    have:=zdJ RawP.L zbG hi
    exact this
  have h3:(its.map (·.2)).getD i (0,[]) = (its.getD i zbx).2:=zdJ (fun p:zkn=>p.2) zbx O
  simp only [h2,h3] at h1
  exact ⟨congrArg Prod.fst h1,congrArg Prod.snd h1⟩
theorem zyj {w:List Int} (hw:Wd w) {its:List zkn} (hi:its = (zcf w 5).1) {i:Nat} (h:i < its.length):Wd (its.getD i zbx).2.2 ∧ 0 ≤ (its.getD i zbx).2.1 ∧ (its.getD i zbx).2.1 < 65536 ∧ (its.getD i zbx).2.2.length < 65535:=by
  subst hi; exact zl2 hw _ _ _ (zbJ h)
theorem zv9 {bd:Int} {its:List zkn} {i:Nat} (h:i < its.length):(its.take (i + 1)).map (fun p=>(zb2 bd p.2.1 p.2.2).1) = (its.take i).map (fun p=>(zb2 bd p.2.1 p.2.2).1) ++ [(zb2 bd (its.getD i zbx).2.1 (its.getD i zbx).2.2).1]:=by
  rw [zce (d:=zbx) h,List.map_append]; rfl
end Go.SK
namespace Go.SK
theorem zte (b:List UInt8):(zeQ b).length ≤ b.length / 4:=by
  unfold zeQ; split
  · rw [zb3]; exact Nat.le_refl _
  · exact Nat.zero_le _
open Go.RowKit Go.ChangeShapes Go.WideShapes Go.ChangeAt
theorem zr4 {α:Type} {l:List α} {k:Nat} (d:α) (h:k < l.length):l.drop k = l.getD k d :: l.drop (k + 1):=by
  rw [List.drop_eq_getElem_cons h]; simp [List.getD,h]
section
variable {P:Program} {b:Base} {k:List Item} {f:Nat → Value} {w:World} {E:Frame → World → Prop} {ops:Array Oper} {l:List Oper} {d:Option Tmp} {ty:TypeId} {pos:String} {aft:Array Edge} {x:Operand}
theorem AH {a:Int} (h:ev b.n f x = .int .u16 a) (hk:RunL P b ops l k (zg6 f d (.int .u16 a)) w E):RunL P b ops (asO x d ty pos aft :: l) k f w E:=RunL.cons (zap h hk)
end
end Go.SK
namespace Go.SK
open Go.RowKit
abbrev lUU (x0:Int) (x1:Int):List Value:=[.int .u32 x0,.int .u32 x1]
abbrev gUU (x0:Int) (x1:Int):Value:=.agg #[.int .u32 x0,.int .u32 x1]
abbrev gLI (x0:Option Addr) (x1 x2:Nat) (x3:Int):Value:=.agg #[.slice x0 x1 x2,.int .i64 x3]
variable {P:Program} {b:Base} {k:List Item} {E:Frame → World → Prop} {ops:Array Oper} {f:Nat → Value} {w0 w:World} {M:Nat → Prop} {L D:List Res} {pd:zkE} {tk:zdr} {bs:List Nat} {ds:List (Option Nat)} {i:Nat} {l:List Oper} {ws:Nat → zgM}
theorem zfq {d:Option Tmp} {op:Op} {ty:TypeId} {pos:String} {aft:Array Edge} (wd:zu7) (htab:DrawTab ops bs ds) (i':Nat)
    (hv:∀ f' L' w',Know1 tk bs ds f w0 M L D i ws f' L' w' → (∀ j r r',(j,r,r') ∈ pd → zmx (bs.getD j 0) i = true → r ∈ L') → Op1 P op ty (ev b.n f') w' (fun v w''=>∃ rs,wd v rs ∧ St w0 M (rs ++ (L' ++ L)) D w''))
    (h:RunD tk pd P b ops bs ds k E f w0 M L D w i' l (zou ws i (cw wd))) (hi:i + 1 = i':=by rfl) (hd:zcW op = false:=by rfl) (hp:(pd.all fun p=>!(Nat.beq p.1 i)) = true:=by rfl) (hk:zs6 tk i = true:=by rfl):RunD tk pd P b ops bs ds k E f w0 M L D w i (⟨d,op,ty,pos,aft,none⟩ :: l) ws:=by
  subst hi
  refine RunD.cons (cw wd) (fun ho φ hφ hi2 o ho' f' L' L'' w' hc=>?_) h
  rw [ho] at ho'
  obtain rfl:=Option.some.inj ho'
  refine .inl ⟨rfl,hd,?_⟩
  have:=hv f' L' w' (zdB htab hφ ho hc) (fun j r r' hp hb=>hc.later (j,r,r') hp (by rw [htab.waits,zdP]; exact hb))
  rw [hi2,hc.turn.same (zgg hp) (zdb hk)]
  exact this
theorem Rem.perm2 {r:Res} {A X:List Res} (h:Rem r A X):A.Perm (r :: X):=by
  induction h with
  | here=>exact List.Perm.refl _
  | there _ ih=>exact (List.Perm.cons _ ih).trans (List.Perm.swap _ _ _)
theorem Rem.mem2 {r:Res} {A X:List Res} (h:Rem r A X):r ∈ A:=(h.perm2.mem_iff).2 (.head _)
theorem St.callRem {A X:List Res} {r r':Res} {w' w'':World} (h:St w0 M A D w') (hr:Rem r A X) (hc:St w' r.foot [r'] [] w''):St w0 M (r' :: X) D w'' :=
  (h.perm hr.perm2).call1 hc
end Go.SK
namespace Go.SK
open Go.RowKit
theorem Wu16 {n:Int} (h1:0 ≤ n:=by omega) (h2:n ≤ 65535:=by omega):IntKind.u16.wrap n = n:=zvn h1 h2
theorem Rem.u7 {r:Res} {x0 x1 x2 x3 x4 x5 x6:Res} {L:List Res}:Rem r (x0 :: x1 :: x2 :: x3 :: x4 :: x5 :: x6 :: r :: L) (x0 :: x1 :: x2 :: x3 :: x4 :: x5 :: x6 :: L):=.there (.there (.there (.there (.there (.there (.there .here))))))
theorem Sel.u7 {r r':Res} {x0 x1 x2 x3 x4 x5 x6:Res} {L:List Res}:Sel r r' (x0 :: x1 :: x2 :: x3 :: x4 :: x5 :: x6 :: r :: L) (x0 :: x1 :: x2 :: x3 :: x4 :: x5 :: x6 :: r' :: L):=.there (.there (.there (.there (.there (.there (.there .here))))))
theorem Q8 {α:Type} {y:α} {x0 x1 x2 x3 x4 x5 x6 x7:α} {L:List α}:List.Mem y (x0 :: x1 :: x2 :: x3 :: x4 :: x5 :: x6 :: x7 :: y :: L):=.tail _ (.tail _ (.tail _ (.tail _ (.tail _ (.tail _ (.tail _ (.tail _ (.head _))))))))
theorem Rem.u9 {r:Res} {x0 x1 x2 x3 x4 x5 x6 x7 x8:Res} {L:List Res}:Rem r (x0 :: x1 :: x2 :: x3 :: x4 :: x5 :: x6 :: x7 :: x8 :: r :: L) (x0 :: x1 :: x2 :: x3 :: x4 :: x5 :: x6 :: x7 :: x8 :: L):=.there (.there (.there (.there (.there (.there (.there (.there (.there .here))))))))
theorem Sel.u9 {r r':Res} {x0 x1 x2 x3 x4 x5 x6 x7 x8:Res} {L:List Res}:Sel r r' (x0 :: x1 :: x2 :: x3 :: x4 :: x5 :: x6 :: x7 :: x8 :: r :: L) (x0 :: x1 :: x2 :: x3 :: x4 :: x5 :: x6 :: x7 :: x8 :: r' :: L):=.there (.there (.there (.there (.there (.there (.there (.there (.there .here))))))))
theorem Q9 {α:Type} {y:α} {x0 x1 x2 x3 x4 x5 x6 x7 x8:α} {L:List α}:List.Mem y (x0 :: x1 :: x2 :: x3 :: x4 :: x5 :: x6 :: x7 :: x8 :: y :: L):=.tail _ (.tail _ (.tail _ (.tail _ (.tail _ (.tail _ (.tail _ (.tail _ (.tail _ (.head _)))))))))
theorem Rem.u10 {r:Res} {x0 x1 x2 x3 x4 x5 x6 x7 x8 x9:Res} {L:List Res}:Rem r (x0 :: x1 :: x2 :: x3 :: x4 :: x5 :: x6 :: x7 :: x8 :: x9 :: r :: L) (x0 :: x1 :: x2 :: x3 :: x4 :: x5 :: x6 :: x7 :: x8 :: x9 :: L):=.there (.there (.there (.there (.there (.there (.there (.there (.there (.there .here)))))))))
theorem Sel.u10 {r r':Res} {x0 x1 x2 x3 x4 x5 x6 x7 x8 x9:Res} {L:List Res}:Sel r r' (x0 :: x1 :: x2 :: x3 :: x4 :: x5 :: x6 :: x7 :: x8 :: x9 :: r :: L) (x0 :: x1 :: x2 :: x3 :: x4 :: x5 :: x6 :: x7 :: x8 :: x9 :: r' :: L):=.there (.there (.there (.there (.there (.there (.there (.there (.there (.there .here)))))))))
theorem Q10 {α:Type} {y:α} {x0 x1 x2 x3 x4 x5 x6 x7 x8 x9:α} {L:List α}:List.Mem y (x0 :: x1 :: x2 :: x3 :: x4 :: x5 :: x6 :: x7 :: x8 :: x9 :: y :: L):=.tail _ (.tail _ (.tail _ (.tail _ (.tail _ (.tail _ (.tail _ (.tail _ (.tail _ (.tail _ (.head _))))))))))
theorem Rem.u11 {r:Res} {x0 x1 x2 x3 x4 x5 x6 x7 x8 x9 x10:Res} {L:List Res}:Rem r (x0 :: x1 :: x2 :: x3 :: x4 :: x5 :: x6 :: x7 :: x8 :: x9 :: x10 :: r :: L) (x0 :: x1 :: x2 :: x3 :: x4 :: x5 :: x6 :: x7 :: x8 :: x9 :: x10 :: L):=.there (.there (.there (.there (.there (.there (.there (.there (.there (.there (.there .here))))))))))
theorem Sel.u11 {r r':Res} {x0 x1 x2 x3 x4 x5 x6 x7 x8 x9 x10:Res} {L:List Res}:Sel r r' (x0 :: x1 :: x2 :: x3 :: x4 :: x5 :: x6 :: x7 :: x8 :: x9 :: x10 :: r :: L) (x0 :: x1 :: x2 :: x3 :: x4 :: x5 :: x6 :: x7 :: x8 :: x9 :: x10 :: r' :: L):=.there (.there (.there (.there (.there (.there (.there (.there (.there (.there (.there .here))))))))))
theorem Q11 {α:Type} {y:α} {x0 x1 x2 x3 x4 x5 x6 x7 x8 x9 x10:α} {L:List α}:List.Mem y (x0 :: x1 :: x2 :: x3 :: x4 :: x5 :: x6 :: x7 :: x8 :: x9 :: x10 :: y :: L):=.tail _ (.tail _ (.tail _ (.tail _ (.tail _ (.tail _ (.tail _ (.tail _ (.tail _ (.tail _ (.tail _ (.head _)))))))))))
theorem Rem.u12 {r:Res} {x0 x1 x2 x3 x4 x5 x6 x7 x8 x9 x10 x11:Res} {L:List Res}:Rem r (x0 :: x1 :: x2 :: x3 :: x4 :: x5 :: x6 :: x7 :: x8 :: x9 :: x10 :: x11 :: r :: L) (x0 :: x1 :: x2 :: x3 :: x4 :: x5 :: x6 :: x7 :: x8 :: x9 :: x10 :: x11 :: L):=.there (.there (.there (.there (.there (.there (.there (.there (.there (.there (.there (.there .here)))))))))))
theorem Sel.u12 {r r':Res} {x0 x1 x2 x3 x4 x5 x6 x7 x8 x9 x10 x11:Res} {L:List Res}:Sel r r' (x0 :: x1 :: x2 :: x3 :: x4 :: x5 :: x6 :: x7 :: x8 :: x9 :: x10 :: x11 :: r :: L) (x0 :: x1 :: x2 :: x3 :: x4 :: x5 :: x6 :: x7 :: x8 :: x9 :: x10 :: x11 :: r' :: L):=.there (.there (.there (.there (.there (.there (.there (.there (.there (.there (.there (.there .here)))))))))))
theorem E8 {f:Nat → Value} {t0 t1 t2 t3 t4 t5 t6 t7:Nat}:Slots f [(t0,f t0),(t1,f t1),(t2,f t2),(t3,f t3),(t4,f t4),(t5,f t5),(t6,f t6),(t7,f t7)]:=⟨rfl,rfl,rfl,rfl,rfl,rfl,rfl,rfl,trivial⟩
theorem E9 {f:Nat → Value} {t0 t1 t2 t3 t4 t5 t6 t7 t8:Nat}:Slots f [(t0,f t0),(t1,f t1),(t2,f t2),(t3,f t3),(t4,f t4),(t5,f t5),(t6,f t6),(t7,f t7),(t8,f t8)]:=⟨rfl,rfl,rfl,rfl,rfl,rfl,rfl,rfl,rfl,trivial⟩
theorem rg3:List.range 3 = [0,1,2]:=rfl
theorem rg5:List.range 5 = [0,1,2,3,4]:=rfl
theorem rg11:List.range 11 = [0,1,2,3,4,5,6,7,8,9,10]:=rfl
theorem rg12:List.range 12 = [0,1,2,3,4,5,6,7,8,9,10,11]:=rfl
theorem rg16:List.range 16 = [0,1,2,3,4,5,6,7,8,9,10,11,12,13,14,15]:=rfl
theorem rg19:List.range 19 = [0,1,2,3,4,5,6,7,8,9,10,11,12,13,14,15,16,17,18]:=rfl
end Go.SK
namespace Go.SK
theorem zvQ (s:Tx):(zcj s).all zkm = true:=by
  unfold zcj; simp [List.all_takeWhile]
theorem zui {s:Tx} {i n:Nat} (h:i < s.length) (hd:zej (s.getD i 0) = true):zcD (s.drop i) n = zcD (s.drop (i + 1)) (10 * n + ((s.getD i 0).toNat - 48)):=by
  rw [zmd h,zcD,if_pos hd]
theorem zuh {s:Tx} {i n:Nat} (h:i < s.length) (hd:¬ zej (s.getD i 0) = true):zcD (s.drop i) n = none:=by
  rw [zmd h,zcD,if_neg hd]
theorem zwE {s:Tx} {i n:Nat} (h:s.length ≤ i):zcD (s.drop i) n = some n:=by
  rw [List.drop_eq_nil_of_le h]; rfl
open Go.RowKit
theorem Pick.k8 {x0 x1 x2 x3 x4 x5 x6 x7:Res} {L L':List Res} (h:Pick L' L):Pick (x0 :: x1 :: x2 :: x3 :: x4 :: x5 :: x6 :: x7 :: L') (x0 :: x1 :: x2 :: x3 :: x4 :: x5 :: x6 :: x7 :: L):=.cons .here (.cons .here (.cons .here (.cons .here (.cons .here (.cons .here (.cons .here (.cons .here (h))))))))
theorem Pick.k9 {x0 x1 x2 x3 x4 x5 x6 x7 x8:Res} {L L':List Res} (h:Pick L' L):Pick (x0 :: x1 :: x2 :: x3 :: x4 :: x5 :: x6 :: x7 :: x8 :: L') (x0 :: x1 :: x2 :: x3 :: x4 :: x5 :: x6 :: x7 :: x8 :: L):=.cons .here (.cons .here (.cons .here (.cons .here (.cons .here (.cons .here (.cons .here (.cons .here (.cons .here (h)))))))))
theorem Pick.k10 {x0 x1 x2 x3 x4 x5 x6 x7 x8 x9:Res} {L L':List Res} (h:Pick L' L):Pick (x0 :: x1 :: x2 :: x3 :: x4 :: x5 :: x6 :: x7 :: x8 :: x9 :: L') (x0 :: x1 :: x2 :: x3 :: x4 :: x5 :: x6 :: x7 :: x8 :: x9 :: L):=.cons .here (.cons .here (.cons .here (.cons .here (.cons .here (.cons .here (.cons .here (.cons .here (.cons .here (.cons .here (h))))))))))
theorem Pick.k12 {x0 x1 x2 x3 x4 x5 x6 x7 x8 x9 x10 x11:Res} {L L':List Res} (h:Pick L' L):Pick (x0 :: x1 :: x2 :: x3 :: x4 :: x5 :: x6 :: x7 :: x8 :: x9 :: x10 :: x11 :: L') (x0 :: x1 :: x2 :: x3 :: x4 :: x5 :: x6 :: x7 :: x8 :: x9 :: x10 :: x11 :: L):=.cons .here (.cons .here (.cons .here (.cons .here (.cons .here (.cons .here (.cons .here (.cons .here (.cons .here (.cons .here (.cons .here (.cons .here (h))))))))))))
abbrev AR (T b:Nat) (s:Tx) (ao:Option Addr) (cp:Nat) (l:List TokL) (a y e p:Int):Res:=Res.row b T [str s,.slice ao l.length cp,.int .i64 a,.int .u32 y,.int .i64 e,.int .i64 p]
end Go.SK
namespace Go.SK
theorem zmQ {l:List Int} (hw:Wd l):zbV (zbk l) = l:=by
  refine zbN 0 (by rw [zb3,zbc]; omega) fun j hj=>?_
  rw [zb3,zbc] at hj
  rw [zc0 (by rw [zbc]; exact hj)]
  have e:∀ t,t < 4 → (zbk l).getD (4 * j + t) 0 = zeo (l.getD j 0) t:=fun t ht=>by rw [zdd (by omega),zj0 _ _ _ ht]
  have e0:=e 0 O
  rw [Nat.add_zero] at e0
  have:=hw.get j
  unfold zds
  rw [e0,e 1 (by omega),e 2 (by omega),e 3 (by omega),zdM,zdM,zdM,zdM,show (256:Int) ^ 0 = 1 from rfl,show (256:Int) ^ 1 = 256 from rfl,show (256:Int) ^ 2 = 65536 from rfl,show (256:Int) ^ 3 = 16777216 from rfl]
  omega
theorem znm {b:List UInt8} (h:b.length % 4 = 0):zbk (zbV b) = b:=by
  refine zbN 0 (by rw [zbc,zb3]; omega) fun k hk=>?_
  rw [zbc,zb3] at hk
  rw [zdd (by rw [zb3]; exact hk)]
  obtain ⟨j,t,ht,rfl⟩:∃ j t,t < 4 ∧ k = 4 * j + t:=⟨k / 4,k % 4,by omega,by omega⟩
  rw [zj0 _ _ _ ht,zc0 (by omega)]
  refine zsY ?_
  rw [zdM]
  have h0:=zph b (4 * j)
  have h1:=zph b (4 * j + 1)
  have h2:=zph b (4 * j + 2)
  have h3:=zph b (4 * j + 3)
  unfold zds
  match t,ht with
  | 0,_=>rw [show (256:Int) ^ 0 = 1 from rfl,Int.ediv_one,show b.getD (4 * j + 0) 0 = b.getD (4 * j) 0 from rfl]; omega
  | 1,_=>rw [show (256:Int) ^ 1 = 256 from rfl]; omega
  | 2,_=>rw [show (256:Int) ^ 2 = 65536 from rfl]; omega
  | 3,_=>rw [show (256:Int) ^ 3 = 16777216 from rfl]; omega
theorem zjH {α:Type} {l m:List α} {i:Nat} {d:α} (h:i < l.length):(l ++ m).getD i d = l.getD i d:=by
  simp [List.getD,List.getElem?_append_left h]
theorem zjG {α:Type} {l m:List α} {i:Nat} {d:α} (h:l.length ≤ i):(l ++ m).getD i d = m.getD (i - l.length) d:=by
  simp [List.getD,List.getElem?_append_right h]
theorem ztQ (l m:List Int):zbk (l ++ m) = zbk l ++ zbk m:=by
  refine zbN 0 (by simp [zbc]; omega) fun k hk=>?_
  rw [zbc,List.length_append] at hk
  rw [zdd (by rw [List.length_append]; exact hk)]
  by_cases h:k < 4 * l.length
  · rw [zjH (by rw [zbc]; exact h),zdd h,zhH,zhH,zjH (by omega)]
  · rw [zjG (by rw [zbc]; omega),zbc,zdd (by omega),zhH,zhH,zjG (by omega),show (k - 4 * l.length) / 4 = k / 4 - l.length by omega,show (k - 4 * l.length) % 4 = k % 4 by omega]
theorem zo5 {l:List Int} {n:Nat} (h:n ≤ l.length):zbk (l.take n) = (zbk l).take (4 * n):=by
  have e:zbk l = zbk (l.take n) ++ zbk (l.drop n):=by rw [← ztQ,List.take_append_drop]
  rw [e,List.take_left' (by rw [zbc,List.length_take]; omega)]
theorem zrz {s:List UInt8} {r:Nat}:(zhr s).getD r 0 = if r < s.length then s.getD r 0 else 0:=by
  unfold zhr cpG
  rw [List.take_length]
  split
  · rename_i h; rw [zjH h]
  · rename_i h; rw [zjG (by omega)]; simp [List.getD,List.getElem?_replicate]; split <;> rfl
theorem zya {ws:List Int} (hw:Wd ws) (hl:ws.length ≤ 65535) {s:List UInt8} {n:Int} (h:zdH ws = (s,n,0)):n = ((s.length / 4 + 1:Nat):Int) ∧ s.length / 4 + 1 ≤ ws.length ∧ zcI s = 0 ∧ zcr s = ws.take (s.length / 4 + 1) ∧ zbr s = s.length:=by
  unfold zdH at h
  split at h
  · cases h
  · rename_i h1
    split at h
    · cases h
    · rename_i h2
      have h2:=Nn h2
      injection h with hs hn
      injection hn with hn _
      have hle:zbr (zbk ws) ≤ (zbk ws).length:=List.findIdx_le_length
      rw [zbc] at hle
      generalize hz:zbr (zbk ws) = z at *
      have hlt:z < 4 * ws.length:=by omega
      have hsl:s.length = z:=by rw [← hs,List.length_take,zbc]; omega
      have hne:∀ q,q < z → (zbk ws).getD q 0 ≠ 0:=fun q hq e=>by
        have h3:q < (zbk ws).findIdx (· == 0):=by rw [← show zbr (zbk ws) = (zbk ws).findIdx (· == 0) from rfl,hz]; exact hq
        have h4:=List.not_of_lt_findIdx h3
        have hq2:q < (zbk ws).length:=by rw [zbc]; omega
        simp only [List.getD,List.getElem?_eq_getElem hq2,Option.getD_some] at e
        rw [e] at h4
        exact absurd h4 De
      have hsg:∀ q,q < z → s.getD q 0 = (zbk ws).getD q 0:=fun q hq=>by rw [← hs]; simp [List.getD,List.getElem?_take,hq]
      have hzs:zbr s = s.length:=zeM fun q hq=>by rw [hsg q (by omega)]; exact hne q (by omega)
      have hE:zcI s = 0:=by unfold zcI; rw [if_neg (fun e=>e hzs),if_neg (by omega)]
      have hp:zhr s = (zbk ws).take (4 * (s.length / 4 + 1)):=by
        refine zbN 0 (by rw [zgh,List.length_take,zbc]; omega) fun r hr=>?_
        rw [zgh] at hr
        rw [zrz]
        have e1:((zbk ws).take (4 * (s.length / 4 + 1))).getD r 0 = (zbk ws).getD r 0:=by simp [List.getD,List.getElem?_take,hr]
        rw [e1]
        split
        · rename_i hr2; exact hsg r O
        · rename_i hr2
          rw [zdd (by omega),zhH]
          refine zsY ?_
          rw [zdM,show r / 4 = z / 4 by omega,zme h2 (by omega)]; rfl
      refine ⟨by rw [← hn,hsl],by omega,hE,?_,hzs⟩
      rw [zh4 hE,hp,← zo5 (by omega),zmQ (fun x hx=>hw x (List.mem_of_mem_take hx))]
theorem zuA {c b:Int} {ws:List Int} (hw:Wd ws) (hl:ws.length ≤ 65535) (h:(zeL c ws b).2.2 = 0):zbv c (zeL c ws b).1 b = 0 ∧ zr7 (zeL c ws b).1 = ws.take (zeL c ws b).2.1 ∧ zaT (zeL c ws b).1 = (zeL c ws b).2.1:=by
  by_cases h1:c = 0 ∨ ws.length = 0
  · rw [zhM h1] at h; cases h
  · have h2 : ¬ c = 0 := fun e => h1 (.inl e)
    have h3:¬ ws.length = 0:=fun e=>h1 (.inr e)
    by_cases hk:zbR c = 3
    · rw [zhK h2 h3 hk] at h ⊢
      obtain ⟨s,n,e,ht⟩:∃ s n e,zdH ws = (s,n,e):=⟨_,_,_,rfl⟩
      rw [ht] at h ⊢
      simp only at h ⊢
      subst h
      obtain ⟨t1,t2,t3,t4,t5⟩:=zya hw hl ht
      refine ⟨?_,?_,?_⟩
      · rw [zjc h2 (fun e=>e (by rw [hk])) rfl (fun e=>e rfl)]; unfold zoK; rw [if_neg (fun e=>e t5)]
      · rw [(zee (a:=⟨3,0,s⟩) rfl).1,t4,t1,Int.toNat_natCast]
      · rw [(zee (a:=⟨3,0,s⟩) rfl).2,t1,Int.toNat_natCast]
    · rw [zhL h2 h3 hk] at h ⊢
      simp only at h ⊢
      refine ⟨?_,?_,?_⟩
      · rw [zf8 h2 (fun e=>e rfl) hk (fun e=>e rfl)]; exact h
      · rw [(zfo (a := ⟨zbR c, ws.getD 0 0, []⟩) hk).1]
        cases ws with
        | nil=>exact absurd rfl h3
        | cons x r=>rfl
      · exact (zfo (a:=⟨zbR c,ws.getD 0 0,[]⟩) hk).2
theorem znY {fm:FormL} {b:Int}:∀ (n k:Nat) (ws:List Int),ws.length < n → Wd ws → ws.length ≤ 65535 → (zep fm b n k ws).2 = 0 → zby fm b k (zep fm b n k ws).1 = 0 ∧ (zep fm b n k ws).1.flatMap zr7 = ws ∧ ((zep fm b n k ws).1.map zaT).sum = ws.length
  | 0,k,ws,hn,_,_,_=>absurd hn (Nat.not_lt_zero _)
  | n + 1, k, ws, hn, hw, hl, h => by
    rw [zep] at h ⊢
    split at h
    · rename_i h1
      rw [if_pos h1]
      have:ws = []:=List.length_eq_zero_iff.1 h1.1
      subst this
      exact ⟨rfl,rfl,rfl⟩
    · rename_i h1
      rw [if_neg h1]
      split at h
      · rename_i h2; exact absurd h h2
      · rename_i h2
        rw [if_neg h2]
        have he:=Nn h2
        have hok:=zg2 he
        have hb:=zuA hw hl he
        have ih:=znY n (k + 1) (ws.drop (zeL (zaJ fm k) ws b).2.1) (by rw [List.length_drop]; omega) (fun x hx=>hw x (List.mem_of_mem_drop hx)) (by rw [List.length_drop]; omega) h
        refine ⟨?_,?_,?_⟩
        · rw [zby,if_neg (fun e=>e hb.1)]; exact ih.1
        · simp only [List.flatMap_cons]; rw [hb.2.1,ih.2.1,List.take_append_drop]
        · simp only [List.map_cons,List.sum_cons]; rw [hb.2.2,ih.2.2,List.length_drop]; omega
theorem zxm {must:Bool} {n b e:Int} (h1:must = true → n ≠ 0 ∧ n < b) (h2:must = false → n = 0):idH must n b e = 0:=by
  unfold idH
  cases must with
  | true =>
    have:=h1 rfl
    rw [if_neg (fun hx=>hx (by rw [Dt this.1])),if_neg (by simp; omega)]
  | false =>
    have:=h2 rfl
    rw [if_neg (fun hx=>hx (by simp [this])),if_neg (by simp)]
theorem ztT {b op:Int} {ws:List Int} {i:InstL} (hw:Wd ws) (h:zb2 b op ws = (i,0)):i.op = op ∧ za7 b i = 0 ∧ zfy (zaW op) i = ws:=by
  unfold zb2 at h
  split at h
  · cases h
  · rename_i h1
    split at h
    · cases h
    · rename_i h2
      split at h
      · rename_i h3; injection h with _ h; exact absurd h h3
      · rename_i h3
        have h3:=Nn h3
        split at h
        · rename_i h4; injection h with _ h; exact absurd h h4
        · rename_i h4
          have h4:=Nn h4
          split at h
          · cases h
          · rename_i h5
            have hs:(zc6 op).isSome = true:=by
              cases hs:(zc6 op).isSome with
              | true=>rfl
              | false=>exact absurd hs h2
            injection h with h _
            subst h
            have hh:=zwg h3
            have hb:=znY _ 0 _ (Nat.lt_succ_self _) (fun x hx=>hw x (List.mem_of_mem_drop hx)) (by rw [List.length_drop]; omega) h4
            have hroom:zbY (zaW op) (zfD (zaW op) b 0 (ws.drop (b2n (zaW op).ty + b2n (zaW op).res))).1 ≤ 65535:=by
              have h6:((zfD (zaW op) b 0 (ws.drop (b2n (zaW op).ty + b2n (zaW op).res))).1.map zaT).sum = (ws.drop (b2n (zaW op).ty + b2n (zaW op).res)).length:=hb.2.2
              have h7:(ws.drop (b2n (zaW op).ty + b2n (zaW op).res)).length = ws.length - (b2n (zaW op).ty + b2n (zaW op).res):=List.length_drop
              have h8:=hh.1
              unfold zbY
              omega
            refine ⟨rfl,?_,?_⟩
            · rw [ze2 hs]
              simp only
              rw [zxm (fun e=>by rw [if_pos e]; have:=idE_zero.1 (hh.2.1 e); omega) (fun e=>by rw [e]; rfl),if_neg (fun e=>e rfl),
                zxm (fun e=>by rw [if_pos e]; have:=idE_zero.1 (hh.2.2 e); omega) (fun e=>by rw [e]; rfl),if_neg (fun e=>e rfl),hb.1,if_neg (fun e=>e rfl),if_neg h5,if_neg (by omega)]
            · unfold zfy
              simp only
              rw [hb.2.1]
              unfold zrS
              have hle:=hh.1
              revert hle
              unfold b2n
              cases (zaW op).ty <;> cases (zaW op).res <;> simp <;> intro hle
              · cases ws with
                | nil=>simp at hle
                | cons x r=>simp
              · cases ws with
                | nil=>simp at hle
                | cons x r=>simp
              · match ws, hle with
                | x :: y :: r,_=>simp
theorem znq {w:List Int} (hw:Wd w):∀ (k a:Nat),w.drop a = ((zev w k a).1.map (·.2)).flatMap zxg ++ w.drop (zev w k a).2
  | 0,a=>rfl
  | k + 1, a => by
    rw [zev]
    split
    · rename_i hc
      have ht:=zec hw hc.2
      have hx:=hw.get a
      have ih:=znq hw k (a + (w.getD a 0 / 65536).toNat)
      generalize hn:(w.getD a 0 / 65536).toNat = n at *
      have e1:w.drop a = w.getD a 0 :: w.drop (a + 1):=zr4 0 hc.1
      have e2:w.drop (a + 1) = (w.drop (a + 1)).take (n - 1) ++ w.drop (a + n):=by
        conv=>lhs; rw [← List.take_append_drop (n - 1) (w.drop (a + 1))]
        rw [List.drop_drop,show a + 1 + (n - 1) = a + n by omega]
      have e3:((w.drop (a + 1)).take (n - 1)).length = n - 1:=by rw [List.length_take,List.length_drop]; omega
      simp only [List.map_cons,List.flatMap_cons]
      rw [List.append_assoc,← ih]
      unfold zxg
      simp only [List.cons_append]
      rw [← e2,e3,e1]
      congr 1
      omega
    · rfl
theorem zmk {bd:Int}:∀ {ps:List zkn},(znT bd ps).2.1 = 0 → ∀ p ∈ ps,(zb2 bd p.2.1 p.2.2).2 = 0
  | [],_,p,hp=>by cases hp
  | q :: ps, h, p, hp => by
    rw [znT] at h
    split at h
    · rename_i h1; exact absurd h h1
    · rename_i h1
      split at h
      · rename_i h2; exact absurd h h2
      · rename_i h2
        cases hp with
        | head=>exact Nn h1
        | tail _ hp=>exact zmk (Nn h2) p hp
theorem zmS {bd:Int}:∀ {l:List InstL} {n k:Nat},(∀ i ∈ l,za7 bd i = 0) → n + (l.map fun i=>zbY (zaW i.op) i.args).sum ≤ 1048576 → zcl bd n k l = (0,0)
  | [],_,_,_,_=>rfl
  | i :: l, n, k, hf, h => by
    simp only [List.map_cons,List.sum_cons] at h
    rw [zcl,if_neg (fun e=>e (hf i (.head _))),if_neg (by omega)]
    exact zmS (fun x hx=>hf x (.tail _ hx)) O
theorem zle {b:List UInt8} (h:(za2 b).2.1 ≠ 0):(za2 b).1 = (0,0,[]):=by
  unfold za2 at h ⊢
  split
  · rfl
  · rename_i h1
    rw [if_neg h1] at h
    unfold zvi at h ⊢
    split
    · rfl
    · rename_i h2
      rw [if_neg h2] at h
      split
      · rfl
      · rename_i h3
        rw [if_neg h3] at h
        exact absurd rfl h
theorem znB (rs:List zqT):(rs.flatMap zxg).length = (rs.map fun r=>r.2.length + 1).sum:=by
  induction rs with
  | nil=>rfl
  | cons r rs ih=>simp only [List.flatMap_cons,List.length_append,List.map_cons,List.sum_cons,zp7,ih]
theorem zfk {b:List UInt8} (h:(za2 b).2.1 = 0):zed (za2 b).1.1 (za2 b).1.2.1 (za2 b).1.2.2 = (b,(0,0)) ∧ zbl (za2 b).1.2.1 (za2 b).1.2.2 = (0,0) ∧ (za2 b).2 = (0,0) ∧ ((za2 b).1.2.1 ≠ 0 ∧ ¬ (za2 b).1.2.1 > 65536) ∧ (∀ i ∈ (za2 b).1.2.2,za7 (za2 b).1.2.1 i = 0 ∧ 0 ≤ i.op ∧ i.op < 65536) ∧ (za2 b).1.2.2.length ≤ 1048576:=by
  have hs:zcG b = 0:=Nn fun e=>by rw [zfl e] at h; exact e h
  have hlen:b.length % 4 = 0:=by
    unfold zcG at hs
    split at hs
    · cases hs
    · split at hs
      · cases hs
      · rename_i h2; exact Nn h2
  rw [zdk hs,zjm hs] at h ⊢
  have hw:=zjl b
  have hjb:=znm hlen
  generalize zbV b = W at *
  by_cases h1:(zcL W).2.2.1 ≠ 0
  · rw [zjX h1] at h; exact absurd h h1
  have h1:=Nn h1
  obtain ⟨hR,hW,hH,hE⟩:=zh2 h1
  by_cases h2:(znT (W.getD 3 0) (zcf W 5).1).2.1 ≠ 0
  · unfold zvi at h
    rw [hR] at h
    simp only at h
    rw [if_neg (fun e=>e rfl),if_pos h2] at h
    exact absurd h h2
  have h2:=Nn h2
  have hin:=zmk h2
  have hG:=zmj (Y:=W.getD 3 0) (ps:=(zcf W 5).1) (fun j hj=>hin _ (zbJ hj))
  have hl5:=zfS hH
  have hsub:=zl2 hw W.length 5
  have hend:=zic hw W.length 5 hl5.1
  have hwords:=znq hw W.length 5
  rw [zpg hR rfl hG]
  simp only
  generalize hits:(zcf W 5).1 = its at *
  have hE2:¬ (zev W W.length 5).2 < W.length:=hE
  rw [List.drop_of_length_le (i:=(zev W W.length 5).2) (by omega),List.append_nil] at hwords
  have hg3:W.getD 3 0 ≠ 0 ∧ ¬ W.getD 3 0 > 65536:=by
    have:=hl5.2 3 O
    unfold hd1 zc9 at this
    rw [if_pos (by omega),if_neg (by decide),if_neg (by decide),if_pos rfl] at this
    split at this
    · cases this
    · rename_i hx; exact ⟨fun e=>hx (.inl e),fun e=>hx (.inr e)⟩
  have hW5:W = [119734787,65536,W.getD 2 0,W.getD 3 0,0] ++ W.drop 5:=by
    have q0:=hl5.2 0 O
    have q1:=hl5.2 1 O
    have q4:=hl5.2 4 O
    unfold hd1 zc9 at q0 q1 q4
    rw [if_pos (by omega)] at q0 q1 q4
    match W,hl5.1 with
    | x0 :: x1 :: x2 :: x3 :: x4 :: r, _ =>
      simp at q0 q1 q4
      simp [q0,q1,q4]
      by_cases e:x0 = 50471687
      · rw [if_pos e] at q0; cases q0
      · rw [if_neg e] at q0
        split at q0
        · assumption
        · cases q0
  generalize hbd:W.getD 3 0 = bd at *
  have hb:∀ p ∈ its,(zb2 bd p.2.1 p.2.2).1.op = p.2.1 ∧ za7 bd (zb2 bd p.2.1 p.2.2).1 = 0 ∧ zfy (zaW p.2.1) (zb2 bd p.2.1 p.2.2).1 = p.2.2:=fun p hp =>
    ztT (hsub p hp).1 (by
      have:=hin p hp
      exact Prod.ext rfl this)
  have hraw:zd6 bd (its.map fun p=>(zb2 bd p.2.1 p.2.2).1) = its.map (·.2):=by
    unfold zd6
    rw [List.map_map]
    refine List.map_congr_left fun p hp=>?_
    obtain ⟨b1,b2,b3⟩:=hb p hp
    simp only [Function.comp]
    rw [zjs b2]
    simp only
    rw [b1,b3]
  have hwr:zcd (W.getD 2 0) bd (its.map (·.2)) = W:=by
    unfold zcd; rw [← hwords]; exact hW5.symm
  have hfault:∀ i ∈ its.map (fun p=>(zb2 bd p.2.1 p.2.2).1),za7 bd i = 0 ∧ 0 ≤ i.op ∧ i.op < 65536:=fun i hi=>by
    obtain ⟨p,hp,rfl⟩:=List.mem_map.1 hi
    obtain ⟨b1,b2,b3⟩:=hb p hp
    exact ⟨b2,by rw [b1]; exact (hsub p hp).2.1,by rw [b1]; exact (hsub p hp).2.2.1⟩
  have hrooms:((its.map fun p=>(zb2 bd p.2.1 p.2.2).1).map fun i=>zbY (zaW i.op) i.args) = (its.map (·.2)).map fun r=>r.2.length + 1:=by
    rw [List.map_map,List.map_map]
    refine List.map_congr_left fun p hp=>?_
    obtain ⟨b1,b2,b3⟩:=hb p hp
    have:=(zeO b2).1
    rw [b1] at this
    simp only [Function.comp]
    rw [b1,← this,b3]
  have hshape:zbl bd (its.map fun p=>(zb2 bd p.2.1 p.2.2).1) = (0,0):=by
    rw [zd5 hg3.1 hg3.2]
    refine zmS (fun i hi=>(hfault i hi).1) ?_
    rw [hrooms,← znB,← hwords,List.length_drop]
    omega
  refine ⟨?_,hshape,trivial,hg3,hfault,by rw [List.length_map]; omega⟩
  rw [(zgY (gn:=W.getD 2 0) (by rw [hshape])).1,hraw,hwr,hjb]
theorem znR {b:List UInt8} {dm:List InstP} (h:dm.map InstP.L = (za2 b).1.2.2):Small dm:=by
  by_cases he:(za2 b).2.1 ≠ 0
  · rw [zle he] at h
    have:dm = []:=by simpa using h
    subst this
    exact ⟨by decide,by decide,by decide,by decide,by decide⟩
  · obtain ⟨_, _, _, _, hf, hl⟩ := zfk (Nn he)
    rw [← h] at hf hl
    rw [List.length_map] at hl
    have key:∀ i ∈ dm,za7 (za2 b).1.2.1 i.L = 0 ∧ 0 ≤ i.op ∧ i.op < 65536:=fun i hi=>hf i.L (List.mem_map_of_mem hi)
    have hroom:∀ i ∈ dm,(i.args.map zaT).sum ≤ 65535:=fun i hi=>by
      have:=(zgW (key i hi).1).2.2.2.2.2
      unfold zbY at this
      have e:i.L.args = i.args:=rfl
      rw [e] at this
      omega
    refine ⟨by omega,fun i hi=>(key i hi).2.1,fun i hi=>(key i hi).2.2,fun i hi=>Nat.le_trans (hroom i hi) De,fun i hi a ha=>?_⟩
    have h1:=zj2 ha
    have h2:=hroom i hi
    obtain ⟨c,hc⟩:=zhW _ _ (zgW (key i hi).1).2.2.2.1 a ha
    by_cases k3:a.kind = 3
    · rw [(zee k3).2] at h1; omega
    · rw [(zcw hc).2.2.2.1 k3]; exact Nat.zero_le _
open Go.RowKit Go.ChangeShapes Go.WideShapes Go.ChangeAt
section
variable {H:Type} {enc:TypeId × Value → H} {P:Program} {w:World} {base:Nat} {spare:Nat → Bool} {held:Bool} {M I A:TypeId}
theorem open_by {e:TypeId} (he:P.underlying e = some (.int .u8)):∀ fuel cs (y:DataW H × List MemPlace),DataW.trod enc P w base spare held fuel e cs = some y → ∃ a:UInt8,cs = byC a ∧ True ∧ True:=fun fuel cs y h=>by
  obtain ⟨n,rfl,_,hw⟩:=DataW.trod_int he h
  have:=wf_u8 hw
  refine ⟨UInt8.ofNat n.toNat,?_,trivial,trivial⟩
  rw [byC,UInt8.toNat_ofNat',show ((n.toNat % 2 ^ 8:Nat):Int) = n by omega]
end
end Go.SK
namespace Go.SK
theorem zo1 {P:Nat → Prop} {i:Nat} (h:∀ j,j < i → P j) (hi:P i):∀ j,j < i + 1 → P j:=fun j hj=>by
  rcases Nat.lt_or_ge j i with h1 | h1
  · exact h j h1
  · obtain rfl : j = i := by omega
    exact hi
theorem tok_wr {s t:Tx} {kd at_:Int} {m:Nat} (h0:0 < s.length) (h:zfF s = .ok (kd,t,m)):∃ x,wrT ⟨kd,t,at_⟩ = some x:=by
  have hs:s.drop 0 = s:=rfl
  have h1:s.drop (0 + 1) = s.drop 1:=rfl
  by_cases hl:zgI (s.getD 0 0) = true
  · have e := ziG (a := 0) hl
    rw [hs,h] at e; cases e
    have V:=zlK (s:=s) (i:=0) h0 (run_l hl)
    rw [hs] at V
    have hg:(zcj s).getD 0 0 = s.getD 0 0:=by
      rw [← zjq s rfl]
      cases s with
      | nil=>simp at h0
      | cons c r=>rw [show (zcj (c :: r)).length = ((zcj (c :: r)).length - 1) + 1 by omega,List.take_succ_cons]; rfl
    exact ⟨_,zsT rfl (List.length_pos_iff.1 (by show 0 < (zcj s).length; omega)) (by rw [hg]; exact hl) (zhi (zvQ s))⟩
  by_cases h37:(s.getD 0 0).toNat = 37
  · have e := zpW (a := 0) h37
    rw [hs,h,h1] at e; split at e
    · rename_i hp; cases e; exact ⟨_,zsS rfl hp⟩
    · cases e
  by_cases hd:zej (s.getD 0 0) = true ∨ (s.getD 0 0).toNat = 45
  · have e := zlI (a := 0) hd
    rw [hs,h,h1] at e; split at e
    · rename_i hp; cases e; exact ⟨_,zsR rfl hp⟩
    · cases e
  by_cases h34:(s.getD 0 0).toNat = 34
  · have e := zlH (a := 0) h34
    rw [hs,h] at e
    cases hq:zgF s (0 + 1) with
    | none=>rw [hq] at e; cases e
    | some q=>rw [hq] at e; cases e; exact ⟨_,zpT rfl⟩
  by_cases h61:(s.getD 0 0).toNat = 61
  · have e := zpX (a := 0) h61
    rw [hs,h] at e; cases e; exact ⟨_,zkK rfl rfl⟩
  · have e := zoG (a := 0) hl h37 (fun q => hd (.inl q)) (fun q => hd (.inr q)) h34 h61
    rw [hs,h] at e; cases e
theorem zoC:∀ (n:Nat) (s:Tx) (k:Nat),∃ o,wrL (zcU n s k).1 = some o
  | 0,s,k=>⟨[],rfl⟩
  | n + 1, s, k => by
    rw [zcU]
    split
    · exact ⟨[],rfl⟩
    · rename_i h0
      have h0':0 < s.length:=by rcases Nat.eq_zero_or_pos s.length with h | h; exact absurd (.inl h) h0; exact h
      split
      · exact zoC n _ _
      · cases hp : zfF s with
        | error e=>exact ⟨[],rfl⟩
        | ok q =>
          dsimp only
          split
          · obtain ⟨x, hx⟩ := tok_wr (at_ := (k : Int)) (kd := q.1) (t := q.2.1) (m := q.2.2) h0' hp
            obtain ⟨o,ho⟩:=zoC n (s.drop q.2.2) (k + q.2.2)
            exact ⟨x :: o,by rw [wrL,hx,Option.bind_some,ho]; rfl⟩
          · exact ⟨[],rfl⟩
theorem zmG (s:Tx):(zbn s).1.length ≤ s.length:=(zlF _ s 0 (Nat.le_refl _)).2
theorem zrb {s:Tx} (h:(zbn s).2.1 = 0):zbn s = ((zbn s).1,(0,0)):=Prod.ext rfl (zhZ _ _ _ h)
section
variable {n:Int} {l:List TokL}
theorem head0 (h:l.length = 0):zeY n l = ((0,0),(72,n)):=by unfold zeY; rw [if_pos h]
theorem head1 (h0:¬ l.length = 0) (h:(l.getD 0 zaM).kind ≠ 1 ∨ (l.getD 0 zaM).text ≠ modW):zeY n l = ((0,0),(70,(l.getD 0 zaM).at_)):=by unfold zeY; rw [if_neg h0,if_pos h]
theorem head2 (hk:(l.getD 0 zaM).kind = 1) (ht:(l.getD 0 zaM).text = modW) (h:l.length = 1):zeY n l = ((0,0),(72,n)):=by unfold zeY; rw [if_neg (by omega),if_neg (by rintro (q | q) <;> contradiction),if_pos h]
end
theorem zhU:zbr ([]:Tx) = 0:=rfl
theorem zpj {c:Int} {t:TokL} {Y:Int} (hc:0 ≤ c ∧ c ≤ 255) (h:(zb4 c t Y).2 = 0):c ≠ 0 ∧ (zb4 c t Y).1.kind = zbR c ∧ zbv c (zb4 c t Y).1 Y = 0 ∧ (zb4 c t Y).1.s.length ≤ t.text.length:=by
  unfold zb4 at h ⊢
  by_cases h1:c = 0 ∨ t.kind ≠ zfC c
  · rw [if_pos h1] at h; cases h
  rw [if_neg h1] at h ⊢
  have hc0:c ≠ 0:=fun e=>h1 (.inl e)
  by_cases h2:c = 105
  · rw [if_pos h2] at h ⊢
    subst h2
    by_cases hi:idL t.text Y = 0
    · rw [if_pos hi] at h; cases h
    · rw [if_neg hi]
      have hb:1 ≤ idL t.text Y ∧ idL t.text Y < Y:=by
        unfold idL at hi ⊢
        split
        · assumption
        · rename_i q; rw [if_neg q] at hi; exact absurd rfl hi
      refine ⟨by decide,rfl,?_,Nat.zero_le _⟩
      unfold zbv
      rw [if_neg (by simp [zbR]),if_neg (by simp),if_neg (by simp [idE]; omega),if_neg (by simp),if_neg (by simp [zhU])]
  rw [if_neg h2] at h ⊢
  by_cases h3:c = 110
  · rw [if_pos h3] at h ⊢
    subst h3
    by_cases hi:(za3 t.text).2 ≠ 0
    · rw [if_pos hi] at h; exact absurd h hi
    · rw [if_neg hi]
      refine ⟨by decide,rfl,?_,Nat.zero_le _⟩
      unfold zbv
      rw [if_neg (by simp [zbR]),if_neg (by simp),if_neg (by simp),if_neg (by simp),if_neg (by simp [zhU])]
  rw [if_neg h3] at h ⊢
  by_cases h4:c = 115
  · rw [if_pos h4] at h ⊢
    subst h4
    by_cases hi:zbr t.text ≠ t.text.length
    · rw [if_pos hi] at h; cases h
    · rw [if_neg hi]
      refine ⟨by decide,rfl,?_,Nat.le_refl _⟩
      unfold zbv
      rw [if_neg (by simp [zbR]),if_neg (by simp),if_neg (by simp),if_neg (by simp),if_neg hi]
  rw [if_neg h4] at h ⊢
  cases hf:namesL.find? (enS c t.text) with
  | none=>rw [hf,if_pos (show (none:Option NameL).isSome = false from rfl)] at h; exact absurd h (by decide)
  | some x =>
    rw [if_neg (by simp)]
    have hx:x.letter = c ∧ x.name = t.text:=by simpa using List.find?_some hf
    have hm:=List.mem_of_find?_eq_some hf
    have hany:(namesL.find? (fun y=>decide (y.letter = c))).isSome = true:=by
      rw [List.find?_isSome]; exact ⟨x,hm,by simp [hx.1]⟩
    have hk:zbR c = 4:=by
      unfold zbR; rw [if_neg h2,if_neg h3,if_neg h4,if_pos ((ztF hc.1 hc.2).2 hany)]
    have hen:zgX c x.n = 0:=by
      unfold zgX; rw [if_pos]
      rw [List.find?_isSome]; exact ⟨x,hm,by simp [hx.1]⟩
    refine ⟨hc0,hk.symm,?_,Nat.zero_le _⟩
    unfold zbv
    rw [if_neg (by simp [hk,hc0]),if_neg (by simp),if_neg (by simp),if_neg (by simp [hen]),if_neg (by simp [zhU])]
theorem zqR {fm:FormL} {Y:Int}:∀ {l:List TokL} {k:Nat},(zcq fm Y k l).2.1 = 0 → zby fm Y k (zcq fm Y k l).1 = 0 ∧ (zcq fm Y k l).1.length = l.length ∧ (zcq fm Y k l).2 = (0,0)
  | [],k,_=>⟨rfl,rfl,rfl⟩
  | t :: r, k, h => by
    unfold zcq at h ⊢
    by_cases h1:(zb4 (zaJ fm k) t Y).2 ≠ 0
    · rw [if_pos h1] at h; exact absurd h h1
    · rw [if_neg h1] at h ⊢
      have h2:=zpj (zc1 fm k) (Nn h1)
      have ih:=zqR (l:=r) (k:=k + 1) h
      refine ⟨?_,by rw [List.length_cons,List.length_cons,ih.2.1],ih.2.2⟩
      unfold zby
      rw [if_neg (by rw [h2.2.2.1]; simp)]; exact ih.1
theorem zwm {op:Int} {ks:List Int} (h:(ze0 op ks).2 = true):(zc6 op).isSome = true ∧ ¬ znb (zaW op) ks.length:=by
  unfold ze0 at h
  by_cases h1:(zc6 op).isSome = true
  · rw [if_pos h1] at h
    refine ⟨h1,fun ho=>?_⟩
    unfold zl9 at h
    cases hb:zkz (zaW op) 0 ks with
    | some i=>rw [hb] at h; cases h
    | none=>rw [hb] at h; dsimp only at h; rw [if_pos ho] at h; cases h
  · rw [if_neg h1] at h; cases h
theorem znt {t:Tx} {Y:Int} (h:idL t Y ≠ 0):1 ≤ idL t Y ∧ idL t Y < Y:=by
  unfold idL at h ⊢
  split
  · assumption
  · rename_i q; rw [if_neg q] at h; exact absurd rfl h
theorem zk2 {fm:FormL} {Y:Int} {said:Bool} {ty res:Int} {l:List TokL} (hfm:zaW fm.op = fm) (hr:fm.res = said) (hres:said = true → 1 ≤ res ∧ res < Y) (hres0:said = false → res = 0) (hty:fm.ty = true → 1 ≤ ty ∧ ty < Y) (hty0:fm.ty = false → ty = 0)
    (ha:(zcq fm Y 0 l).2.1 = 0) (hf:(ze0 fm.op ((zcq fm Y 0 l).1.map ArgP.kind)).2 = true) :
    za7 Y ⟨fm.op,ty,res,(zcq fm Y 0 l).1⟩ = if zbY fm (zcq fm Y 0 l).1 > 65535 then 25 else 0:=by
  have h1:=zwm hf
  have h2:=zqR ha
  unfold za7
  dsimp only
  rw [hfm] at h1 ⊢
  have ht:idH fm.ty ty Y 40 = 0:=by
    unfold idH
    cases hb:fm.ty with
    | false=>rw [hty0 hb]; simp
    | true=>have:=hty hb; rw [if_neg (by simp; omega),if_neg (by simp; omega)]
  have hs:idH fm.res res Y 41 = 0:=by
    unfold idH
    rw [hr]
    cases hb:said with
    | false=>rw [hres0 hb]; simp
    | true=>have:=hres hb; rw [if_neg (by simp; omega),if_neg (by simp; omega)]
  rw [if_neg (by rw [h1.1]; simp),if_neg (by rw [ht]; simp),if_neg (by rw [hs]; simp),if_neg (by rw [h2.1]; simp),if_neg (by have:=h1.2; rwa [List.length_map] at this)]
theorem zjL:refT.all (fun f=>decide (zc6 f.op = some f)) = true:=by decide +kernel
theorem znF {q:Tx} {fm:FormL} (h:refT.find? (nmF q) = some fm):zc6 fm.op = some fm ∧ zaW fm.op = fm ∧ fm.name = q:=by
  have h1:zc6 fm.op = some fm:=by simpa only [decide_eq_true_eq] using List.all_eq_true.1 zjL fm (List.mem_of_find?_eq_some h)
  refine ⟨h1,by rw [zaW,h1]; rfl,by simpa using List.find?_some h⟩
structure ArI (fm:FormL) (Y:Int) (l:List TokL) (q j:Nat) (ags:List ArgP):Prop where
  le:q + j ≤ l.length
  len:ags.length = j
  eq:zcq fm Y 0 (l.drop q) = (ags ++ (zcq fm Y j (l.drop (q + j))).1,(zcq fm Y j (l.drop (q + j))).2)
  tx:∀ a ∈ ags,4 * a.s.length ≤ wsz l
  sum:4 * (ags.map zaT).sum + wsz (l.drop (q + j)) ≤ wsz (l.drop q) + 4 * j
section
variable {fm:FormL} {Y:Int} {l:List TokL} {q j:Nat} {ags:List ArgP}
theorem ArI.start (h:q ≤ l.length):ArI fm Y l q 0 []:=⟨h,rfl,rfl,fun a h=>absurd h List.not_mem_nil,by simp⟩
theorem zuw {c:Int} {t:TokL} {Y:Int} (hc:0 ≤ c ∧ c ≤ 255) (h:(zb4 c t Y).2 = 0):zaT (zb4 c t Y).1 ≤ t.text.length / 4 + 1:=by
  have h1:=(zpj hc h).2.2.2
  unfold zaT
  split
  · have:=Nat.div_le_div_right (c:=4) h1; omega
  · omega
theorem ArI.step (h:ArI fm Y l q j ags) (hj:q + j < l.length) (he:(zb4 (zaJ fm j) (l.getD (q + j) zaM) Y).2 = 0):ArI fm Y l q (j + 1) (ags ++ [(zb4 (zaJ fm j) (l.getD (q + j) zaM) Y).1]):=by
  have hd:=zhE hj
  have hr:=zuw (zc1 fm j) he
  have ht:=(zpj (zc1 fm j) he).2.2.2
  have hw:=zlz (l:=l) (i:=q + j) hj
  have hm:=zja hj
  refine ⟨by omega,by rw [List.length_append,h.len]; rfl,?_,fun a ha=>?_,?_⟩
  · rw [h.eq,hd,zcq,if_neg (by rw [he]; simp),List.append_assoc,← Nat.add_assoc]; rfl
  · rcases List.mem_append.1 ha with ha | ha
    · exact h.tx a ha
    · obtain rfl:=List.mem_singleton.1 ha; omega
  · have hs := h.sum
    rw [List.map_append,List.sum_append,List.map_singleton,List.sum_singleton,← Nat.add_assoc]
    omega
theorem ArI.bad (h:ArI fm Y l q j ags) (hj:q + j < l.length) (he:(zb4 (zaJ fm j) (l.getD (q + j) zaM) Y).2 ≠ 0):(zcq fm Y 0 (l.drop q)).2 = ((zb4 (zaJ fm j) (l.getD (q + j) zaM) Y).2,(l.getD (q + j) zaM).at_):=by
  rw [h.eq,zhE hj,zcq,if_pos he]
theorem ArI.fin (h:ArI fm Y l q j ags) (hj:l.length ≤ q + j):zcq fm Y 0 (l.drop q) = (ags,(0,0)):=by
  rw [h.eq,List.drop_eq_nil_of_le hj,zcq,List.append_nil]
end
structure PaI (t:Tx) (i:Nat) (s:PaL):Prop where
  le:i ≤ (lnF t).length
  eq:zkY 0 (lnF t) ⟨0,0,0,[]⟩ = zkY i ((lnF t).drop i) s
  words:s.words ≤ 1048576
  small:s.insts.length ≤ s.words
theorem znO {l:List Tx} {i:Nat} (h:i < l.length):l.drop i = l.getD i [] :: l.drop (i + 1):=by
  rw [List.drop_eq_getElem_cons h]; simp [List.getD,h]
section
variable {t:Tx} {i:Nat} {s s':PaL}
theorem PaI.start:PaI t 0 ⟨0,0,0,[]⟩:=⟨Nat.zero_le _,rfl,Nat.zero_le _,Nat.le_refl _⟩
theorem PaI.bad (h:PaI t i s) (hi:i < (lnF t).length) {e:Int} (he:zlT ((lnF t).getD i []) s = .error e):zkY 0 (lnF t) ⟨0,0,0,[]⟩ = zi9 e ((i:Int) + 1):=by
  rw [h.eq,znO hi,zkY,he]
theorem PaI.step (h:PaI t i s) (hi:i < (lnF t).length) (he:zlT ((lnF t).getD i []) s = .ok s'):PaI t (i + 1) s':=by
  refine ⟨hi,by rw [h.eq,znO hi,zkY,he],?_,?_⟩
  · have h1 := h.words
    unfold zlT at he
    split at he
    · split at he
      · cases he; omega
      · split at he
        · cases he
        · cases he; dsimp only; omega
    · split at he
      · cases he
      · split at he
        · cases he; omega
        · split at he
          · cases he
          · cases he; dsimp only; omega
  · have h1 := h.small
    unfold zlT at he
    split at he
    · split at he
      · cases he; omega
      · split at he
        · cases he
        · cases he; exact Nat.zero_le _
    · split at he
      · cases he
      · split at he
        · cases he; omega
        · split at he
          · cases he
          · cases he; dsimp only; rw [List.length_append,List.length_singleton]; unfold zbY; omega
theorem PaI.fin (h:PaI t (lnF t).length s):zkY 0 (lnF t) ⟨0,0,0,[]⟩ = if s.words = 0 then zi9 72 (lnF t).length else ((s.gn,s.bd,s.insts),(0,0)):=by
  rw [h.eq,List.drop_eq_nil_of_le (Nat.le_refl _),zkY]
end
theorem zt7:namesL.all (fun x=>decide (0 ≤ x.n ∧ x.n < 4294967296)) = true:=by decide +kernel
theorem zjv (s:Tx):0 ≤ (za3 s).1 ∧ (za3 s).1 < 4294967296:=by
  unfold za3
  cases h:zba s with
  | some n=>have:=(zqc h).2; dsimp only; omega
  | none =>
    dsimp only
    split
    · cases h2 : zba (s.drop 1) with
      | none=>exact ⟨by decide,by decide⟩
      | some n =>
        dsimp only
        split
        · dsimp only; omega
        · exact ⟨by decide,by decide⟩
    · split
      · exact ⟨by decide,by decide⟩
      · rename_i h3
        cases h2:zcX (s.drop 2) 0 with
        | none=>exact ⟨by decide,by decide⟩
        | some n=>have:=ztY h2 (by rw [List.length_drop]; omega); dsimp only; omega
theorem zwQ {c Y:Int} {t:TokL} (hb:Y ≤ 65536):0 ≤ (zb4 c t Y).1.n ∧ (zb4 c t Y).1.n < 4294967296:=by
  unfold zb4
  split
  · exact ⟨by decide,by decide⟩
  split
  · split
    · exact ⟨by decide,by decide⟩
    · rename_i h
      have:=znt h
      dsimp only; omega
  split
  · split
    · exact ⟨show (0:Int) ≤ 0 by decide,show (0:Int) < 4294967296 by decide⟩
    · exact zjv _
  split
  · split
    · exact ⟨show (0:Int) ≤ 0 by decide,show (0:Int) < 4294967296 by decide⟩
    · exact ⟨show (0:Int) ≤ 0 by decide,show (0:Int) < 4294967296 by decide⟩
  split
  · exact ⟨by decide,by decide⟩
  · rename_i h
    cases hf:namesL.find? (enS c t.text) with
    | none=>rw [hf] at h; exact absurd rfl h
    | some x=>exact of_decide_eq_true (List.all_eq_true.1 zt7 x (List.mem_of_find?_eq_some hf))
theorem znZ {fm:FormL} {Y:Int} (hb:Y ≤ 65536):∀ (l:List TokL) (k:Nat),∀ a ∈ (zcq fm Y k l).1,0 ≤ a.n ∧ a.n < 4294967296
  | [],k,a,h=>by cases h
  | t :: r, k, a, h => by
    unfold zcq at h
    split at h
    · cases h
    · rcases List.mem_cons.1 h with rfl | h
      · exact zwQ hb
      · exact znZ hb r (k + 1) a h
theorem zrO {n Y:Int} {l:List TokL} {fm:FormL} (hfm:zaW fm.op = fm) (hb:Y ≤ 65536) (h:(zfQ n l Y fm).2.2.1 = 0):(zfQ n l Y fm).2.1 = true ∧ za7 Y (zfQ n l Y fm).1 = 0 ∧ (zfQ n l Y fm).1.U32 ∧ (zfQ n l Y fm).2.2 = (0,0):=by
  unfold zfQ at h ⊢
  split at h
  · cases h
  rename_i h1
  rw [if_neg h1]
  split at h
  · cases h
  rename_i h2
  rw [if_neg h2]
  split at h
  · cases h
  rename_i h3
  rw [if_neg h3]
  split at h
  · cases h
  rename_i h4
  rw [if_neg h4]
  split at h
  · cases h
  rename_i h5
  rw [if_neg h5]
  split at h
  · rename_i h6; exact absurd h h6
  rename_i h6
  rw [if_neg h6]
  split at h
  · cases h
  rename_i h7
  rw [if_neg h7]
  split at h
  · cases h
  rename_i h8
  rw [if_neg h8]
  have e1:=Nn h1
  have hres:decide ((l.getD 0 zaM).kind = 2) = true → 1 ≤ (if (l.getD 0 zaM).kind = 2 then idL (l.getD 0 zaM).text Y else 0) ∧ (if (l.getD 0 zaM).kind = 2 then idL (l.getD 0 zaM).text Y else 0) < Y:=fun hk=>by
    have hk:=of_decide_eq_true hk
    rw [if_pos hk]; exact znt fun e=>h2 ⟨hk,e⟩
  have hres0:decide ((l.getD 0 zaM).kind = 2) = false → (if (l.getD 0 zaM).kind = 2 then idL (l.getD 0 zaM).text Y else 0) = 0:=fun hk=>if_neg (of_decide_eq_false hk)
  have hty:fm.ty = true → 1 ≤ (if fm.ty = true then idL (l.getD (ziz l + 1) zaM).text Y else 0) ∧ (if fm.ty = true then idL (l.getD (ziz l + 1) zaM).text Y else 0) < Y:=fun hk=>by
    rw [if_pos hk]; exact znt fun e=>h5 ⟨hk,e⟩
  have hty0:fm.ty = false → (if fm.ty = true then idL (l.getD (ziz l + 1) zaM).text Y else 0) = 0:=fun hk=>if_neg (by rw [hk]; simp)
  have hf:=zk2 (ty:=if fm.ty = true then idL (l.getD (ziz l + 1) zaM).text Y else 0) (res:=if (l.getD 0 zaM).kind = 2 then idL (l.getD 0 zaM).text Y else 0) hfm e1 hres hres0 hty hty0 (Nn h6) (by simpa using h7)
  refine ⟨rfl,by rw [hf,if_neg h8],⟨?_,?_,znZ hb _ _⟩,rfl⟩
  · dsimp only
    cases ht:fm.ty with
    | false=>rw [if_neg (by simp)]; exact ⟨by decide,by decide⟩
    | true=>have:=hty ht; rw [ht] at this; rw [if_pos rfl] at this ⊢; omega
  · dsimp only
    by_cases hk:(l.getD 0 zaM).kind = 2
    · have:=hres (Dt hk); omega
    · rw [if_neg hk]; exact ⟨by decide,by decide⟩
theorem zk3 {x:Tx} {Y:Int} (hb:Y ≤ 65536) (h:(za4 x Y).2.2.1 = 0):(za4 x Y).2.2 = (0,0) ∧ ((za4 x Y).2.1 = true → za7 Y (za4 x Y).1 = 0 ∧ (za4 x Y).1.U32):=by
  unfold za4 at h ⊢
  split at h
  · rename_i h1; exact absurd h h1
  rename_i h1
  rw [if_neg h1]
  unfold zcJ at h ⊢
  split at h
  · rename_i h2
    rw [if_pos h2]; exact ⟨rfl,fun q=>by cases q⟩
  rename_i h2
  rw [if_neg h2]
  split at h
  · cases h
  rename_i h3
  rw [if_neg h3]
  split at h
  · cases h
  rename_i h4
  rw [if_neg h4]
  split at h
  · cases h
  rename_i h5
  rw [if_neg h5]
  split at h
  · cases h
  rename_i h6
  rw [if_neg h6]
  split at h
  · cases h
  rename_i h7
  rw [if_neg h7]
  cases hf:refT.find? (nmF ((zbn x).1.getD (ziz (zbn x).1) zaM).text) with
  | none=>rw [hf] at h7; exact absurd rfl h7
  | some fm =>
    rw [hf,Option.getD_some] at h
    rw [Option.getD_some]
    have hg:=zrO (znF hf).2.1 hb h
    exact ⟨hg.2.2.2,fun _=>⟨hg.2.1,hg.2.2.1⟩⟩
structure PaG (s:PaL):Prop where
  none:s.words = 0 → s.insts = []
  gn:0 ≤ s.gn ∧ s.gn < 4294967296
  bd:s.words ≠ 0 → 1 ≤ s.bd ∧ s.bd ≤ 65536
  words:s.words ≠ 0 → s.words = 5 + (s.insts.map fun i=>zbY (zaW i.op) i.args).sum
  le:s.words ≤ 1048576
  ok:∀ i ∈ s.insts,za7 s.bd i = 0 ∧ i.U32
theorem zrT {n:Int} {l:List TokL} (h:(zeY n l).2.1 = 0):(0 ≤ (zeY n l).1.1 ∧ (zeY n l).1.1 < 4294967296) ∧ (1 ≤ (zeY n l).1.2 ∧ (zeY n l).1.2 ≤ 65536) ∧ (zeY n l).2 = (0,0):=by
  unfold zeY at h ⊢
  split at h
  · cases h
  rename_i h1
  rw [if_neg h1]
  split at h
  · cases h
  rename_i h2
  rw [if_neg h2]
  split at h
  · cases h
  rename_i h3
  rw [if_neg h3]
  split at h
  · cases h
  rename_i h4
  rw [if_neg h4]
  split at h
  · rename_i q; exact absurd h q
  rename_i h5
  rw [if_neg h5]
  split at h
  · cases h
  rename_i h6
  rw [if_neg h6]
  split at h
  · cases h
  rename_i h7
  rw [if_neg h7]
  split at h
  · rename_i q; exact absurd h q
  rename_i h8
  rw [if_neg h8]
  split at h
  · cases h
  rename_i h9
  rw [if_neg h9]
  split at h
  · cases h
  rename_i h10
  rw [if_neg h10]
  exact ⟨zjv _,by dsimp only; omega,rfl⟩
theorem zrU {x:Tx} (h:(zcY x).2.1 = 0):(0 ≤ (zcY x).1.1 ∧ (zcY x).1.1 < 4294967296) ∧ (1 ≤ (zcY x).1.2 ∧ (zcY x).1.2 ≤ 65536) ∧ (zcY x).2 = (0,0):=by
  unfold zcY at h ⊢
  split at h
  · rename_i q; exact absurd h q
  rename_i h1
  rw [if_neg h1]
  exact zrT h
theorem PaG.start:PaG ⟨0,0,0,[]⟩:=⟨fun _=>rfl,⟨by decide,by decide⟩,fun h=>absurd rfl h,fun h=>absurd rfl h,by decide,fun i h=>by cases h⟩
theorem PaG.step {s s':PaL} {x:Tx} (g:PaG s) (h:zlT x s = .ok s'):PaG s':=by
  unfold zlT at h
  split at h
  · rename_i h0
    split at h
    · cases h; exact g
    · split at h
      · cases h
      · rename_i h2
        cases h
        have hg:=zrU (Nn h2)
        exact ⟨fun q=>(by cases q),hg.1,fun _=>hg.2.1,fun _=>rfl,show (5:Nat) ≤ 1048576 by decide,fun i hi=>(by cases hi)⟩
  · rename_i h0
    split at h
    · cases h
    · rename_i h1
      have hg:=zk3 (g.bd h0).2 (Nn h1)
      split at h
      · cases h; exact g
      · rename_i h2
        split at h
        · cases h
        · rename_i h3
          cases h
          have hi:=hg.2 (by simpa using h2)
          refine ⟨fun q=>absurd q (by dsimp only; omega),g.gn,fun _=>g.bd h0,fun _=>?_,by dsimp only; omega,fun i hi2=>?_⟩
          · have := g.words h0
            dsimp only
            rw [List.map_append,List.sum_append,List.map_singleton,List.sum_singleton]; omega
          · rcases List.mem_append.1 hi2 with hi2 | hi2
            · exact g.ok i hi2
            · obtain rfl:=List.mem_singleton.1 hi2; exact hi
structure dgI (t:Tx) (m i n:Nat):Prop where
  le:i ≤ t.length
  eq:zcD (t.drop i) n = some m
  lt:n ≤ m
  small:m < 4294967296
  pl:plR t = m
  len:t.length ≤ 10
section
variable {t:Tx} {m i n:Nat}
theorem zuk (h:zba t = some m):dgI t m 0 0:=by
  have h1:=zqc h
  have hl:t.length ≤ 10:=by
    unfold zba at h
    split at h
    · cases h
    · omega
  refine ⟨Nat.zero_le _,?_,Nat.zero_le _,h1.2,h1.1,hl⟩
  unfold zba at h
  split at h
  · cases h
  · cases hd : zcD t 0 with
    | none=>rw [hd] at h; cases h
    | some k =>
      rw [hd] at h
      simp only [Option.bind_some] at h
      split at h
      · exact hd.trans h
      · cases h
theorem zul (h:dgI t m i n) (hi:i < t.length):zej (t.getD i 0) = true:=by
  cases hd:zej (t.getD i 0) with
  | true=>rfl
  | false =>
    have:=zuh (n:=n) hi (by rw [hd]; simp)
    rw [h.eq] at this; cases this
theorem zwI (h:dgI t m i n) (hi:i < t.length):48 ≤ (t.getD i 0).toNat ∧ (t.getD i 0).toNat ≤ 57:=of_decide_eq_true (zul h hi)
theorem zqI (h:dgI t m i n) (hi:i < t.length):dgI t m (i + 1) (10 * n + ((t.getD i 0).toNat - 48)):=by
  have e:=zui (n:=n) hi (zul h hi)
  have e2:=h.eq
  rw [e] at e2
  exact ⟨hi,e2,zjV _ _ _ e2,h.small,h.pl,h.len⟩
theorem zwH (h:dgI t m i n) (hi:i < t.length):10 * n + ((t.getD i 0).toNat - 48) ≤ m:=(zqI h hi).lt
theorem zxK {Y:Int} (h:dgI t m i n) (hi:t.length ≤ i):idL t Y = if 1 ≤ (n:Int) ∧ (n:Int) < Y then (n:Int) else 0:=by
  have e:=h.eq
  rw [zwE hi] at e
  injection e with e
  unfold idL; rw [h.pl,← e]
theorem zyC {Y:Int} (h:dgI t m i n) (hi:t.length ≤ i) (hb:(n:Int) ≥ Y):idL t Y = 0:=by rw [zxK h hi,if_neg (by omega)]
theorem dgI_ok {Y:Int} (h:dgI t m i n) (hi:t.length ≤ i) (hb:¬ (n:Int) ≥ Y):idL t Y = (n:Int):=by
  rw [zxK h hi]
  split
  · rfl
  · omega
end
section
variable {c Y:Int} {t:TokL}
theorem zhJ (hc:c ≠ 0) (h:t.kind ≠ zfC c):zb4 c t Y = (zeroA,70):=if_pos (.inr h)
theorem zuy:zb4 0 t Y = (zeroA,70):=if_pos (.inl rfl)
theorem zwT (h:t.kind = 2) (h2:idL t.text Y = 0):zb4 105 t Y = (zeroA,43):=by
  unfold zb4; rw [if_neg (by simp [zfC,h]),if_pos rfl,if_pos h2]
theorem zyI (h:t.kind = 2) (h2:idL t.text Y ≠ 0):zb4 105 t Y = (⟨1,idL t.text Y,[]⟩,0):=by
  unfold zb4; rw [if_neg (by simp [zfC,h]),if_pos rfl,if_neg h2]
theorem zux (h:t.kind = 3) (h2:(za3 t.text).2 ≠ 0):zb4 110 t Y = (zeroA,(za3 t.text).2):=by
  unfold zb4; rw [if_neg (by simp [zfC,h]),if_neg (by decide),if_pos rfl,if_pos h2]
theorem zwS (h:t.kind = 3) (h2:(za3 t.text).2 = 0):zb4 110 t Y = (⟨2,(za3 t.text).1,[]⟩,0):=by
  unfold zb4; rw [if_neg (by simp [zfC,h]),if_neg (by decide),if_pos rfl,if_neg (by rw [h2]; simp)]
theorem zuv (h:t.kind = 4) (h2:zbr t.text ≠ t.text.length):zb4 115 t Y = (zeroA,13):=by
  unfold zb4; rw [if_neg (by simp [zfC,h]),if_neg (by decide),if_neg (by decide),if_pos rfl,if_pos h2]
theorem zwR (h:t.kind = 4) (h2:zbr t.text = t.text.length):zb4 115 t Y = (⟨3,0,t.text⟩,0):=by
  unfold zb4; rw [if_neg (by simp [zfC,h]),if_neg (by decide),if_neg (by decide),if_pos rfl,if_neg (by rw [h2]; simp)]
theorem zia (h:c ≠ 105) (h1:c ≠ 110) (h2:c ≠ 115):zfC c = 1:=by unfold zfC; rw [if_neg h,if_neg h1,if_neg h2]
theorem zr8 (h0:c ≠ 0) (h:c ≠ 105) (h1:c ≠ 110) (h2:c ≠ 115) (hk:t.kind = 1) (hf:(namesL.find? (enS c t.text)).isSome = false):zb4 c t Y = (zeroA,71):=by
  unfold zb4; rw [if_neg (by simp [zia h h1 h2,hk,h0]),if_neg h,if_neg h1,if_neg h2,if_pos hf]
theorem zuz (h0:c ≠ 0) (h:c ≠ 105) (h1:c ≠ 110) (h2:c ≠ 115) (hk:t.kind = 1) (hf:(namesL.find? (enS c t.text)).isSome = true):zb4 c t Y = (⟨4,((namesL.find? (enS c t.text)).getD zdq).n,[]⟩,0):=by
  unfold zb4; rw [if_neg (by simp [zia h h1 h2,hk,h0]),if_neg h,if_neg h1,if_neg h2,if_neg (by rw [hf]; simp)]
end
section
variable {n Y:Int} {l:List TokL} {m:Nat} {fm:FormL} {res ty:Int} {q j:Nat} {ags:List ArgP}
structure LnA (l:List TokL) (m:Nat):Prop where
  h0:0 < l.length
  k5:(l.getD 0 zaM).kind = 2 → 1 < l.length ∧ (l.getD 1 zaM).kind = 5 ∧ m = 2
  k0:¬ (l.getD 0 zaM).kind = 2 → m = 0
theorem LnA.start (h0:0 < l.length) (h:¬ (l.getD 0 zaM).kind = 2):LnA l 0:=⟨h0,fun q=>absurd q h,fun _=>rfl⟩
theorem LnA.said (h:(l.getD 0 zaM).kind = 2) (h1:1 < l.length) (h5:(l.getD 1 zaM).kind = 5):LnA l 2:=⟨by omega,fun _=>⟨h1,h5,rfl⟩,fun q=>absurd h q⟩
theorem LnA.le (h:LnA l m):m ≤ l.length:=by
  by_cases hk:(l.getD 0 zaM).kind = 2
  · have:=h.k5 hk; omega
  · have:=h.k0 hk; omega
theorem LnA.at (h:LnA l m):ziz l = m:=by
  unfold ziz
  by_cases hk:(l.getD 0 zaM).kind = 2
  · rw [if_pos hk,(h.k5 hk).2.2]
  · rw [if_neg hk,h.k0 hk]
theorem zv5 (hk:(l.getD 0 zaM).kind = 2) (h0:0 < l.length) (h1:l.length ≤ 1):zcJ n l Y = (zeroIL,false,(72,n)):=by
  unfold zcJ; rw [if_neg (by omega),if_pos ⟨hk,by omega⟩]
theorem ztM (hk:(l.getD 0 zaM).kind = 2) (h1:1 < l.length) (h5:(l.getD 1 zaM).kind ≠ 5):zcJ n l Y = (zeroIL,false,(70,(l.getD 1 zaM).at_)):=by
  unfold zcJ; rw [if_neg (by omega),if_neg (fun q=>by omega),if_pos ⟨hk,h5⟩]
theorem LnA.rest (h:LnA l m):zcJ n l Y = if l.length = m then (zeroIL,false,(72,n)) else if (l.getD m zaM).kind ≠ 1 then (zeroIL,false,(70,(l.getD m zaM).at_))
    else if (refT.find? (nmF (l.getD m zaM).text)).isSome = false then (zeroIL,false,(71,(l.getD m zaM).at_))
    else zfQ n l Y ((refT.find? (nmF (l.getD m zaM).text)).getD zeroF):=by
  have h0:=h.h0
  unfold zcJ
  rw [h.at]
  by_cases hk:(l.getD 0 zaM).kind = 2
  · obtain ⟨h1, h5, rfl⟩ := h.k5 hk
    rw [if_neg (by omega),if_neg (fun q=>by omega),if_neg (fun q=>q.2 h5)]
    by_cases h2:l.length = 2
    · rw [if_pos ⟨hk,h2⟩,if_pos h2]
    · rw [if_neg (fun q=>h2 q.2),if_neg h2]
  · obtain rfl := h.k0 hk
    rw [if_neg (by omega),if_neg (fun q=>hk q.1),if_neg (fun q=>hk q.1),if_neg (fun q=>hk q.1)]
    conv=>rhs; rw [if_neg (show ¬ l.length = 0 by omega)]
theorem LnA.early (h:LnA l m) (hl:l.length ≤ m):zcJ n l Y = (zeroIL,false,(72,n)):=by
  rw [h.rest,if_pos (by have:=h.le; omega)]
theorem LnA.noword (h:LnA l m) (hl:m < l.length) (hk:(l.getD m zaM).kind ≠ 1):zcJ n l Y = (zeroIL,false,(70,(l.getD m zaM).at_)):=by
  rw [h.rest,if_neg (by omega),if_pos hk]
theorem LnA.noname (h:LnA l m) (hl:m < l.length) (hk:(l.getD m zaM).kind = 1) (hf:(refT.find? (nmF (l.getD m zaM).text)).isSome = false):zcJ n l Y = (zeroIL,false,(71,(l.getD m zaM).at_)):=by
  rw [h.rest,if_neg (by omega),if_neg (fun q=>q hk),if_pos hf]
structure LnB (l:List TokL) (m:Nat) (fm:FormL):Prop where
  a:LnA l m
  lt:m < l.length
  k1:(l.getD m zaM).kind = 1
  fd:refT.find? (nmF (l.getD m zaM).text) = some fm
theorem LnB.mk2 (a:LnA l m) (lt:m < l.length) (k1:(l.getD m zaM).kind = 1) (hs:(refT.find? (nmF (l.getD m zaM).text)).isSome = true) (hf:(refT.find? (nmF (l.getD m zaM).text)).getD zeroF = fm):LnB l m fm:=by
  refine ⟨a,lt,k1,?_⟩
  obtain ⟨x,hx⟩:=Option.isSome_iff_exists.1 hs
  rw [hx] at hf ⊢
  exact congrArg some hf
theorem LnB.op (h:LnB l m fm):zaW fm.op = fm:=(znF h.fd).2.1
theorem LnB.rest (h:LnB l m fm):zcJ n l Y = zfQ n l Y fm:=by
  rw [h.a.rest,if_neg (by have:=h.lt; omega),if_neg (fun q=>q h.k1),h.fd,if_neg (by simp)]; rfl
theorem LnB.nores (h:LnB l m fm) (hr:fm.res ≠ decide ((l.getD 0 zaM).kind = 2)):zcJ n l Y = (zeroIL,false,(41,(l.getD 0 zaM).at_)):=by
  rw [h.rest]; unfold zfQ; rw [if_pos hr]
theorem LnB.noid (h:LnB l m fm) (hr:fm.res = decide ((l.getD 0 zaM).kind = 2)) (hk:(l.getD 0 zaM).kind = 2) (hi:idL (l.getD 0 zaM).text Y = 0):zcJ n l Y = (zeroIL,false,(43,(l.getD 0 zaM).at_)):=by
  rw [h.rest]; unfold zfQ; rw [if_neg (fun q=>q hr),if_pos ⟨hk,hi⟩]
structure LnC (Y:Int) (l:List TokL) (m:Nat) (fm:FormL) (res:Int):Prop where
  b:LnB l m fm
  rs:fm.res = decide ((l.getD 0 zaM).kind = 2)
  r1:(l.getD 0 zaM).kind = 2 → res = idL (l.getD 0 zaM).text Y ∧ res ≠ 0
  r0:¬ (l.getD 0 zaM).kind = 2 → res = 0
theorem LnC.pre (h:LnC Y l m fm res):zcJ n l Y = (if fm.ty = true ∧ l.length = m + 1 then (zeroIL,false,(72,n))
  else if fm.ty = true ∧ (l.getD (m + 1) zaM).kind ≠ 2 then (zeroIL,false,(70,(l.getD (m + 1) zaM).at_))
  else if fm.ty = true ∧ idL (l.getD (m + 1) zaM).text Y = 0 then (zeroIL,false,(43,(l.getD (m + 1) zaM).at_))
  else if (zcq fm Y 0 (l.drop (m + 1 + b2n fm.ty))).2.1 ≠ 0 then (zeroIL,false,(zcq fm Y 0 (l.drop (m + 1 + b2n fm.ty))).2)
  else if (ze0 fm.op ((zcq fm Y 0 (l.drop (m + 1 + b2n fm.ty))).1.map ArgP.kind)).2 = false then (zeroIL,false,(72,n))
  else if zbY fm (zcq fm Y 0 (l.drop (m + 1 + b2n fm.ty))).1 > 65535 then (zeroIL,false,(25,0))
  else (⟨fm.op,if fm.ty = true then idL (l.getD (m + 1) zaM).text Y else 0,res,(zcq fm Y 0 (l.drop (m + 1 + b2n fm.ty))).1⟩,true,(0,0))):=by
  rw [h.b.rest]
  have e:(if (l.getD 0 zaM).kind = 2 then idL (l.getD 0 zaM).text Y else 0) = res:=by
    by_cases hk:(l.getD 0 zaM).kind = 2
    · rw [if_pos hk,(h.r1 hk).1]
    · rw [if_neg hk,h.r0 hk]
  unfold zfQ
  rw [if_neg (fun q=>q h.rs),if_neg (fun q=>(h.r1 q.1).2 ((h.r1 q.1).1.trans q.2)),h.b.a.at,e]
theorem LnC.early (h:LnC Y l m fm res) (ht:fm.ty = true) (hl:l.length ≤ m + 1):zcJ n l Y = (zeroIL,false,(72,n)):=by
  rw [h.pre,if_pos ⟨ht,by have:=h.b.lt; omega⟩]
theorem LnC.notid (h:LnC Y l m fm res) (ht:fm.ty = true) (hl:m + 1 < l.length) (hk:(l.getD (m + 1) zaM).kind ≠ 2):zcJ n l Y = (zeroIL,false,(70,(l.getD (m + 1) zaM).at_)):=by
  rw [h.pre,if_neg (fun q=>by omega),if_pos ⟨ht,hk⟩]
theorem LnC.noid (h:LnC Y l m fm res) (ht:fm.ty = true) (hl:m + 1 < l.length) (hk:(l.getD (m + 1) zaM).kind = 2) (hi:idL (l.getD (m + 1) zaM).text Y = 0):zcJ n l Y = (zeroIL,false,(43,(l.getD (m + 1) zaM).at_)):=by
  rw [h.pre,if_neg (fun q=>by omega),if_neg (fun q=>q.2 hk),if_pos ⟨ht,hi⟩]
structure LnI (Y:Int) (l:List TokL) (m:Nat) (fm:FormL) (res ty:Int) (q:Nat):Prop where
  c:LnC Y l m fm res
  t1:fm.ty = true → ty = idL (l.getD (m + 1) zaM).text Y ∧ ty ≠ 0 ∧ m + 1 < l.length ∧ (l.getD (m + 1) zaM).kind = 2
  t0:fm.ty = false → ty = 0
  qe:q = m + 1 + b2n fm.ty
theorem LnI.yes (c:LnC Y l m fm res) (ht:fm.ty = true) (h:ty = idL (l.getD (m + 1) zaM).text Y) (h0:idL (l.getD (m + 1) zaM).text Y ≠ 0) (hl:m + 1 < l.length) (hk:(l.getD (m + 1) zaM).kind = 2):LnI Y l m fm res ty (m + 2):=⟨c,fun _=>⟨h,(by rw [h]; exact h0),hl,hk⟩,fun q=>(by rw [ht] at q; cases q),(by rw [ht]; rfl)⟩
theorem LnI.no (c:LnC Y l m fm res) (ht:fm.ty = false):LnI Y l m fm res 0 (m + 1):=⟨c,fun q=>(by rw [ht] at q; cases q),fun _=>rfl,by rw [ht]; rfl⟩
theorem LnI.le (h:LnI Y l m fm res ty q):q ≤ l.length:=by
  have h1:=h.c.b.lt
  have h2:=h.qe
  cases ht:fm.ty with
  | false=>rw [ht] at h2; unfold b2n at h2; simp at h2; omega
  | true=>have:=h.t1 ht; rw [ht] at h2; unfold b2n at h2; simp at h2; omega
theorem LnI.rest (h:LnI Y l m fm res ty q):zcJ n l Y = (if (zcq fm Y 0 (l.drop q)).2.1 ≠ 0 then (zeroIL,false,(zcq fm Y 0 (l.drop q)).2)
  else if (ze0 fm.op ((zcq fm Y 0 (l.drop q)).1.map ArgP.kind)).2 = false then (zeroIL,false,(72,n))
  else if zbY fm (zcq fm Y 0 (l.drop q)).1 > 65535 then (zeroIL,false,(25,0))
  else (⟨fm.op,ty,res,(zcq fm Y 0 (l.drop q)).1⟩,true,(0,0))):=by
  rw [h.c.pre,← h.qe]
  have e:(if fm.ty = true then idL (l.getD (m + 1) zaM).text Y else 0) = ty:=by
    by_cases ht:fm.ty = true
    · rw [if_pos ht,(h.t1 ht).1]
    · rw [if_neg ht,h.t0 (by simpa using ht)]
  rw [if_neg (fun q=>by have:=(h.t1 q.1).2.2.1; omega),if_neg (fun q=>q.2 (h.t1 q.1).2.2.2),if_neg (fun q=>(h.t1 q.1).2.1 ((h.t1 q.1).1.trans q.2)),e]
theorem LnI.bad (h:LnI Y l m fm res ty q) (hA:ArI fm Y l q j ags) (hj:q + j < l.length) (he:(zb4 (zaJ fm j) (l.getD (q + j) zaM) Y).2 ≠ 0):zcJ n l Y = (zeroIL,false,((zb4 (zaJ fm j) (l.getD (q + j) zaM) Y).2,(l.getD (q + j) zaM).at_)):=by
  have hb:=hA.bad hj he
  rw [h.rest,if_pos (by rw [hb]; exact he),hb]
theorem LnI.zero (h:LnI Y l m fm res ty q) (hA:ArI fm Y l q j ags) (hj:q + j < l.length) (hc:zaJ fm j = 0):zcJ n l Y = (zeroIL,false,(70,(l.getD (q + j) zaM).at_)):=by
  have e:zb4 (zaJ fm j) (l.getD (q + j) zaM) Y = (zeroA,70):=by rw [hc]; exact zuy
  rw [h.bad hA hj (by rw [e]; decide),e]
theorem LnI.nofit (h:LnI Y l m fm res ty q) (hA:ArI fm Y l q j ags) (hj:l.length ≤ q + j) (hf:(ze0 fm.op (ags.map ArgP.kind)).2 = false):zcJ n l Y = (zeroIL,false,(72,n)):=by
  rw [h.rest,hA.fin hj,if_neg (by simp),if_pos hf]
theorem LnI.fit (h:LnI Y l m fm res ty q) (hA:ArI fm Y l q j ags) (hj:l.length ≤ q + j) (hf:(ze0 fm.op (ags.map ArgP.kind)).2 = true):zcJ n l Y = (if zbY fm ags > 65535 then (zeroIL,false,(25,0)) else (⟨fm.op,ty,res,ags⟩,true,(0,0))) ∧ za7 Y ⟨fm.op,ty,res,ags⟩ = if zbY fm ags > 65535 then 25 else 0:=by
  have hfin:=hA.fin hj
  refine ⟨by rw [h.rest,hfin,if_neg (by simp),if_neg (by rw [hf]; simp)],?_⟩
  have:=zk2 (fm:=fm) (Y:=Y) (said:=fm.res) (ty:=ty) (res:=res) (l:=l.drop q) h.c.b.op rfl (fun hr=>by
      rw [h.c.rs] at hr
      have h1:=h.c.r1 (of_decide_eq_true hr)
      rw [h1.1]; exact znt (by rw [← h1.1]; exact h1.2)) (fun hr=>by
      rw [h.c.rs] at hr
      exact h.c.r0 (of_decide_eq_false hr)) (fun ht=>by
      have h1:=h.t1 ht
      rw [h1.1]; exact znt (by rw [← h1.1]; exact h1.2.1)) h.t0 (by rw [hfin]) (by rw [hfin]; exact hf)
  rw [hfin] at this
  exact this
end
open Go.RowKit
theorem zwZ {α:Type} {P:Program} {b:Base} {l:Nat} {X:Code} {k K:List Item} {E:Frame → World → Prop} {w0:World} {M:Nat → Prop} {L1 L2 D:List Res} {F:Nat → Value} {w:World} (hg:gotoIn l K = some (.code (.seq .skip X) :: k)) (kv:List (Nat × Value)) (V:St w0 M (L1 ++ L2) D w) (hkv:Slots F kv) (st:α → List (Nat × Value)) (Lm:α → List Res) (J:α → Prop)
    (h2:∀ (a:α) (f:Nat → Value) (w:World),St w0 M (Lm a ++ L2) D w → J a → Run P b (.code X :: k) (sts (st a) (sts kv f)) w E)
    (h1:(∀ (a:α) (f:Nat → Value) (w:World),St w0 M (Lm a ++ L2) D w → J a → Slots f kv → Slots f (st a) → Run P b (.code X :: k) f w E) → Run P b K F w E):Run P b K F w E :=
  h1 fun a f w hs hJ hk hsl=>by
    have:=h2 a f w hs hJ
    rw [zdz hk] at this
    rwa [zdz hsl] at this
theorem zvl (l:List TokL):∀ q,wsz (l.drop q) ≤ wsz l:=fun q=>by
  induction q with
  | zero=>exact Nat.le_refl _
  | succ q ih =>
    rcases Nat.lt_or_ge q l.length with h | h
    · have:=zlz h; omega
    · rw [List.drop_eq_nil_of_le (by omega)]; exact Nat.zero_le _
theorem zx1:refT.all (fun f=>decide (0 ≤ f.op ∧ f.op < 65536)) = true:=by decide +kernel
section
variable {n Y:Int} {l:List TokL} {m:Nat} {fm:FormL} {res ty:Int} {q j:Nat} {ags:List ArgP}
theorem LnB.op0 (h:LnB l m fm):0 ≤ fm.op ∧ fm.op < 65536:=of_decide_eq_true (List.all_eq_true.1 zx1 fm (List.mem_of_find?_eq_some h.fd))
theorem ArI.small {N:Nat} (h:ArI fm Y l q j ags) (hts:wsz l ≤ 7 * N) (hll:l.length ≤ N) (hN:N ≤ 16777216):(ags.map zaT).sum ≤ 900000000 ∧ ∀ a ∈ ags,a.s.length ≤ 100000000000:=by
  have h1:=h.sum
  have h2:=h.le
  have h3:=zvl l q
  refine ⟨by omega,fun a ha=>?_⟩
  have:=h.tx a ha
  omega
theorem LnI.wrong (h:LnI Y l m fm res ty q) (hA:ArI fm Y l q j ags) (hj:l.length ≤ q + j) (hf:(ze0 fm.op (ags.map ArgP.kind)).2 = true) {re:Int} (hre:re = za7 Y ⟨fm.op,ty,res,ags⟩) (h0:re ≠ 0):zcJ n l Y = (zeroIL,false,(re,0)):=by
  have h1:=h.fit (n:=n) hA hj hf
  rw [h1.2] at hre
  by_cases hr:zbY fm ags > 65535
  · rw [if_pos hr] at hre; rw [h1.1,if_pos hr,hre]
  · rw [if_neg hr] at hre; exact absurd hre h0
theorem LnI.good (h:LnI Y l m fm res ty q) (hA:ArI fm Y l q j ags) (hj:l.length ≤ q + j) (hf:(ze0 fm.op (ags.map ArgP.kind)).2 = true) {re:Int} (hre:re = za7 Y ⟨fm.op,ty,res,ags⟩) (h0:re = 0):zcJ n l Y = (⟨fm.op,ty,res,ags⟩,true,(0,0)):=by
  have h1:=h.fit (n:=n) hA hj hf
  rw [h1.2,h0] at hre
  by_cases hr:zbY fm ags > 65535
  · rw [if_pos hr] at hre; cases hre
  · rw [h1.1,if_neg hr]
end
def InstL.Sm (i:InstL):Prop:=(i.args.map zaT).sum ≤ 900000000 ∧ (∀ a ∈ i.args,a.s.length ≤ 100000000000) ∧ (0 ≤ i.op ∧ i.op < 65536)
theorem zi8:zeroIL.Sm:=⟨by decide,(fun a h=>by cases h),by decide⟩
theorem zoF (s:Tx):∀ i,i < (zbn s).1.length → ((zbn s).1.getD i zaM).kind = 2 → ∃ m,zba ((zbn s).1.getD i zaM).text = some m:=fun i hi hk=>by
  obtain ⟨o,ho⟩:=zoC s.length s 0
  have hw:=(zjr _ o 0 i ho hi).2
  have hw2:wrT ((zbn s).1.getD i zaM) = some _:=hw
  unfold wrT at hw2
  rw [if_neg (by rw [hk]; decide),if_pos hk] at hw2
  split at hw2
  · rename_i h; exact zhu h
  · cases hw2
section
variable {n Y:Int} {l:List TokL} {m:Nat} {fm:FormL} {res ty:Int} {q j:Nat} {ags:List ArgP}
theorem zlV {s:Tx} (h:¬ (zbn s).2.1 ≠ 0):za4 s Y = zcJ s.length (zbn s).1 Y:=if_neg h
theorem ztO {s:Tx} (h:(zbn s).2.1 ≠ 0):za4 s Y = (zeroIL,false,(zbn s).2):=if_pos h
theorem zrP {s:Tx} (h:¬ (zbn s).2.1 ≠ 0) (h0:(zbn s).1.length = 0):za4 s Y = (zeroIL,false,(zbn s).2):=by
  rw [zlV h,zrb (Nn h)]
  unfold zcJ; rw [if_pos h0]
end
theorem zrl (r:Res):(Res.star [Res.star [],r]).foot = r.foot:=by
  funext b
  apply propext
  constructor
  · rintro ⟨q, hq, hb⟩
    rcases List.mem_cons.1 hq with rfl | hq
    · obtain ⟨z,hz,_⟩:=hb; cases hz
    · obtain rfl:=List.mem_singleton.1 hq; exact hb
  · exact fun hb=>⟨r,.tail _ (.head _),hb⟩
def itemV (item:Nat → List Value):Nat → List Value → Res → Prop:=fun i vs r=>vs = item i ∧ r = Res.star []
theorem zwK (r:Tx):(zlf r).length ≤ r.length:=by unfold zlf; exact (List.takeWhile_sublist _).length_le
theorem zxk:∀ (n:Nat) (r:Tx) (i:Nat),r.length ≤ n → ((lnF r).getD i []).length ≤ r.length
  | 0,r,i,h=>by rw [zh5 (by omega)]; exact Nat.zero_le _
  | n + 1, r, i, h => by
    rcases Nat.eq_zero_or_pos r.length with h0 | h0
    · rw [zh5 h0]; exact Nat.zero_le _
    · rw [ziR h0]
      have hb:=zgs r
      cases i with
      | zero=>exact zwK r
      | succ i=>have:=zxk n (zjY r) i O; show ((lnF (zjY r)).getD i []).length ≤ _; omega
theorem zyi (r:Tx) (i:Nat):((lnF r).getD i []).length ≤ r.length:=zxk _ r i (Nat.le_refl _)
theorem zv7 {n Y:Int} {l:List TokL} {fm:FormL} (h:(zfQ n l Y fm).2.1 = true):(zfQ n l Y fm).2.2 = (0,0):=by
  unfold zfQ at h ⊢
  split at h
  · cases h
  rename_i h1; rw [if_neg h1]
  split at h
  · cases h
  rename_i h1; rw [if_neg h1]
  split at h
  · cases h
  rename_i h1; rw [if_neg h1]
  split at h
  · cases h
  rename_i h1; rw [if_neg h1]
  split at h
  · cases h
  rename_i h1; rw [if_neg h1]
  split at h
  · cases h
  rename_i h1; rw [if_neg h1]
  split at h
  · cases h
  rename_i h1; rw [if_neg h1]
  split at h
  · cases h
  rename_i h1; rw [if_neg h1]
theorem zlW {x:Tx} {Y:Int} (h:(za4 x Y).2.1 = true):(za4 x Y).2.2 = (0,0):=by
  unfold za4 at h ⊢
  split at h
  · cases h
  rename_i h1; rw [if_neg h1]
  unfold zcJ at h ⊢
  split at h
  · cases h
  rename_i h1; rw [if_neg h1]
  split at h
  · cases h
  rename_i h1; rw [if_neg h1]
  split at h
  · cases h
  rename_i h1; rw [if_neg h1]
  split at h
  · cases h
  rename_i h1; rw [if_neg h1]
  split at h
  · cases h
  rename_i h1; rw [if_neg h1]
  split at h
  · cases h
  rename_i h1; rw [if_neg h1]
  exact zv7 h
structure PaM (t:Tx) (i:Nat) (gn bd:Int) (words:Nat) (dm:List InstP):Prop where
  pi:PaI t i ⟨gn,bd,words,dm.map InstP.L⟩
  pg:PaG ⟨gn,bd,words,dm.map InstP.L⟩
  sm:∀ x ∈ dm,x.L.Sm
section
variable {t:Tx} {i:Nat} {gn bd:Int} {words:Nat} {dm:List InstP}
theorem PaM.start:PaM t 0 0 0 0 []:=⟨PaI.start,PaG.start,fun x h=>by cases h⟩
theorem PaM.bdr (h:PaM t i gn bd words dm) (h0:words ≠ 0):1 ≤ bd ∧ bd ≤ 65536:=h.pg.bd h0
theorem PaM.le (h:PaM t i gn bd words dm):words ≤ 1048576:=h.pg.le
theorem PaM.len (h:PaM t i gn bd words dm):dm.length ≤ words:=by have:=h.pi.small; rwa [List.length_map] at this
theorem PaM.to {gn' bd':Int} {words':Nat} {dm':List InstP} (h:PaM t i gn bd words dm) (hi:i < (lnF t).length) (he:zlT ((lnF t).getD i []) ⟨gn,bd,words,dm.map InstP.L⟩ = .ok ⟨gn',bd',words',dm'.map InstP.L⟩) (hs:∀ x ∈ dm',x.L.Sm):PaM t (i + 1) gn' bd' words' dm':=⟨h.pi.step hi he,h.pg.step he,hs⟩
theorem PaM.idle (h:PaM t i gn bd words dm) (hi:i < (lnF t).length) (h0:words = 0) (h1:(zbn ((lnF t).getD i [])).2.1 = 0) (h2:(zbn ((lnF t).getD i [])).1.length = 0):PaM t (i + 1) gn bd words dm:=by
  refine h.to hi ?_ h.sm
  unfold zlT; dsimp only; rw [if_pos h0,if_pos ⟨h1,h2⟩]
theorem PaM.nohead (h:PaM t i gn bd words dm) (hi:i < (lnF t).length) (h0:words = 0) (hn:¬ ((zbn ((lnF t).getD i [])).2.1 = 0 ∧ (zbn ((lnF t).getD i [])).1.length = 0)) (he:(zcY ((lnF t).getD i [])).2.1 ≠ 0):zkY 0 (lnF t) ⟨0,0,0,[]⟩ = zi9 (zcY ((lnF t).getD i [])).2.1 ((i:Int) + 1):=by
  refine h.pi.bad hi ?_
  unfold zlT; dsimp only; rw [if_pos h0,if_neg hn,if_pos he]
theorem PaM.head (h:PaM t i gn bd words dm) (hi:i < (lnF t).length) (h0:words = 0) (hn:¬ ((zbn ((lnF t).getD i [])).2.1 = 0 ∧ (zbn ((lnF t).getD i [])).1.length = 0)) (he:¬ (zcY ((lnF t).getD i [])).2.1 ≠ 0):PaM t (i + 1) (zcY ((lnF t).getD i [])).1.1 (zcY ((lnF t).getD i [])).1.2 5 dm:=by
  refine h.to hi ?_ h.sm
  have hd:dm.map InstP.L = []:=h.pg.none h0
  unfold zlT; dsimp only; rw [if_pos h0,if_neg hn,if_neg he,hd]
theorem PaM.noline (h:PaM t i gn bd words dm) (hi:i < (lnF t).length) (h0:¬ words = 0) (he:(za4 ((lnF t).getD i []) bd).2.2.1 ≠ 0):zkY 0 (lnF t) ⟨0,0,0,[]⟩ = zi9 (za4 ((lnF t).getD i []) bd).2.2.1 ((i:Int) + 1):=by
  refine h.pi.bad hi ?_
  unfold zlT; dsimp only; rw [if_neg h0,if_pos he]
theorem PaM.skip (h:PaM t i gn bd words dm) (hi:i < (lnF t).length) (h0:¬ words = 0) (he:¬ (za4 ((lnF t).getD i []) bd).2.2.1 ≠ 0) (hs:(za4 ((lnF t).getD i []) bd).2.1 = false):PaM t (i + 1) gn bd words dm:=by
  refine h.to hi ?_ h.sm
  unfold zlT; dsimp only; rw [if_neg h0,if_neg he,if_pos hs]
theorem PaM.fault (h:PaM t i gn bd words dm) (h0:¬ words = 0) (hs:(za4 ((lnF t).getD i []) bd).2.1 = true):(za4 ((lnF t).getD i []) bd).2.2 = (0,0) ∧ za7 bd (za4 ((lnF t).getD i []) bd).1 = 0:=by
  have e:=zlW hs
  exact ⟨e,((zk3 (h.bdr h0).2 (by rw [e])).2 hs).1⟩
theorem PaM.big (h:PaM t i gn bd words dm) (hi:i < (lnF t).length) (h0:¬ words = 0) (hs:(za4 ((lnF t).getD i []) bd).2.1 = true) (hb:words + zbY (zaW (za4 ((lnF t).getD i []) bd).1.op) (za4 ((lnF t).getD i []) bd).1.args > 1048576):zkY 0 (lnF t) ⟨0,0,0,[]⟩ = zi9 4 ((i:Int) + 1):=by
  refine h.pi.bad hi ?_
  unfold zlT; dsimp only; rw [if_neg h0,if_neg (by rw [zlW hs]; simp),if_neg (by rw [hs]; simp),if_pos hb]
theorem PaM.more (h:PaM t i gn bd words dm) (hi:i < (lnF t).length) (h0:¬ words = 0) (hs:(za4 ((lnF t).getD i []) bd).2.1 = true) (hb:¬ words + zbY (zaW (za4 ((lnF t).getD i []) bd).1.op) (za4 ((lnF t).getD i []) bd).1.args > 1048576) {y:InstP} (hy:y.L = (za4 ((lnF t).getD i []) bd).1) (hsm:(za4 ((lnF t).getD i []) bd).1.Sm):PaM t (i + 1) gn bd (words + zbY (zaW (za4 ((lnF t).getD i []) bd).1.op) (za4 ((lnF t).getD i []) bd).1.args) (dm ++ [y]):=by
  refine h.to hi ?_ (fun x hx=>?_)
  · unfold zlT; dsimp only; rw [if_neg h0,if_neg (by rw [zlW hs]; simp),if_neg (by rw [hs]; simp),if_neg hb,List.map_append,List.map_singleton,hy]
  · rcases List.mem_append.1 hx with hx | hx
    · exact h.sm x hx
    · obtain rfl:=List.mem_singleton.1 hx; rw [hy]; exact hsm
theorem PaM.fin0 (h:PaM t (lnF t).length gn bd words dm) (h0:words = 0):zkY 0 (lnF t) ⟨0,0,0,[]⟩ = zi9 72 (lnF t).length:=by
  rw [h.pi.fin,if_pos h0]
theorem PaM.fin1 (h:PaM t (lnF t).length gn bd words dm) (h0:¬ words = 0):zkY 0 (lnF t) ⟨0,0,0,[]⟩ = ((gn,bd,dm.map InstP.L),(0,0)):=by
  rw [h.pi.fin,if_neg h0]
end
theorem zju {t:Tx} (h:¬ t.length > 16777216):zet t = zkY 0 (lnF t) ⟨0,0,0,[]⟩:=if_neg h
theorem zm8 {t:Tx} (h:t.length > 16777216):zet t = zi9 4 0:=if_pos h
theorem zp6 {Y:Int} {i:InstL} (h:za7 Y i = 0):(zkV Y i).1.2.length + 1 = zbY (zaW i.op) i.args ∧ zbY (zaW i.op) i.args ≤ 65535:=by
  have h1:=zeO h
  have h2:=(ze1 h).2.2.2.2.2
  refine ⟨?_,by omega⟩
  unfold zkV; rw [if_neg (by rw [h]; simp)]; exact h1.1
end Go.SK
namespace Go.SK
theorem Small.ofSm {dm:List InstP} (h1:dm.length ≤ 1048576) (h2:∀ x ∈ dm,x.L.Sm):Small dm:=⟨by omega,fun i hi=>(h2 i hi).2.2.1,fun i hi=>(h2 i hi).2.2.2,fun i hi=>(h2 i hi).1,fun i hi=>(h2 i hi).2.1⟩
theorem Wd.getW {l:List Int} (h:Wd l) (i:Nat):0 ≤ l.getD i 0 ∧ l.getD i 0 < 4294967296:=by
  rcases Nat.lt_or_ge i l.length with hi | hi
  · exact h _ (zbJ hi)
  · rw [show l.getD i 0 = 0 by simp [List.getD,List.getElem?_eq_none hi]]; decide
theorem Wd.drop {l:List Int} (h:Wd l) (i:Nat):Wd (l.drop i):=fun x hx=>h x (List.mem_of_mem_drop hx)
theorem zwV {c:Int} {ws:List Int} {b:Int} (h:Wd ws):0 ≤ (zeL c ws b).1.n ∧ (zeL c ws b).1.n < 4294967296:=by
  unfold zeL
  split
  · exact ⟨by decide,by decide⟩
  split
  · dsimp only; omega
  · exact h.getW 0
theorem zn1 {fm:FormL} {b:Int}:∀ (n k:Nat) (ws:List Int),Wd ws → ∀ a ∈ (zep fm b n k ws).1,0 ≤ a.n ∧ a.n < 4294967296
  | 0,_,_,_,a,ha=>by cases ha
  | n + 1, k, ws, h, a, ha => by
    rw [zep] at ha
    split at ha
    · cases ha
    split at ha
    · cases ha
    · rcases List.mem_cons.1 ha with rfl | ha
      · exact zwV h
      · exact zn1 n (k + 1) _ (h.drop _) a ha
theorem zeN:zeroIL.U32:=⟨by decide,by decide,fun a ha=>by cases ha⟩
theorem ztU {b op:Int} {l:List Int} (h:Wd l):(zb2 b op l).1.U32:=by
  unfold zb2
  split
  · exact zeN
  split
  · exact zeN
  split
  · exact zeN
  split
  · exact zeN
  split
  · exact zeN
  · refine ⟨?_, ?_, zn1 _ _ _ (h.drop _)⟩
    · dsimp only; split
      · exact h.getW 0
      · decide
    · dsimp only; split
      · exact h.getW _
      · decide
theorem zld {b:List UInt8} (h:(za2 b).2.1 = 0):(0 ≤ (za2 b).1.1 ∧ (za2 b).1.1 < 4294967296) ∧ (0 ≤ (za2 b).1.2.1 ∧ (za2 b).1.2.1 < 4294967296) ∧ ∀ i ∈ (za2 b).1.2.2,i.U32:=by
  have hs:zcG b = 0:=Nn fun e=>by rw [zfl e] at h; exact e h
  rw [zdk hs,zjm hs] at h ⊢
  have hw:=zjl b
  generalize zbV b = W at *
  by_cases h1:(zcL W).2.2.1 ≠ 0
  · rw [zjX h1] at h; exact absurd h h1
  have h1:=Nn h1
  obtain ⟨hR,hW,hH,hE⟩:=zh2 h1
  by_cases h2:(znT (W.getD 3 0) (zcf W 5).1).2.1 ≠ 0
  · unfold zvi at h
    rw [hR] at h
    simp only at h
    rw [if_neg (fun e=>e rfl),if_pos h2] at h
    exact absurd h h2
  have h2:=Nn h2
  have hin:=zmk h2
  have hG:=zmj (Y:=W.getD 3 0) (ps:=(zcf W 5).1) (fun j hj=>hin _ (zbJ hj))
  have hsub:=zl2 hw W.length 5
  rw [zpg hR rfl hG]
  refine ⟨hw.getW 2,hw.getW 3,fun i hi=>?_⟩
  simp only at hi
  obtain ⟨p,hp,rfl⟩:=List.mem_map.1 hi
  exact ztU (hsub p hp).1
theorem zf1 {b:List UInt8} {gn bd e a:Int} {il:List InstL} (h:za2 b = ((gn,bd,il),(e,a))):(e ≠ 0 → gn = 0 ∧ bd = 0 ∧ il = []) ∧ (e = 0 → zed gn bd il = (b,(0,0)) ∧ zbl bd il = (0,0) ∧ bd ≠ 0 ∧ ¬ bd > 65536):=by
  constructor
  · intro he
    have h1:=zle (b:=b) (by rw [h]; exact he)
    rw [h] at h1
    simp only [Prod.mk.injEq] at h1
    exact h1
  · intro he
    have h1:=zfk (b:=b) (by rw [h]; exact he)
    rw [h] at h1
    exact ⟨h1.1,h1.2.1,h1.2.2.2.1⟩
theorem zhG {b:List UInt8} {gn bd e a:Int} {il:List InstL} (h:za2 b = ((gn,bd,il),(e,a))) {dm:List InstP} (hd:dm.map InstP.L = il):Small dm:=znR (b:=b) (by rw [h]; exact hd)
open Go.RowKit
def zfB (b:List UInt8):Tx × (Int × Int):=if (za2 b).2.1 ≠ 0 then ([],(za2 b).2) else zcV (za2 b).1.1 (za2 b).1.2.1 (za2 b).1.2.2
theorem zlg {b:List UInt8} {gn bd e a:Int} {il:List InstL} (h:za2 b = ((gn,bd,il),(e,a))) (he:e ≠ 0):zfB b = ([],(e,a)):=by unfold zfB; rw [h]; exact if_pos he
theorem znV {b:List UInt8} {gn bd e a:Int} {il:List InstL} (h:za2 b = ((gn,bd,il),(e,a))) (he:e = 0):zfB b = zcV gn bd il:=by unfold zfB; rw [h]; exact if_neg (fun q=>q he)
theorem zoJ {gn bd:Int} {il:List InstL} (hs0:zbl bd il = (0,0)) (hg:0 ≤ gn ∧ gn < 4294967296) (hb0:0 ≤ bd) (hu:∀ y ∈ il,y.U32):∃ x,zcV gn bd il = (x,(0,0)) ∧ x.length ≤ 16777216 ∧ zet x = ((gn,bd,il),(0,0)):=by
  have h:=zmK (gn:=gn) (l:=il) (by rw [hs0]) hg hu hb0
  refine ⟨(zcV gn bd il).1,?_,h.2.1,h.2.2⟩
  exact Prod.ext rfl h.1
theorem zg1 {b:List UInt8} {gn bd e a se sa:Int} {il:List InstL} {x:Tx} (hB:zfB b = (x,(se,sa))) (hD:za2 b = ((gn,bd,il),(e,a))):(e ≠ 0 → x = [] ∧ se = e ∧ sa = a) ∧
    (e = 0 → (se = 0 ∧ sa = 0) ∧ (x.length ≤ 16777216 ∧ zet x = ((gn,bd,il),(0,0))) ∧ zcV gn bd il = (x,(0,0)) ∧ zed gn bd il = (b,(0,0)) ∧ zbl bd il = (0,0) ∧ (0 ≤ gn ∧ gn < 4294967296) ∧ (0 ≤ bd ∧ bd < 4294967296) ∧ (∀ y ∈ il,y.U32) ∧ a = 0):=by
  refine ⟨fun he=>?_,fun he=>?_⟩
  · rw [zlg hD he] at hB
    injection hB with h1 h2
    injection h2 with h3 h4
    exact ⟨h1.symm,h3.symm,h4.symm⟩
  · obtain ⟨hE, hSh, hbd0, hbd1⟩ := (zf1 hD).2 he
    have hu:=zld (b:=b) (by rw [hD]; exact he)
    have hz:=(zfk (b:=b) (by rw [hD]; exact he)).2.2.1
    rw [hD] at hu hz
    injection hz with hz1 hz2
    obtain ⟨y,hT,hl,hp⟩:=zoJ hSh hu.1 hu.2.1.1 hu.2.2
    rw [znV hD he,hT] at hB
    injection hB with h1 h2
    injection h2 with h3 h4
    subst h1
    exact ⟨⟨h3.symm,h4.symm⟩,⟨hl,hp⟩,hT,hE,hSh,hu.1,hu.2.1,hu.2.2,hz2⟩
theorem znU {b:List UInt8} {gn bd e a se sa:Int} {il:List InstL} {x:Tx} (hB:zfB b = (x,(se,sa))) (hD:za2 b = ((gn,bd,il),(e,a))):se ≠ 0 ↔ e ≠ 0:=by
  have h:=zg1 hB hD
  by_cases he:e = 0
  · exact ⟨fun q=>absurd (h.2 he).1.1 q,fun q=>absurd he q⟩
  · exact ⟨fun _=>he,fun _=>by rw [(h.1 he).2.1]; exact he⟩
end Go.SK
namespace Go.SK
open Go Go.Proofs Go.Proofs.Tryz
theorem zl6:FldF prog 130 4 4:=FldF.of (n:=1) Kr
theorem zdh:FldF prog 130 2 2:=FldF.of (n:=0) Kr
theorem zex:FldF prog 130 1 1:=FldF.of (n:=0) Kr
theorem zuc:zaG prog 73:=⟨f73,_,func73,Kr,rfl⟩
theorem zl7:FldF prog 130 0 0:=FldF.of (n:=0) Kr
theorem zdR:zaG prog 128:=⟨f128,_,func128,Kr,rfl⟩
theorem zjS:zaG prog 126:=⟨f126,_,func126,Kr,rfl⟩
theorem zbF:TyF prog 81 (.struct (zbm prog 81)) 2 8 [.int .u32 0,.int .u32 0]:=zbp Kr Kr
theorem zc5:zdm prog 81 [(0,1),(1,1)]:=⟨zbm prog 81,Kr,fun w=>Kr⟩
theorem zqC:zaG prog 149:=⟨f149,_,func149,Kr,rfl⟩
theorem ty130:TyF prog 130 (.struct (zbm prog 130)) 6 72 [str [],.slice none 0 0,.int .i64 0,.int .u32 0,.int .i64 0,.int .i64 0]:=zbp Kr Kr
theorem stf130:zdm prog 130 [(0,1),(1,1),(2,1),(3,1),(4,2)]:=⟨zbm prog 130,Kr,fun w=>Kr⟩
theorem ent72:zaG prog 72:=⟨f72,_,func72,Kr,rfl⟩
theorem ent93:zaG prog 93:=⟨f93,_,func93,Kr,rfl⟩
theorem zjI:FldF prog 81 0 0:=FldF.of (n:=0) Kr
theorem zfU:FldF prog 81 1 1:=FldF.of (n:=0) Kr
theorem zqw:FldF prog 130 3 3:=FldF.of (n:=0) Kr
theorem zxE:zaG prog 129:=⟨f129,_,func129,Kr,rfl⟩
theorem zxD:zaG prog 130:=⟨f130,_,func130,Kr,rfl⟩
theorem ent209:zaG prog 209:=⟨f209,_,func209,Kr,rfl⟩
theorem zvv:TyF prog 124 (.pointer 130) 1 8 [.pointer none]:=zbp Kr Kr
theorem ent177:zaG prog 177:=⟨f177,_,func177,Kr,rfl⟩
theorem ent176:zaG prog 176:=⟨f176,_,func176,Kr,rfl⟩
theorem ent173:zaG prog 173:=⟨f173,_,func173,Kr,rfl⟩
theorem ent174:zaG prog 174:=⟨f174,_,func174,Kr,rfl⟩
theorem ent175:zaG prog 175:=⟨f175,_,func175,Kr,rfl⟩
theorem ent127:zaG prog 127:=⟨f127,_,func127,Kr,rfl⟩
theorem ent132:zaG prog 132:=⟨f132,_,func132,Kr,rfl⟩
theorem ent74:zaG prog 74:=⟨f74,_,func74,Kr,rfl⟩
theorem ent36:zaG prog 36:=⟨f36,_,func36,Kr,rfl⟩
theorem ent44:zaG prog 44:=⟨f44,_,func44,Kr,rfl⟩
theorem ent45:zaG prog 45:=⟨f45,_,func45,Kr,rfl⟩
theorem ent17:zaG prog 17:=⟨f17,_,func17,Kr,rfl⟩
open Go.RowKit
theorem zkC (c:Int) (q:zdN) (h0:0 ≤ c) (h1:c ≤ 255) (w:World):Ret prog 209 #[.int .u8 c,str q] w (fun v w'=>v = numV (namesL.find? (enS c q)) ∧ St w NoM [] [] w'):=by
 refine zav (args:=[.int .u8 c,str q]) func209 Z Z Z ?_
 have V:=St.init w
 refine SR<|Q<|zbi (v:=str _) V Z Z fun w b3 V=>Q<|zar V za9 fun w b4 V=>Q<|zar V ty4 fun w b5 V=>G<|SQ<|SR<|MC Z<|Q (zao (v1:=.int .u8 _) zxv Z Z ((zlr _ _).mono fun v w hp=>?_))
 obtain ⟨bc,rfl,hp⟩:=hp
 replace V:=V.call0 hp
 refine G<|zak ?_
 replace V:=V.addProp (p:=((zbg c).drop 0).find? (fun x=>decide (x.name = q)) = (zbg c).find? (fun x=>decide (x.name = q))) (rfl)
 replace V:=V.pick (.k1 (.c .u2 (.c .u1 (.k2 .nil))))
 refine zdT (L1:=[_,_,_]) (L2:=[_,_]) (item:=(fun j=>[.int .u32 ((zbg c).getD j zdq).n,str ((zbg c).getD j zdq).name])) (FD:=(· = bc)) (fun i=>[Res.prop (((zbg c).drop i).find? (fun x=>decide (x.name = q)) = (zbg c).find? (fun x=>decide (x.name = q))),Res.row b4 22 [.int .u32 0],Res.row b5 4 [.bool false]]) (fun i=>[Res.prop ((zbg c).find? (fun x=>decide (x.name = q)) = some ((zbg c).getD i zdq)),Res.row b4 22 [.int .u32 ((zbg c).getD i zdq).n],Res.row b5 4 [.bool true]]) (fun _=>.ret) V rfl rfl zxu (fun b hb=>.inl (by subst hb; exact ⟨_,Q0,rfl⟩)) (fun w1 hw1=>zit c h0 h1 bc w1 (hw1.hL _ Q3)) (fun _ _=>rfl) ?_ ?_ ?_
 ·intro i hi w bl br lp hlp V hk
  have hprop:((zbg c).drop i).find? (fun x=>decide (x.name = q)) = (zbg c).find? (fun x=>decide (x.name = q)):=V.hL _ Q2
  refine SR<|AU Z<|NR<|AS Z<|G<|zdZ hlp V .u0 fun w V=>zak<|SR<|MS Z<|Q<|zae (v:=str _) ty9 Z Z (V.cellD Q1 Z)<|Q<|zcu Z Z<|G ?_
  refine zab Z (fun g1=>?_) (fun g1=>?_)
  ·refine SR <| MU Z <| Q (SO (v := .int .u32 _) V za9 Z Z .u3 fun w V => ?_)
   refine Q (SO (v:=.bool _) V ty4 Z Z .u4 fun w V=>?_)
   refine G<|zfc V .u0 fun w V=>?_
   replace V:=V.addProp (p:=(zbg c).find? (fun x=>decide (x.name = q)) = some ((zbg c).getD i zdq)) (zmb (d:=zdq) hprop hi (Dt g1))
   replace V:=V.pick (.c .u1 (.c .u1 (.k1 (.c .u1 (.c .u1 .nil)))))
   exact .inr ⟨Z,_,V⟩
  refine zag<|zah<|zdc hlp V .u0 fun w V=>?_
  replace V:=V.addProp (p:=((zbg c).drop (i + 1)).find? (fun x=>decide (x.name = q)) = (zbg c).find? (fun x=>decide (x.name = q))) (zjN (d:=zdq) hprop hi (Df g1))
  replace V:=V.pick (.c .u1 (.c .u1 (.k1 (.c .u1 (.c .u1 .nil)))))
  exact .inl ⟨Z,_,V⟩
 ·intro w bl br lp V
  have hall:((zbg c).drop (zbg c).length).find? (fun x=>decide (x.name = q)) = (zbg c).find? (fun x=>decide (x.name = q)):=V.hL _ Q2
  refine zah<|SR<|Q (SO (v:=.int .u32 _) V za9 Z Z .u3 fun w V=>?_)
  refine Q (SO (v:=.bool _) V ty4 Z Z .u4 fun w V=>?_)
  refine G ?_
  replace V:=V.pick (.c .u1 (.k6 .nil))
  refine zbs [br] func209 V fun w V=>⟨_,zvg Z (zcT (v:=.int .u32 _) Z za9 Z (V.cellL Q2 Z)) (zcT (v:=.bool _) Z ty4 Z (V.cellL Q3 Z)),?_⟩
  rw [← zjQ,zmc hall (Nat.le_refl _)]
  exact ⟨Z,V.pure⟩
 ·intro i hi w bl br lp V
  have hs:(zbg c).find? (fun x=>decide (x.name = q)) = some ((zbg c).getD i zdq):=V.hL _ Q2
  replace V:=V.pick (.c .u1 (.k6 .nil))
  refine zbs [br] func209 V fun w V=>⟨_,zvg Z (zcT (v:=.int .u32 _) Z za9 Z (V.cellL Q2 Z)) (zcT (v:=.bool _) Z ty4 Z (V.cellL Q3 Z)),?_⟩
  rw [← zjQ,hs]
  exact ⟨Z,V.pure⟩
theorem zw5  (w:World):Ret prog 171 #[] w (fun v w'=>v = .func (.func 206) #[] #[] ∧ St w NoM [] [] w'):=by
 refine zav (args:=[]) func171 Z Z Z ?_
 have V:=St.init w
 refine SR<|Q<|zap (v:=_) Z<|NSR<|Q<|zap (v:=.func _ _ _) Z<|G<|zai func171 Z (TP (v:=.func _ _ _) Z) ?_
 exact ⟨Z,V.pure⟩
theorem zsB (w:World):zq3 prog 206 [] refT.length (fun j=>[.agg (zrW (refT.getD j zeroF)).toArray]) (fun _=>False) w:=by
 intro yv R S hR hFD hy
 have hyx:∀ n:Nat,n < 256 → (zc6 (n:Int)).isSome = true → ∀ w1,St w (R 0).foot [R (zkA n).length] [] w1 → CallV prog yv [.agg (zrW ((zc6 (n:Int)).getD zeroF)).toArray] w1 fun v w2=>(v = .bool true ∧ St w1 (R (zkA n).length).foot [R ((zkA n).length + 1)] [] w2) ∨ (v = .bool false ∧ St w1 (R (zkA n).length).foot [S (zkA n).length] [] w2):=fun n hn hs w1 hw1=>by
  have hk:=(zi3 hn).2 hs
  have t:=hy _ hk.2 w1 hw1
  dsimp only at t
  rwa [hk.1] at t
 refine zav (args:=[yv]) func206 Z Z Z ?_
 have V:St w (R 0).foot [R 0] [] w:=St.enter1 hR (fun d hd=>by cases hd) (fun d hd=>by cases hd)
 refine SR<|MH rfl<|G<|zak<|zaY<|zaZ [(0,_)] ⟨rfl,trivial⟩ (fun (n:Nat)=>[(5,.int .u16 (n:Int))]) (fun (n:Nat)=>[R (zkA n).length]) (fun (n:Nat)=>n ≤ 256) (fun (n:Nat)=>256 - n) (0) (by (try dsimp only); rw [all_0]; exact V) (Nat.zero_le _) ⟨rfl,trivial⟩ ?_
 intro n f w V hJ ih1
 refine SR<|Q<|zaN Z Z<|G<|SQ<|zab Z (fun g2=>?_) (fun g2=>?_)
 ·refine zag <| SQ <| zak <| SR <| MH Z <| AH Z <| NSR <| MH Z <| Q <| zao (v1 := .int .u16 _) zr0 Z Z <| Ret.det (zpD _ O _) V fun w V => Q <| zad (v := .tuple #[zaO _ _ _ _ _ _ _ _, .bool _]) Z <| Q <| Ex (zaO _ _ _ _ _ _ _ _) Z Z <| Q (Ex (.bool _) Z Z ?_)
  refine Q<|zar V zb5 fun w b3 V=>Q (SO (v:=zaO _ _ _ _ _ _ _ _) V zb5 Z Z .u0 fun w V=>?_)
  refine AB Z<|NSR<|MB Z<|MB Z<|zcg (d:=14) Z (fun g3=>?_) (fun g3=>?_)
  ·refine TK (t := 14) Z (Vb g3) <| zad (v := _) Z <| TK (t := 14) Z (Vb g3) (zay (vs := zbz _ _ _ _ _ _ _ _) zb5 Z Z Z (zac (n := 8) (V.objL Q0) _ Z) ?_)
   replace V:=V.pick (.c .u1 (.k1 .nil))
   refine TK (t:=14) Z (Vb g3) (zdx (v1:=zaO _ _ _ _ _ _ _ _) Z Z ((hyx n O g3 _ V.one).mono fun v w hp=>?_))
   rcases hp with ⟨rfl,hp⟩ | ⟨rfl,hp⟩
   ·replace V := V.call1 hp
    refine TK (t:=14) Z (Vb g3)<|zaU Z<|Q<|zaB (u:=.bool _) (Vb g3) Z<|G<|zal (Vb (congrArg not (Z:true = _)))<|zag<|zah<|RG<|Q<|zaA Z Z Z Wu16<|MH Z<|G<|zaD ?_
    replace V:=V.pick (.k1 .nil)
    exact ih1 (n + 1) _ w (by omega) (by (try dsimp only); rw [zwW (by omega) g3]; simp only [List.length_append,List.length_singleton]; exact V) (by omega) ⟨rfl,trivial⟩ ⟨(congrArg (Value.int .u16) (by omega)),trivial⟩
   ·replace V := V.call1 hp
    refine TK (t:=14) Z (Vb g3)<|zaU Z<|Q<|zaB (u:=.bool _) (Vb g3) Z<|G<|zas (Vb (congrArg not (Z:false = _)))<|zgd func206 Z  ?_
    replace V:=V.pick (.k2 .nil)
    exact .inr ⟨(zkA n).length,((zi3 O).2 g3).2,V.one⟩
  refine OM (t:=14) Z (Vb g3) Z<|OM (t:=14) Z (Vb g3) Z<|OM (t:=14) Z (Vb g3) Z<|OM (t:=14) Z (Vb g3) Z<|Q<|zax (u:=.bool _) (Vb g3) Z<|G<|zal (Vb (Z:false = _))<|zag<|zah<|RG<|Q<|zaA Z Z Z Wu16<|MH Z<|G<|zaD ?_
  replace V:=V.pick (.c .u1 .nil)
  exact ih1 (n + 1) _ w (by omega) (by (try dsimp only); rw [zwX (by omega) g3]; exact V) (by omega) ⟨rfl,trivial⟩ ⟨(congrArg (Value.int .u16) (by omega)),trivial⟩
 refine zaK (id:=0) Z<|zdA func206 Z  ?_
 replace V:=V.pick (.k1 .nil)
 obtain rfl:n = 256:=by omega
 rw [zyK] at V
 exact .inl V.one
end Go.SK
namespace Go.SK
open Go Go.Proofs Go.Proofs.Tryz
theorem ent171:zaG prog 171:=⟨f171,_,func171,Kr,rfl⟩
theorem ent206:zaG prog 206:=⟨f206,_,func206,Kr,rfl⟩
open Go.RowKit
theorem zsm (q:zdN) (w:World):Ret prog 127 #[str q] w (fun v w'=>v = formV (refT.find? (nmF q)) ∧ St w NoM [] [] w'):=by
 refine zav (args:=[str q]) func127 Z Z Z ?_
 have V:=St.init w
 refine SR<|Q<|zbi (v:=str _) V Z Z fun w b1 V=>Q<|zar V zb5 fun w b2 V=>Q<|zar V ty4 fun w b3 V=>G<|SQ<|SR<|Q<|zei  ent171 Z <|Ret.det (zw5 _) V fun w V=>G<|zak ?_
 replace V:=V.addProp (p:=(refT.drop 0).find? (nmF q) = refT.find? (nmF q)) (rfl)
 replace V:=V.pick (.k1 (.c .u1 (.k2 .nil)))
 refine zdT (L1:=[_,_,_]) (L2:=[_]) (item:=(fun j=>[.agg (zrW (refT.getD j zeroF)).toArray])) (FD:=(fun _=>False)) (fun i=>[Res.prop ((refT.drop i).find? (nmF q) = refT.find? (nmF q)),Res.row b2 113 [.int .u16 zeroF.op,str zeroF.name,.bool zeroF.ty,.bool zeroF.res,str zeroF.fixed,str zeroF.rest,.int .i64 zeroF.most,.int .u8 zeroF.part],Res.row b3 4 [.bool false]]) (fun i=>[Res.prop (refT.find? (nmF q) = some (refT.getD i zeroF)),Res.row b2 113 [.int .u16 (refT.getD i zeroF).op,str (refT.getD i zeroF).name,.bool (refT.getD i zeroF).ty,.bool (refT.getD i zeroF).res,str (refT.getD i zeroF).fixed,str (refT.getD i zeroF).rest,.int .i64 (refT.getD i zeroF).most,.int .u8 (refT.getD i zeroF).part],Res.row b3 4 [.bool true]]) (fun _=>.ret) V Z Z ent206 (fun b hb=>hb.elim) (fun w1 _=>zsB w1) (fun _ _=>rfl) ?_ ?_ ?_
 ·intro i hi w bl br lp hlp V hk
  have hprop:(refT.drop i).find? (nmF q) = refT.find? (nmF q):=V.hL _ Q2
  refine RG<|Q<|zar V zb5 fun w b4 V=>Q (SO (v:=zaO _ _ _ _ _ _ _ _) V zb5 Z Z .u0 fun w V=>?_)
  refine G<|zdZ hlp V .u1 fun w V=>zak<|SR<|Q<|zaa zqx Z<|Q<|zae (v:=str _) ty9 Z Z (V.cellL Q0 Z)<|Q<|zae (v:=str _) ty9 Z Z (V.cellD Q0 Z)<|Q<|zcu Z Z<|G<|zab Z (fun g1=>?_) (fun g1=>?_)
  ·refine SR <| Q <| zay (vs := zbz _ _ _ _ _ _ _ _) zb5 Z Z Z (zac (n := 8) (V.objL Q0) _ Z) <| Q (SO (v := zaO _ _ _ _ _ _ _ _) V zb5 Z Z .u4 fun w V => ?_)
   refine Q (SO (v:=.bool _) V ty4 Z Z .u5 fun w V=>?_)
   refine G<|zfc V .u1 fun w V=>?_
   replace V:=V.addProp (p:=refT.find? (nmF q) = some (refT.getD i zeroF)) (zmb (d:=zeroF) hprop hi (Dt g1))
   replace V:=V.pick (.c .u2 (.c .u2 (.k1 (.c .u2 (.c .u2 .nil)))))
   exact .inr ⟨Z,_,V⟩
  refine zag<|zah<|zdc hlp V .u1 fun w V=>?_
  replace V:=V.addProp (p:=(refT.drop (i + 1)).find? (nmF q) = refT.find? (nmF q)) (zjN (d:=zeroF) hprop hi (Df g1))
  replace V:=V.pick (.c .u2 (.c .u2 (.k1 (.c .u2 (.c .u2 .nil)))))
  exact .inl ⟨Z,_,V⟩
 ·intro w bl br lp V
  have hall:(refT.drop refT.length).find? (nmF q) = refT.find? (nmF q):=V.hL _ Q2
  refine zah<|SR<|Q (zaf zb5 ztc .nil ?_)
  refine Q (SO (v:=zaO _ _ _ _ _ _ _ _) V zb5 Z Z .u3 fun w V=>?_)
  refine Q (SO (v:=.bool _) V ty4 Z Z .u4 fun w V=>?_)
  refine G ?_
  replace V:=V.pick (.c .u1 (.k5 .nil))
  refine zbs [br] func127 V fun w V=>⟨_,zvg Z (zat (vs:=zbz _ _ _ _ _ _ _ _) Z zb5 Z Z (zac (n:=8) (V.objL Q2) _ Z)) (zcT (v:=.bool _) Z ty4 Z (V.cellL Q3 Z)),?_⟩
  rw [zmc hall (Nat.le_refl _)]
  exact ⟨Z,V.pure⟩
 ·intro i hi w bl br lp V
  have hs:refT.find? (nmF q) = some (refT.getD i zeroF):=V.hL _ Q2
  replace V:=V.pick (.c .u1 (.k5 .nil))
  refine zbs [br] func127 V fun w V=>⟨_,zvg Z (zat (vs:=zbz _ _ _ _ _ _ _ _) Z zb5 Z Z (zac (n:=8) (V.objL Q2) _ Z)) (zcT (v:=.bool _) Z ty4 Z (V.cellL Q3 Z)),?_⟩
  rw [hs]
  exact ⟨Z,V.pure⟩
theorem zig (l m:List UInt8) (ao bo:Option Addr) (cp cq:Nat) (w:World) (hA:(Res.rs ao l.length 1 (l.flatMap byC)).holds w) (hB:(Res.rs bo m.length 1 (m.flatMap byC)).holds w) (hl:l.length ≤ 9000000000000000000):Ret prog 27 #[.slice ao l.length cp,.slice bo m.length cq] w (fun v w'=>v = .bool (decide (l = m)) ∧ St w NoM [] [] w'):=by
 refine zav (args:=[.slice ao l.length cp,.slice bo m.length cq]) func27 Z Z Z ?_
 have V:St w NoM [] [Res.rs ao l.length 1 (l.flatMap byC),Res.rs bo m.length 1 (m.flatMap byC)] w:=St.init_Ds (fun d hd=>by cases hd with | head=>exact hA | tail _ hd=>cases hd with | head=>exact hB | tail _ h=>cases h)
 clear hA hB
 refine SR<|AB Z<|G<|SQ<|SR<|ML Z<|Q<|zaH (rest:=[]) zb9 Z<|ML Z<|Q<|zaH (rest:=[]) zb9 Z<|Q<|zaF Z Z<|G<|zab Z (fun g1=>?_) (fun g1=>?_)
 ·refine SR <| AB Z <| G <| zai func27 Z (TP (v := .bool _) Z) ?_
  exact ⟨Vb (Df (fun h=>by have:=congrArg List.length h; omega)).symm,V.pure⟩
 refine zag<|SQ<|SR<|AI Z<|G<|zak<|zaY<|zaZ [(0,.slice _ _ _),(1,.slice _ _ _)] E2 (fun (i:Nat)=>[(5,.int .i64 (i:Int))]) (fun (i:Nat)=>[]) (fun (i:Nat)=>i ≤ l.length ∧ ∀ j,j < i → l.getD j 0 = m.getD j 0) (fun (i:Nat)=>l.length - i) (0) V ⟨Nat.zero_le _,fun j hj=>absurd hj O⟩ ⟨Z,trivial⟩ ?_
 intro i f w V hJ ih2
 refine SQ<|SR<|MI Z<|ML Z<|Q<|zaH (rest:=[]) zb9 Z<|Q<|zaN Z Z<|G<|zab Z (fun g3=>?_) (fun g3=>?_)
 ·refine zag <| SQ <| zak <| SQ <| zaC [] V (bs := [0, 0, 3, 7, 0, 0, 48, 112, 255]) (ds := [some 17, some 18, some 19, some 20, some 21, some 22, some 23, some 24, some 25]) ⟨Kr, Kr, Kr⟩ (fun tab4 => ?_)
  refine DO tab4 1 (fun _ _ _ hc=>zad (v:=.slice _ _ _) (hc.old Z Z Z) hc.z)<|DO tab4 2 (fun _ _ _ hc=>zad (v:=.int .i64 _) (hc.old Z Z Z) hc.z)<|DO tab4 3 (fun _ _ _ hc=>zaR zb9 ty5 (hc.st.hD _ Q0) (hc.d 0 Z Z Z Z) (hc.d 1 Z Z Z Z) O O hc.z)<|DO tab4 4 (fun _ _ _ hc=>zae (v:=.int .u8 _) ty5 Z (hc.d 2 Z Z Z Z) (Res.rs2_cell (hc.st.hD _ Q0) (zbD (g:=byC) (d:=0) zfm Z O)) hc.z)<|DO tab4 5 (fun _ _ _ hc=>zad (v:=.slice _ _ _) (hc.old Z Z Z) hc.z)<|DO tab4 6 (fun _ _ _ hc=>zad (v:=.int .i64 _) (hc.old Z Z Z) hc.z)<|DO tab4 7 (fun _ _ _ hc=>zaR zb9 ty5 (hc.st.hD _ Q1) (hc.d 4 Z Z Z Z) (hc.d 5 Z Z Z Z) O O hc.z)<|DO tab4 8 (fun _ _ _ hc=>zae (v:=.int .u8 _) ty5 Z (hc.d 6 Z Z Z Z) (Res.rs2_cell (hc.st.hD _ Q1) (zbD (g:=byC) (d:=0) zfm Z O)) hc.z)<|RunD.fin zaw tab4 V Z (fun f5 w R8 hs6 hd7 hr9 V=>?_)
  obtain ⟨h17_,r0⟩:=hd7 0 17 rfl rfl
  obtain ⟨h18_,r1⟩:=hd7 1 18 rfl rfl
  obtain ⟨h19_,r2⟩:=hd7 2 19 rfl rfl
  obtain ⟨h20_,r3⟩:=hd7 3 20 rfl rfl
  obtain ⟨h21_,r4⟩:=hd7 4 21 rfl rfl
  obtain ⟨h22_,r5⟩:=hd7 5 22 rfl rfl
  obtain ⟨h23_,r6⟩:=hd7 6 23 rfl rfl
  obtain ⟨h24_,r7⟩:=hd7 7 24 rfl rfl
  simp only [rg8,Fc,Fn,Mc,Mn,r0,r1,r2,r3,r4,r5,r6,r7,Na,An,Ca] at V
  refine zaz (sl:=[(0,.slice _ _ _),(1,.slice _ _ _),(5,.int .i64 _),(20,.int .u8 _),(24,.int .u8 _)]) ⟨(hs6 0 Z).trans Z,(hs6 1 Z).trans Z,(hs6 5 Z).trans Z,h20_,h24_,trivial⟩ ?_
  clear hs6 hd7 hr9 tab4
  refine Q<|zaF Z Z<|G<|zab Z (fun g10=>?_) (fun g10=>?_)
  ·refine SR <| AB Z <| G <| zai func27 Z (TP (v := .bool _) Z) ?_
   exact ⟨Vb (Df (fun h=>by have hg:=g10; rw [h] at hg; simp at hg)).symm,V.pure⟩
  refine zag<|zah<|RG<|MI Z<|Q<|zaA Z Z Z zbt<|AI Z<|G<|zaD ?_
  exact ih2 (i + 1) _ w (by omega) V (⟨by omega,zdS hJ.2 (zsY (by have hg:=g10; simpa using hg))⟩) E2 ⟨(Vi (by omega)),trivial⟩
 refine zaK (id:=0) Z<|SR<|AB Z<|G<|zai func27 Z (TP (v:=.bool _) Z) ?_
 exact ⟨Vb (Dt (zbN 0 O (fun j hj=>hJ.2 j O))).symm,V.pure⟩
theorem zdF (l:List UInt8) (ao:Option Addr) (cp:Nat) (w:World) (hA:(Res.rs ao l.length 1 (l.flatMap byC)).holds w) (hl:l.length ≤ 140737488355328):Ret prog 25 #[.slice ao l.length cp] w (fun v w'=>∃ bC,v = .slice (some ⟨bC,0,none⟩) l.length l.length ∧ St w NoM [Res.sl (some ⟨bC,0,none⟩) l.length l.length 5 1 (l.flatMap byC)] [] w'):=by
 refine zav (args:=[.slice ao l.length cp]) func25 Z Z Z ?_
 have V:St w NoM [] [Res.rs ao l.length 1 (l.flatMap byC)] w:=St.init_D hA
 clear hA
 refine SR<|AL Z<|NSR<|ML Z<|Q<|zaH (rest:=[]) zb9 Z<|Q (zfw V zb9 ty5 Z Z Z De O O fun w bC V=>?_)
 rw [zi0 (g:=byC) (d:=(0:UInt8)) (ez:=[.int .u8 0]) rfl l] at V
 refine AL Z<|G<|SQ<|SR<|AI Z<|G<|zak<|zaY<|zaZ [(0,.slice _ _ _),(3,.slice _ _ _)] E2 (fun (i:Nat)=>[(4,.int .i64 (i:Int))]) (fun (i:Nat)=>[Res.sl (some ⟨bC,0,none⟩) l.length l.length 5 1 ((cpG (0:UInt8) l l.length i).flatMap byC)]) (fun (i:Nat)=>i ≤ l.length) (fun (i:Nat)=>l.length - i) (0) V (Nat.zero_le _) ⟨Z,trivial⟩ ?_
 intro i f w V hJ ih1
 refine SQ<|SR<|MI Z<|ML Z<|Q<|zaH (rest:=[]) zb9 Z<|Q<|zaN Z Z<|G<|zab Z (fun g2=>?_) (fun g2=>?_)
 ·refine zag <| SQ <| zak <| RG <| ML rfl <| MI rfl <| ML rfl <| MI rfl <| Q <| zaR zb9 ty5 (V.hD _ Q0) rfl rfl (by omega) (by omega) <| Q <| zae (v := .int .u8 _) ty5 rfl rfl (Res.rs2_cell (V.hD _ Q0) (zbD (g := byC) (d := 0) zfm rfl (by omega))) <| Q <| zbd zb9 ty5 rfl rfl (by omega) (by omega) <| Q <| zfv (v := .int .u8 _) V ty5 rfl rfl rfl rfl rfl .u0 (by simp only [List.length_cons, List.length_nil]; omega) fun w V => G <| zah <| RG ?_
  refine MI Z<|Q<|zaA Z Z Z zbt<|AI Z<|G<|zaD ?_
  exact ih1 (i + 1) _ w (by omega) (by (try dsimp only); rw [← zqK (g:=byC) (es:=1) zfm (i:=i) (x:=byC (l.getD i 0)) (by omega) rfl]; exact V) (by omega) E2 ⟨(Vi (by omega)),trivial⟩
 obtain rfl:i = l.length:=by omega
 rw [zup] at V
 refine zaK (id:=0) Z<|SR<|ML Z<|AL Z<|G<|zai func25 Z (TP (v:=.slice _ _ _) Z) ?_
 replace V:=V.pick (.k1 .nil)
 exact ⟨bC,Z,V.noD⟩
theorem zsb (b:List UInt8) (ao:Option Addr) (cp:Nat) (w:World) (hA:(Res.rs ao b.length 1 (b.flatMap byC)).holds w) (hl:b.length ≤ 240000000000000):Ret prog 52 #[.slice ao b.length cp] w (fun v w'=>∃ ro rc,v = .tuple #[.slice ro (zeQ b).length rc,.int .i64 (zcG b)] ∧ St w NoM [Res.sl ro (zeQ b).length rc 22 1 ((zeQ b).flatMap zci)] [] w'):=by
 refine zav (args:=[.slice ao b.length cp]) func52 Z Z Z ?_
 have V:St w NoM [] [Res.rs ao b.length 1 (b.flatMap byC)] w:=St.init_D hA
 clear hA
 refine SR<|AL Z<|AI Z<|G<|SQ<|zak<|SR<|ML Z<|Q<|zaH (rest:=[]) zb9 Z<|Q<|zbI Z Z<|AB Z<|G<|zab Z (fun g1=>?_) (fun g1=>?_)
 ·refine SR <| AL Z <| AI Z <| G <| zaq func52 Z (TP (v := .slice _ _ _) Z) (TP (v := .int .i64 _) Z) ?_
  replace V:=V.pick .nil
  have he:=zmR (b:=b) O
  rw [zkP (by rw [he]; decide),he]
  exact ⟨none,0,Z,(V.pushNil 22 1).noD⟩
 refine SR<|ML Z<|Q (zaH (rest:=[]) zb9 Z ?_)
 first | refine Q (zhO rfl rfl O O rfl ?_) | refine Q (zki rfl rfl O ?_)
 refine Q<|zaF Z Z<|AB Z<|G<|zab Z (fun g2=>?_) (fun g2=>?_)
 ·refine SR <| AL Z <| AI Z <| G <| zaq func52 Z (TP (v := .slice _ _ _) Z) (TP (v := .int .i64 _) Z) ?_
  replace V:=V.pick .nil
  have he:=zrm (b:=b) O O
  rw [zkP (by rw [he]; decide),he]
  exact ⟨none,0,Z,(V.pushNil 22 1).noD⟩
 refine zag<|zah<|SR<|ML Z<|Q (zaH (rest:=[]) zb9 Z ?_)
 first | refine Q (zmt rfl rfl O O rfl zbt ?_) | refine Q (zpO rfl rfl O ?_)
 refine Q<|zg5 (k:=b.length / 4) V zcn za9 rfl rfl (by omega) rfl (by decide) (by omega) (by omega) fun w bC V=>AL rfl<|G<|SQ<|SR<|AI rfl<|G<|zak<|zaY<|zaZ [(0,.slice _ _ _)] ⟨rfl,trivial⟩ (fun (q:Nat × Option Addr × Nat)=>[(4,.slice q.2.1 q.1 q.2.2),(5,.int .i64 ((4 * q.1:Nat):Int))]) (fun (q:Nat × Option Addr × Nat)=>[Res.sl q.2.1 q.1 q.2.2 22 1 (((zbV b).take q.1).flatMap zci)]) (fun (q:Nat × Option Addr × Nat)=>q.1 ≤ b.length / 4) (fun (q:Nat × Option Addr × Nat)=>b.length / 4 - q.1) ((0,some ⟨bC,0,none⟩,b.length / 4)) (by (try dsimp only); rw [List.take_zero]; exact V) (Nat.zero_le _) E2 ?_
 intro ⟨j,aq,cq⟩ f w V hJ ih3
 replace V:St _ _ ([Res.sl aq j cq 22 1 (((zbV b).take j).flatMap zci)] ++ []) _ _:=V
 replace hJ:j ≤ b.length / 4:=hJ
 refine za6 (sl:=[(4,.slice aq j cq),(5,.int .i64 ((4 * j:Nat):Int))]) E2 ?_
 have hB0:=zph b (4 * j)
 have hB1:=zph b (4 * j + 1)
 have hB2:=zph b (4 * j + 2)
 have hB3:=zph b (4 * j + 3)
 refine SQ<|SR<|MI Z<|ML Z<|Q<|zaH (rest:=[]) zb9 Z<|Q<|zaN Z Z<|G<|zab Z (fun g4=>?_) (fun g4=>?_)
 ·refine zag <| SQ <| zak <| SR <| AU Z <| G <| SQ <| SR <| AI Z <| G <| zak <| zaY <| SQ ?_
  refine SR<|MI rfl<|Q<|zbh rfl rfl<|G<|zas (Vb (Dt (by decide)))<|zag<|SQ<|zak<|SR<|MU rfl<|Q<|zeB (a:=0) (n:=8) (c:=(0) * 256) rfl rfl (by decide) (by rw [show (2:Int) ^ 8 = 256 from rfl]; exact wrap_u32 (by omega) (by omega))<|AU rfl<|G ?_
  refine RG<|MU Z<|ML Z<|MI Z<|MI Z<|Q<|zaA Z Z Z zbt<|Q<|zaR zb9 ty5 (V.hD _ Q0) Z Z O O<|Q (zae (v:=.int .u8 _) ty5 Z Z (Res.rs2_cell (V.hD _ Q0) (zbD (g:=byC) (d:=0) zfm Z O)) ?_)
  first | refine Q (zaS ty5 za9 rfl zsa ?_) | refine Q (zaS ty5 za9 rfl (zfG _) ?_) | refine Q (za0 ty5 za9 rfl ?_)
  refine Q<|zf5 (q:=0) (i:=8) (b:=((b.getD (4 * j + 3) 0).toNat:Int)) (c:=((b.getD (4 * j + 3) 0).toNat:Int)) rfl rfl rfl (by omega) (by omega) (by rw [show (2:Int) ^ 8 = 256 from rfl]; omega) (by omega) (by omega)<|AU rfl<|G<|zah<|zaj [(0,.slice _ _ _),(4,.slice _ _ _),(5,.int .i64 _),(6,.int .u32 _),(7,.int .i64 _)] E5 fun f=>RG<|MI rfl<|Q<|zbu rfl rfl rfl zbt<|AI rfl<|G<|zaD<|SQ<|SR<|MI rfl ?_
  refine Q<|zbh rfl rfl<|G<|zas (Vb (Dt (by decide)))<|zag<|SQ<|zak<|SR<|MU rfl<|Q<|zeB (a:=((b.getD (4 * j + 3) 0).toNat:Int)) (n:=8) (c:=(((b.getD (4 * j + 3) 0).toNat:Int)) * 256) rfl rfl (by decide) (by rw [show (2:Int) ^ 8 = 256 from rfl]; exact wrap_u32 (by omega) (by omega))<|AU rfl<|NR<|MU rfl<|ML rfl ?_
  refine MI Z<|MI Z<|Q<|zaA Z Z Z zbt<|Q<|zaR zb9 ty5 (V.hD _ Q0) Z Z O O<|Q (zae (v:=.int .u8 _) ty5 Z Z (Res.rs2_cell (V.hD _ Q0) (zbD (g:=byC) (d:=0) zfm Z O)) ?_)
  first | refine Q (zaS ty5 za9 rfl zsa ?_) | refine Q (zaS ty5 za9 rfl (zfG _) ?_) | refine Q (za0 ty5 za9 rfl ?_)
  refine Q<|zf5 (q:=((b.getD (4 * j + 3) 0).toNat:Int)) (i:=8) (b:=((b.getD (4 * j + 2) 0).toNat:Int)) (c:=((b.getD (4 * j + 3) 0).toNat:Int) * 256 + ((b.getD (4 * j + 2) 0).toNat:Int)) rfl rfl rfl (by omega) (by omega) (by rw [show (2:Int) ^ 8 = 256 from rfl]; omega) (by omega) (by omega)<|AU rfl<|G<|zah<|RG<|MI rfl<|Q<|zbu rfl rfl rfl zbt<|AI rfl<|G<|zaD<|zaj [(0,.slice _ _ _),(4,.slice _ _ _),(5,.int .i64 _),(6,.int .u32 _),(7,.int .i64 _)] E5 fun f=>SQ<|SR<|MI rfl ?_
  refine Q<|zbh rfl rfl<|G<|zas (Vb (Dt (by decide)))<|zag<|SQ<|zak<|SR<|MU rfl<|Q<|zeB (a:=((b.getD (4 * j + 3) 0).toNat:Int) * 256 + ((b.getD (4 * j + 2) 0).toNat:Int)) (n:=8) (c:=(((b.getD (4 * j + 3) 0).toNat:Int) * 256 + ((b.getD (4 * j + 2) 0).toNat:Int)) * 256) rfl rfl (by decide) (by rw [show (2:Int) ^ 8 = 256 from rfl]; exact wrap_u32 (by omega) (by omega))<|AU rfl<|NR<|MU rfl<|ML rfl ?_
  refine MI Z<|MI Z<|Q<|zaA Z Z Z zbt<|Q<|zaR zb9 ty5 (V.hD _ Q0) Z Z O O<|Q (zae (v:=.int .u8 _) ty5 Z Z (Res.rs2_cell (V.hD _ Q0) (zbD (g:=byC) (d:=0) zfm Z O)) ?_)
  first | refine Q (zaS ty5 za9 rfl zsa ?_) | refine Q (zaS ty5 za9 rfl (zfG _) ?_) | refine Q (za0 ty5 za9 rfl ?_)
  refine Q<|zf5 (q:=((b.getD (4 * j + 3) 0).toNat:Int) * 256 + ((b.getD (4 * j + 2) 0).toNat:Int)) (i:=8) (b:=((b.getD (4 * j + 1) 0).toNat:Int)) (c:=(((b.getD (4 * j + 3) 0).toNat:Int) * 256 + ((b.getD (4 * j + 2) 0).toNat:Int)) * 256 + ((b.getD (4 * j + 1) 0).toNat:Int)) rfl rfl rfl (by omega) (by omega) (by rw [show (2:Int) ^ 8 = 256 from rfl]; omega) (by omega) (by omega)<|AU rfl<|G<|zah<|RG<|MI rfl<|Q<|zbu rfl rfl rfl zbt<|AI rfl<|G<|zaD<|SQ<|SR<|MI rfl<|Q (zbh rfl rfl ?_)
  refine G<|zaj [(0,.slice _ _ _),(4,.slice _ _ _),(5,.int .i64 _),(6,.int .u32 _),(7,.int .i64 _),(28,.bool _)] E6 fun f=>zas (Vb (Dt (by decide)))<|zag<|SQ<|zak<|SR<|MU rfl<|Q<|zeB (a:=(((b.getD (4 * j + 3) 0).toNat:Int) * 256 + ((b.getD (4 * j + 2) 0).toNat:Int)) * 256 + ((b.getD (4 * j + 1) 0).toNat:Int)) (n:=8) (c:=((((b.getD (4 * j + 3) 0).toNat:Int) * 256 + ((b.getD (4 * j + 2) 0).toNat:Int)) * 256 + ((b.getD (4 * j + 1) 0).toNat:Int)) * 256) rfl rfl (by decide) (by rw [show (2:Int) ^ 8 = 256 from rfl]; exact wrap_u32 (by omega) (by omega))<|AU rfl<|NR<|MU rfl<|ML rfl ?_
  refine MI Z<|MI Z<|Q<|zaA Z Z Z zbt<|Q<|zaR zb9 ty5 (V.hD _ Q0) Z Z O O<|Q (zae (v:=.int .u8 _) ty5 Z Z (Res.rs2_cell (V.hD _ Q0) (zbD (g:=byC) (d:=0) zfm Z O)) ?_)
  first | refine Q (zaS ty5 za9 rfl zsa ?_) | refine Q (zaS ty5 za9 rfl (zfG _) ?_) | refine Q (za0 ty5 za9 rfl ?_)
  refine Q<|zf5 (q:=(((b.getD (4 * j + 3) 0).toNat:Int) * 256 + ((b.getD (4 * j + 2) 0).toNat:Int)) * 256 + ((b.getD (4 * j + 1) 0).toNat:Int)) (i:=8) (b:=((b.getD (4 * j) 0).toNat:Int)) (c:=zds b j) rfl rfl rfl (by omega) (by omega) (by rw [show (2:Int) ^ 8 = 256 from rfl]; omega) (by unfold zds; omega) (by exact (zha b j).2)<|AU rfl<|G<|zah<|RG<|MI rfl<|Q<|zbu rfl rfl rfl zbt<|AI rfl<|G<|zaD<|SQ<|SR<|MI rfl<|Q (zbh rfl rfl ?_)
  refine G<|zal (Vb (Df De))<|zaK (id:=3) Z<|RG<|ML Z<|MU Z<|Q (zaI (z0:=[.int .u32 0]) V zcn za9 Z Z Kr (.c (v:=.int .u32 _) Z (h:=.nil)) fun w b44 V=>?_)
  refine Q (zaP (news:=[.int .u32 _]) V zcn za9 Z Z .u1 Z Z Z (zac (n:=1) (V.objL Q0) _ Z) Z Z O fun w ao5 cp6 V=>?_)
  replace V:=V.drop .u1
  refine AL Z<|G<|zah<|zaj [(0,.slice _ _ _),(4,.slice _ _ _),(5,.int .i64 _)] E3 fun f=>RG<|MI Z<|Q<|zaA Z Z Z zbt<|AI Z<|G<|zaD ?_
  exact ih3 ((j + 1,ao5,cp6)) _ w (by (try dsimp only); omega) (by (try dsimp only); rw [zoN (by omega),List.flatMap_append]; exact V) (by (try dsimp only); omega) ⟨rfl,trivial⟩ ⟨rfl,(Vi (by (try dsimp only); omega)),trivial⟩
 obtain rfl:j = b.length / 4:=by omega
 refine zaK (id:=1) Z<|SR<|ML Z<|AL Z<|AI Z<|G<|zaq func52 Z (TP (v:=.slice _ _ _) Z) (TP (v:=.int .i64 _) Z) ?_
 replace V:=V.pick (.k1 .nil)
 have he:=ztf (b:=b) O O
 rw [zjm he,he,zb3]
 rw [List.take_of_length_le (by rw [zb3]; exact Nat.le_refl _)] at V
 exact ⟨_,_,Z,V.noD⟩
theorem zuH (l:List Int) (ao:Option Addr) (cp:Nat) (w:World) (hA:(Res.rs ao l.length 1 (l.flatMap zci)).holds w) (hl:l.length ≤ 30000000000000):Ret prog 56 #[.slice ao l.length cp] w (fun v w'=>∃ ro rc,v = .slice ro (zbk l).length rc ∧ St w NoM [Res.sl ro (zbk l).length rc 5 1 ((zbk l).flatMap byC)] [] w'):=by
 refine zav (args:=[.slice ao l.length cp]) func56 Z Z Z ?_
 have V:St w NoM [] [Res.rs ao l.length 1 (l.flatMap zci)] w:=St.init_D hA
 clear hA
 refine SR<|AL Z<|NSR<|ML Z<|Q (zaH (rest:=[]) zcn Z ?_)
 first | refine Q (zdp rfl rfl rfl zbt ?_) | refine Q (zq2 rfl rfl O O O O (fun hm1 hm2=>?_))
 refine Q<|zg5 (k:=4 * l.length) V zb9 ty5 rfl rfl (by omega) rfl (by decide) (by omega) (by omega) fun w bC V=>AL rfl<|G<|SQ<|SR<|ML rfl<|Q<|zaH (rest:=[]) zcn rfl<|MI rfl<|G<|zak<|zaY<|zaZ [(10,.slice _ _ _),(11,.int .i64 _)] E2 (fun (q:Nat × Option Addr × Nat)=>[(3,.slice q.2.1 (4 * q.1) q.2.2),(12,.int .i64 (q.1:Int))]) (fun (q:Nat × Option Addr × Nat)=>[Res.sl q.2.1 (4 * q.1) q.2.2 5 1 (((zbk l).take (4 * q.1)).flatMap byC)]) (fun (q:Nat × Option Addr × Nat)=>q.1 ≤ l.length) (fun (q:Nat × Option Addr × Nat)=>l.length - q.1) ((0,some ⟨bC,0,none⟩,4 * l.length)) (by (try dsimp only); rw [Nat.mul_zero,List.take_zero]; exact V) (Nat.zero_le _) E2 ?_
 intro ⟨j,aq,cq⟩ f w V hJ ih3
 replace V:St _ _ ([Res.sl aq (4 * j) cq 5 1 (((zbk l).take (4 * j)).flatMap byC)] ++ []) _ _:=V
 replace hJ:j ≤ l.length:=hJ
 refine za6 (sl:=[(3,.slice aq (4 * j) cq),(12,.int .i64 (j:Int))]) E2<|SR<|Q<|zaN Z Z<|G<|SQ<|zab Z (fun g4=>?_) (fun g4=>?_)
 ·refine zag <| SQ <| zak <| SR <| Q <| zaR zcn za9 (V.hD _ Q0) Z Z O O <| Q <| zae (v := .int .u32 _) za9 Z Z (Res.rs2_cell (V.hD _ Q0) (zbD (g := zci) (d := 0) zcC Z O)) <| AU Z <| NSR <| MI Z <| G <| zak <| zaY ?_
  refine SR<|Q<|zaN Z Z<|G<|SQ<|zas (Vb (Dt De))<|zag<|SQ<|zak<|SR<|ML Z<|MU Z<|Q<|zb0 za9 ty5 Z (zhX (l.getD j 0))<|Q (zaI (z0:=[.int .u8 0]) V zb9 ty5 Z Z Kr (.c (v:=.int .u8 _) Z (h:=.nil)) fun w b21 V=>?_)
  refine Q (zaP (news:=[.int .u8 _]) V zb9 ty5 Z Z .u1 Z Z Z (zac (n:=1) (V.objL Q0) _ Z) Z Z O fun w ao5 cp6 V=>?_)
  replace V:=V.drop .u1
  refine AL Z<|NR<|MU Z<|Q<|zct (c:=l.getD j 0 / 256 ^ 1) Z Z De De (show l.getD j 0 / 256 = _ from znP _)<|AU Z<|G<|zah<|RG<|Q<|zaA Z Z Z zbt<|MI Z<|G<|zaD<|SQ<|RG ?_
  refine Q<|zaN Z Z<|G<|SQ<|zas (Vb (Dt De))<|zag<|SQ<|zak<|SR<|ML Z<|MU Z<|Q<|zb0 za9 ty5 Z (zda (l.getD j 0) 1)<|Q (zaI (z0:=[.int .u8 0]) V zb9 ty5 Z Z Kr (.c (v:=.int .u8 _) Z (h:=.nil)) fun w b21 V=>?_)
  refine Q (zaP (news:=[.int .u8 _]) V zb9 ty5 Z Z .u1 Z Z Z (zac (n:=1) (V.objL Q0) _ Z) Z Z O fun w ao7 cp8 V=>?_)
  replace V:=V.drop .u1
  refine AL Z<|G<|zaj [(3,.slice _ _ _),(5,.int .u32 _),(10,.slice _ _ _),(11,.int .i64 _),(12,.int .i64 _),(16,.int .i64 _)] E6 fun f=>RG<|MU Z<|Q<|zct (c:=l.getD j 0 / 256 ^ 2) Z Z De De (show l.getD j 0 / 256 ^ 1 / 256 = _ from zgr _ _)<|AU Z<|G<|zah<|RG<|Q<|zaA Z Z Z zbt<|MI Z<|G<|zaD<|SQ ?_
  refine RG<|Q<|zaN Z Z<|G<|SQ<|zas (Vb (Dt De))<|zag<|SQ<|zak<|SR<|ML Z<|MU Z<|Q<|zb0 za9 ty5 Z (zda (l.getD j 0) 2)<|Q (zaI (z0:=[.int .u8 0]) V zb9 ty5 Z Z Kr (.c (v:=.int .u8 _) Z (h:=.nil)) fun w b21 V=>?_)
  refine Q (zaP (news:=[.int .u8 _]) V zb9 ty5 Z Z .u1 Z Z Z (zac (n:=1) (V.objL Q0) _ Z) Z Z O fun w ao9 cp10 V=>?_)
  replace V:=V.drop .u1
  refine AL Z<|NR<|MU Z<|Q<|zct (c:=l.getD j 0 / 256 ^ 3) Z Z De De (show l.getD j 0 / 256 ^ 2 / 256 = _ from zgr _ _)<|AU Z<|G<|zah<|RG<|Q<|zaA Z Z Z zbt<|MI Z<|G<|zaD<|SQ<|RG ?_
  refine Q<|zaN Z Z<|G<|SQ<|zas (Vb (Dt De))<|zag<|SQ<|zak<|SR<|ML Z<|MU Z<|Q<|zb0 za9 ty5 Z (zda (l.getD j 0) 3)<|Q (zaI (z0:=[.int .u8 0]) V zb9 ty5 Z Z Kr (.c (v:=.int .u8 _) Z (h:=.nil)) fun w b21 V=>?_)
  refine Q (zaP (news:=[.int .u8 _]) V zb9 ty5 Z Z .u1 Z Z Z (zac (n:=1) (V.objL Q0) _ Z) Z Z O fun w ao11 cp12 V=>?_)
  replace V:=V.drop .u1
  refine AL Z<|G<|zaj [(3,.slice _ _ _),(5,.int .u32 _),(10,.slice _ _ _),(11,.int .i64 _),(12,.int .i64 _),(16,.int .i64 _)] E6 fun f=>RG<|MU Z<|Q<|zct (c:=l.getD j 0 / 256 ^ 4) Z Z De De (show l.getD j 0 / 256 ^ 3 / 256 = _ from zgr _ _)<|AU Z<|G<|zah<|RG<|Q<|zaA Z Z Z zbt<|MI Z<|G<|zaD<|SQ ?_
  refine RG<|Q<|zaN Z Z<|G<|SQ<|zal (Vb (Df De))<|zaK (id:=2) Z<|zah<|RG<|Q<|zaA Z Z Z zbt<|MI Z<|G<|zaD ?_
  exact ih3 ((j + 1,ao11,cp12)) _ w (by (try dsimp only); omega) (by (try dsimp only); rw [zjD (by omega)]; exact V) (by (try dsimp only); omega) E2 ⟨rfl,(Vi (by (try dsimp only); omega)),trivial⟩
 obtain rfl:j = l.length:=by omega
 refine zaK (id:=0) Z<|SR<|ML Z<|AL Z<|G<|zai func56 Z (TP (v:=.slice _ _ _) Z) ?_
 replace V:=V.pick (.k1 .nil)
 rw [List.take_of_length_le (by rw [zbc]; exact Nat.le_refl _)] at V
 rw [zbc]
 exact ⟨_,_,Z,V.noD⟩
theorem zuF (l:List Int) (ao:Option Addr) (cp:Nat) (w:World) (hA:(Res.rs ao l.length 1 (l.flatMap zci)).holds w) (hl:l.length ≤ 35184372088832):Ret prog 223 #[.slice ao l.length cp] w (fun v w'=>v = textV (zdH l) ∧ St w NoM [] [] w'):=by
 refine zav (args:=[.slice ao l.length cp]) func223 Z Z Z ?_
 have V:St w NoM [] [Res.rs ao l.length 1 (l.flatMap zci)] w:=St.init_D hA
 clear hA
 refine SR<|AS Z<|AI Z<|AI Z<|G<|zhg<|SR<|AL Z<|NSR<|AI Z<|G ?_
 refine SQ<|zfN<|SQ<|SR<|ML Z<|Q<|zaH (rest:=[]) zcn Z<|MI Z<|G<|zak<|zaY ?_
 replace V:=V.pushNil 5 1
 refine zaZ [(9,.slice _ _ _),(10,.int .i64 _)] E2 (fun (q:Nat × Option Addr × Nat)=>[(5,.slice q.2.1 (4 * q.1) q.2.2),(6,.int .i64 (-1)),(11,.int .i64 (q.1:Int))]) (fun (q:Nat × Option Addr × Nat)=>[Res.sl q.2.1 (4 * q.1) q.2.2 5 1 (((zbk l).take (4 * q.1)).flatMap byC)]) (fun (q:Nat × Option Addr × Nat)=>q.1 ≤ l.length ∧ ∀ r,r < 4 * q.1 → (zbk l).getD r 0 ≠ 0) (fun (q:Nat × Option Addr × Nat)=>l.length - q.1) ((0,none,0)) (by (try dsimp only); rw [Nat.mul_zero,List.take_zero]; exact V) ⟨Nat.zero_le _,fun r hr=>absurd hr (by (try dsimp only); omega)⟩ E3 ?_
 intro ⟨j,aq,cq⟩ f w V hJ ih1
 replace V:St _ _ ([Res.sl aq (4 * j) cq 5 1 (((zbk l).take (4 * j)).flatMap byC)] ++ []) _ _:=V
 replace hJ:j ≤ l.length ∧ ∀ r,r < 4 * j → (zbk l).getD r 0 ≠ 0:=hJ
 refine za6 (sl:=[(5,.slice aq (4 * j) cq),(6,.int .i64 (-1)),(11,.int .i64 (j:Int))]) E3<|SR<|Q<|zaN Z Z<|G<|SQ<|zab Z (fun g2=>?_) (fun g2=>?_)
 ·refine zag <| SQ <| zak <| SR <| MI Z <| Q <| zaR zcn za9 (V.hD _ Q0) Z Z O O <| Q <| zae (v := .int .u32 _) za9 Z Z (Res.rs2_cell (V.hD _ Q0) (zbD (g := zci) (d := 0) zcC Z O)) <| AI Z <| AU Z <| NSR <| MI Z <| G ?_
  refine zak<|zaY<|SR<|Q<|zaN Z Z<|G<|SQ<|zas (Vb (Dt De))<|zag<|SQ<|zak<|SQ<|SR<|MU Z ?_
  refine Q<|zb0 za9 ty5 Z (zhX (l.getD j 0))<|Q<|zam Z Z<|G<|zab Z (fun g3=>?_) (fun g3=>?_)
  ·refine SQ <| SR <| MU Z <| Q <| zaF Z Z <| G <| zab Z (fun g4 => ?_) (fun g4 => ?_)
   ·refine SR <| AS Z <| AI Z <| AI Z <| G <| zbe func223 Z (TP (v := str _) Z) (TP (v := .int .i64 _) Z) (TP (v := .int .i64 _) Z) ?_
    rw [zhc (j:=j) (t:=0) (by omega) (by decide) g3 hJ.2 (by simpa using g4)]
    exact ⟨Z,V.pure⟩
   refine zag<|SR<|MI Z<|Q<|zaA Z Z Z zbt<|AI Z<|G<|zaK (id:=0) Z<|SQ<|SR<|MI Z<|Q<|zaN Z Z<|G<|zab Z (fun g5=>?_) (fun g5=>?_)
   ·exfalso
    omega
   refine zag<|SR<|ML rfl<|Q<|zcm (l:=(zbk l).take (4 * j + 0)) zb9 ty5 ty9 rfl (by rw [List.length_take,zbc]; omega) (Res.rs_of_sl (V.hL _ Q0)) rfl<|MI rfl<|AS rfl<|AI rfl<|AI rfl<|G<|zbe func223 rfl (TP (v:=str _) rfl) (TP (v:=.int .i64 _) rfl) (TP (v:=.int .i64 _) rfl) ?_
   rw [ziH (j:=j) (t:=0) (by omega) (by decide) g3 hJ.2 (by simpa using g4)]
   exact ⟨Z,V.pure⟩
  refine zag<|SR<|ML Z<|MU Z<|Q<|zb0 za9 ty5 Z (zhX (l.getD j 0))<|Q (zaI (z0:=[.int .u8 0]) V zb9 ty5 Z Z Kr (.c (v:=.int .u8 _) Z (h:=.nil)) fun w b28 V=>?_)
  refine Q (zaP (news:=[.int .u8 _]) V zb9 ty5 Z Z .u1 Z Z Z (zac (n:=1) (V.objL Q0) _ Z) Z Z O fun w ao6 cp7 V=>?_)
  replace V:=V.drop .u1
  refine AL Z<|NR<|MU Z<|Q<|zct (c:=l.getD j 0 / 256 ^ 1) Z Z De De (show l.getD j 0 / 256 = _ from znP _)<|AU Z<|G<|zah<|zaj [(5,.slice _ _ _),(6,.int .i64 _),(7,.int .i64 _),(8,.int .u32 _),(9,.slice _ _ _),(10,.int .i64 _),(11,.int .i64 _),(16,.int .i64 _)] E8 fun f=>RG<|Q<|zaA Z Z Z zbt<|MI Z<|G<|zaD<|SQ ?_
  refine RG<|Q<|zaN Z Z<|G<|SQ<|zas (Vb (Dt De))<|zag<|SQ<|zak<|SQ<|SR<|MU Z<|Q<|zb0 za9 ty5 Z (zda (l.getD j 0) 1)<|Q<|zam Z Z<|G ?_
  refine zab Z (fun g8=>?_) (fun g8=>?_)
  ·refine SQ <| SR <| MU Z <| Q <| zaF Z Z <| G <| zab Z (fun g9 => ?_) (fun g9 => ?_)
   ·refine SR <| AS Z <| AI Z <| AI Z <| G <| zbe func223 Z (TP (v := str _) Z) (TP (v := .int .i64 _) Z) (TP (v := .int .i64 _) Z) ?_
    rw [zhc (j:=j) (t:=1) (by omega) (by decide) g8 (zcy hJ.2 (nzT (j:=j) (t:=0) (by omega) (by decide) g3)) (by simpa using g9)]
    exact ⟨Z,V.pure⟩
   refine zag<|SR<|MI Z<|Q<|zaA Z Z Z zbt<|AI Z<|G<|zaK (id:=0) Z<|SQ<|SR<|MI Z<|Q<|zaN Z Z<|G<|zab Z (fun g10=>?_) (fun g10=>?_)
   ·exfalso
    omega
   refine zag<|SR<|ML rfl<|Q<|zcm (l:=(zbk l).take (4 * j + 1)) zb9 ty5 ty9 rfl (by rw [List.length_take,zbc]; omega) (Res.rs_of_sl (V.hL _ Q0)) (by rw [show 4 * j + 1 = 4 * j + 0 + 1 from rfl,zeW (t:=0) (by omega) (by decide)]; try rfl)<|MI rfl<|AS rfl<|AI rfl<|AI rfl<|G<|zbe func223 rfl (TP (v:=str _) rfl) (TP (v:=.int .i64 _) rfl) (TP (v:=.int .i64 _) rfl) ?_
   rw [ziH (j:=j) (t:=1) (by omega) (by decide) g8 (zcy hJ.2 (nzT (j:=j) (t:=0) (by omega) (by decide) g3)) (by simpa using g9)]
   exact ⟨Z,V.pure⟩
  refine zag<|SR<|ML Z<|MU Z<|Q<|zb0 za9 ty5 Z (zda (l.getD j 0) 1)<|Q (zaI (z0:=[.int .u8 0]) V zb9 ty5 Z Z Kr (.c (v:=.int .u8 _) Z (h:=.nil)) fun w b28 V=>?_)
  refine Q (zaP (news:=[.int .u8 _]) V zb9 ty5 Z Z .u1 Z Z Z (zac (n:=1) (V.objL Q0) _ Z) Z Z O fun w ao11 cp12 V=>?_)
  replace V:=V.drop .u1
  refine AL Z<|NR<|MU Z<|Q<|zct (c:=l.getD j 0 / 256 ^ 2) Z Z De De (show l.getD j 0 / 256 ^ 1 / 256 = _ from zgr _ _)<|AU Z<|G<|zah<|RG<|Q<|zaA Z Z Z zbt<|MI Z<|G<|zaD<|SQ<|RG ?_
  refine Q<|zaN Z Z<|G<|SQ<|zas (Vb (Dt De))<|zag<|SQ<|zak<|SQ<|SR<|MU Z<|Q<|zb0 za9 ty5 Z (zda (l.getD j 0) 2)<|Q<|zam Z Z<|G<|zaj [(5,.slice _ _ _),(6,.int .i64 _),(7,.int .i64 _),(8,.int .u32 _),(9,.slice _ _ _),(10,.int .i64 _),(11,.int .i64 _),(16,.int .i64 _),(20,.bool _)] E9 (fun f=>?_)
  refine zab Z (fun g13=>?_) (fun g13=>?_)
  ·refine SQ <| SR <| MU Z <| Q <| zaF Z Z <| G <| zab Z (fun g14 => ?_) (fun g14 => ?_)
   ·refine SR <| AS Z <| AI Z <| AI Z <| G <| zbe func223 Z (TP (v := str _) Z) (TP (v := .int .i64 _) Z) (TP (v := .int .i64 _) Z) ?_
    rw [zhc (j:=j) (t:=2) (by omega) (by decide) g13 (zcy (zcy hJ.2 (nzT (j:=j) (t:=0) (by omega) (by decide) g3)) (nzT (j:=j) (t:=1) (by omega) (by decide) g8)) (by simpa using g14)]
    exact ⟨Z,V.pure⟩
   refine zag<|SR<|MI Z<|Q<|zaA Z Z Z zbt<|AI Z<|G<|zaK (id:=0) Z<|SQ<|SR<|MI Z<|Q<|zaN Z Z<|G<|zab Z (fun g15=>?_) (fun g15=>?_)
   ·exfalso
    omega
   refine zag<|SR<|ML rfl<|Q<|zcm (l:=(zbk l).take (4 * j + 2)) zb9 ty5 ty9 rfl (by rw [List.length_take,zbc]; omega) (Res.rs_of_sl (V.hL _ Q0)) (by rw [show 4 * j + 2 = 4 * j + 1 + 1 from rfl,zeW (t:=1) (by omega) (by decide),show 4 * j + 1 = 4 * j + 0 + 1 from rfl,zeW (t:=0) (by omega) (by decide)]; try rfl)<|MI rfl<|AS rfl<|AI rfl<|AI rfl<|G<|zbe func223 rfl (TP (v:=str _) rfl) (TP (v:=.int .i64 _) rfl) (TP (v:=.int .i64 _) rfl) ?_
   rw [ziH (j:=j) (t:=2) (by omega) (by decide) g13 (zcy (zcy hJ.2 (nzT (j:=j) (t:=0) (by omega) (by decide) g3)) (nzT (j:=j) (t:=1) (by omega) (by decide) g8)) (by simpa using g14)]
   exact ⟨Z,V.pure⟩
  refine zag<|SR<|ML Z<|MU Z<|Q<|zb0 za9 ty5 Z (zda (l.getD j 0) 2)<|Q (zaI (z0:=[.int .u8 0]) V zb9 ty5 Z Z Kr (.c (v:=.int .u8 _) Z (h:=.nil)) fun w b28 V=>?_)
  refine Q (zaP (news:=[.int .u8 _]) V zb9 ty5 Z Z .u1 Z Z Z (zac (n:=1) (V.objL Q0) _ Z) Z Z O fun w ao16 cp17 V=>?_)
  replace V:=V.drop .u1
  refine AL Z<|NR<|MU Z<|Q<|zct (c:=l.getD j 0 / 256 ^ 3) Z Z De De (show l.getD j 0 / 256 ^ 2 / 256 = _ from zgr _ _)<|AU Z<|G<|zah<|RG<|Q<|zaA Z Z Z zbt<|MI Z<|G<|zaD<|SQ<|RG ?_
  refine Q<|zaN Z Z<|G<|SQ<|zas (Vb (Dt De))<|zag<|SQ<|zak<|SQ<|SR<|MU Z<|Q<|zb0 za9 ty5 Z (zda (l.getD j 0) 3)<|Q<|zam Z Z<|G<|zab Z (fun g18=>?_) (fun g18=>?_)
  ·refine SQ <| SR <| MU Z <| Q <| zaF Z Z <| G <| zab Z (fun g19 => ?_) (fun g19 => ?_)
   ·refine SR <| AS Z <| AI Z <| AI Z <| G <| zbe func223 Z (TP (v := str _) Z) (TP (v := .int .i64 _) Z) (TP (v := .int .i64 _) Z) ?_
    rw [zhc (j:=j) (t:=3) (by omega) (by decide) g18 (zcy (zcy (zcy hJ.2 (nzT (j:=j) (t:=0) (by omega) (by decide) g3)) (nzT (j:=j) (t:=1) (by omega) (by decide) g8)) (nzT (j:=j) (t:=2) (by omega) (by decide) g13)) (by simpa using g19)]
    exact ⟨Z,V.pure⟩
   refine zag<|SR<|MI Z<|Q<|zaA Z Z Z zbt<|AI Z<|G<|zaK (id:=0) Z<|zaj [(5,.slice _ _ _),(6,.int .i64 _)] E2 fun f=>SQ<|SR<|MI Z<|Q<|zaN Z Z<|G ?_
   refine zab Z (fun g20=>?_) (fun g20=>?_)
   ·exfalso
    omega
   refine zag<|SR<|ML rfl<|Q<|zcm (l:=(zbk l).take (4 * j + 3)) zb9 ty5 ty9 rfl (by rw [List.length_take,zbc]; omega) (Res.rs_of_sl (V.hL _ Q0)) (by rw [show 4 * j + 3 = 4 * j + 2 + 1 from rfl,zeW (t:=2) (by omega) (by decide),show 4 * j + 2 = 4 * j + 1 + 1 from rfl,zeW (t:=1) (by omega) (by decide),show 4 * j + 1 = 4 * j + 0 + 1 from rfl,zeW (t:=0) (by omega) (by decide)]; try rfl)<|MI rfl<|AS rfl<|AI rfl<|AI rfl<|G<|zbe func223 rfl (TP (v:=str _) rfl) (TP (v:=.int .i64 _) rfl) (TP (v:=.int .i64 _) rfl) ?_
   rw [ziH (j:=j) (t:=3) (by omega) (by decide) g18 (zcy (zcy (zcy hJ.2 (nzT (j:=j) (t:=0) (by omega) (by decide) g3)) (nzT (j:=j) (t:=1) (by omega) (by decide) g8)) (nzT (j:=j) (t:=2) (by omega) (by decide) g13)) (by simpa using g19)]
   exact ⟨Z,V.pure⟩
  refine zag<|SR<|ML Z<|MU Z<|Q<|zb0 za9 ty5 Z (zda (l.getD j 0) 3)<|Q (zaI (z0:=[.int .u8 0]) V zb9 ty5 Z Z Kr (.c (v:=.int .u8 _) Z (h:=.nil)) fun w b28 V=>?_)
  refine Q (zaP (news:=[.int .u8 _]) V zb9 ty5 Z Z .u1 Z Z Z (zac (n:=1) (V.objL Q0) _ Z) Z Z O fun w ao21 cp22 V=>?_)
  replace V:=V.drop .u1
  refine AL Z<|G<|zaj [(5,.slice _ _ _),(6,.int .i64 _),(7,.int .i64 _),(8,.int .u32 _),(9,.slice _ _ _),(10,.int .i64 _),(11,.int .i64 _),(16,.int .i64 _)] E8 fun f=>RG<|MU Z<|Q<|zct (c:=l.getD j 0 / 256 ^ 4) Z Z De De (show l.getD j 0 / 256 ^ 3 / 256 = _ from zgr _ _)<|AU Z<|G<|zah<|RG<|Q<|zaA Z Z Z zbt<|MI Z<|G<|zaD<|SQ ?_
  refine RG<|Q<|zaN Z Z<|G<|SQ<|zal (Vb (Df De))<|zaK (id:=2) Z<|zah<|RG<|Q<|zaA Z Z Z zbt<|MI Z<|G<|zaD ?_
  exact ih1 ((j + 1,ao21,cp22)) _ w (by (try dsimp only); omega) (by (try dsimp only); rw [zjD (by omega)]; exact V) (⟨by (try dsimp only); omega,(zcy (zcy (zcy (zcy hJ.2 (nzT (j:=j) (t:=0) (by omega) (by decide) g3)) (nzT (j:=j) (t:=1) (by omega) (by decide) g8)) (nzT (j:=j) (t:=2) (by omega) (by decide) g13)) (nzT (j:=j) (t:=3) (by omega) (by decide) g18))⟩) E2 ⟨rfl,rfl,(Vi (by (try dsimp only); omega)),trivial⟩
 obtain rfl:j = l.length:=by omega
 refine zaK (id:=0) Z<|SQ<|SR<|MI Z<|Q<|zaN Z Z<|G<|zab Z (fun g23=>?_) (fun g23=>?_)
 ·refine SR <| AS Z <| AI Z <| AI Z <| G <| zbe func223 Z (TP (v := str _) Z) (TP (v := .int .i64 _) Z) (TP (v := .int .i64 _) Z) ?_
  rw [zrj (fun r hr=>hJ.2 r hr)]
  exact ⟨Z,V.pure⟩
 exfalso
 omega
end Go.SK
namespace Go.SK
open Go Go.Proofs Go.Proofs.Tryz
theorem ty228:TyF prog 228 (.struct (zbm prog 228)) 2 32 [.slice none 0 0,.int .i64 0]:=zbp Kr Kr
theorem stf228:zdm prog 228 [(0,1),(1,1)]:=⟨zbm prog 228,Kr,fun w=>Kr⟩
theorem zko:TyF prog 172 (.pointer 228) 1 8 [.pointer none]:=zbp Kr Kr
theorem zhx:FldF prog 228 0 0:=FldF.of (n:=0) Kr
theorem zdg:FldF prog 228 1 1:=FldF.of (n:=0) Kr
open Go.RowKit
theorem zqU (l:List Int) (ao:Option Addr) (cp:Nat) (w:World) (hA:(Res.rs ao l.length 1 (l.flatMap zci)).holds w) (hl:l.length ≤ 35184372088832):Ret prog 102 #[.slice ao l.length cp] w (fun v w'=>∃ b ro rc,v = .pointer (some ⟨b,0,none⟩) ∧ St w NoM [RdR 228 22 b ro rc l 0] [] w'):=by
 refine zav (args:=[.slice ao l.length cp]) func102 Z Z Z ?_
 have V:St w NoM [] [Res.rs ao l.length 1 (l.flatMap zci)] w:=St.init_D hA
 clear hA
 refine SR<|Q<|zap (v:=_) Z<|NSR<|ML Z ?_
 replace V:=V.pushNil 22 1
 refine Q (zc3 V zcn za9 Z Z .u0 Z Z (V.hD _ Q0) (zfX (fun _=>rfl) _) Z O fun w aoW cpW V=>?_)
 rw [List.nil_append,Nat.zero_add l.length] at V
 rw [Nat.zero_add l.length]
 refine Q (zaf ty228 stf228 (.c (v:=.slice _ _ _) Z (h:=.nil)) ?_)
 refine Q<|zbi (v:=gLI _ _ _ _) V Z Z fun w b6 V=>AP Z<|G<|zai func102 Z (TP (v:=Pp _ _) Z) ?_
 replace V:=V.pick (.k2 .nil)
 exact ⟨_,_,_,Z,(St.pack (L1:=[_,_]) (L2:=[]) V).noD⟩
theorem zf2 (b:Nat) (ao:Option Addr) (cp:Nat) (l:List Int) (a:Nat) (w:World) (hR:(RdR 228 22 b ao cp l a).holds w) (hl:l.length ≤ 35184372088832) (ha:a ≤ l.length):Ret prog 105 #[.pointer (some ⟨b,0,none⟩)] w (fun v w'=>v = .int .i64 ((l.length:Int) - a) ∧ St w NoM [] [] w'):=by
 refine zav (args:=[.pointer (some ⟨b,0,none⟩)]) func105 Z Z Z ?_
 have V:St w NoM [] [Res.row b 228 [.slice ao l.length cp,.int .i64 (a:Int)]] w:=St.init_D (RdR.row hR)
 refine SR<|AI Z<|G<|SQ<|SR<|MP Z<|Q<|ze5 zko Z Z<|G<|zal (Vb (Z:false = _))<|zag<|SQ<|zaC [] V (bs:=[0,1,3,7,15,0,32,96,224,511,1023]) (ds:=[some 5,some 6,some 7,some 8,some 9,some 10,some 11,some 12,some 13,some 14,some 2]) ⟨Kr,Kr,Kr⟩ (fun tab1=>?_)
 refine DO tab1 1 (fun _ _ _ hc=>zad (v:=Pp _ _) (hc.old Z Z Z) hc.z)<|DO tab1 2 (fun _ _ _ hc=>zan (hc.d 0 Z Z Z Z) hc.z)<|DO tab1 3 (fun _ _ _ hc=>zaa zhx (hc.d 1 Z Z Z Z) hc.z)<|DO tab1 4 (fun _ _ _ hc=>zae (v:=.slice _ _ _) zcn Z (hc.d 2 Z Z Z Z) (hc.st.cellD Q0 Z) hc.z)<|DO tab1 5 (fun _ _ _ hc=>zaH (rest:=[]) zcn (hc.d 3 Z Z Z Z) hc.z)<|DO tab1 6 (fun _ _ _ hc=>zad (v:=Pp _ _) (hc.old Z Z Z) hc.z)<|DO tab1 7 (fun _ _ _ hc=>zan (hc.d 5 Z Z Z Z) hc.z)<|DO tab1 8 (fun _ _ _ hc=>zaa zdg (hc.d 6 Z Z Z Z) hc.z)<|DO tab1 9 (fun _ _ _ hc=>zae (v:=.int .i64 _) ty3 Z (hc.d 7 Z Z Z Z) (hc.st.cellD Q0 Z) hc.z)<|RunD.fin zaw tab1 V Z (fun f2 w R5 hs3 hd4 hr6 V=>?_)
 obtain ⟨h5_,r0⟩:=hd4 0 5 rfl rfl
 obtain ⟨h6_,r1⟩:=hd4 1 6 rfl rfl
 obtain ⟨h7_,r2⟩:=hd4 2 7 rfl rfl
 obtain ⟨h8_,r3⟩:=hd4 3 8 rfl rfl
 obtain ⟨h9_,r4⟩:=hd4 4 9 rfl rfl
 obtain ⟨h10_,r5⟩:=hd4 5 10 rfl rfl
 obtain ⟨h11_,r6⟩:=hd4 6 11 rfl rfl
 obtain ⟨h12_,r7⟩:=hd4 7 12 rfl rfl
 obtain ⟨h13_,r8⟩:=hd4 8 13 rfl rfl
 simp only [rg9,Fc,Fn,Mc,Mn,r0,r1,r2,r3,r4,r5,r6,r7,r8,Na,An,Ca] at V
 refine zaz (sl:=[(9,.int .i64 _),(13,.int .i64 _)]) ⟨h9_,h13_,trivial⟩ ?_
 clear hs3 hd4 hr6 tab1
 refine Q<|zbu Z Z Z zbt<|AI Z<|G<|zai func105 Z (TP (v:=.int .i64 _) Z) ?_
 exact ⟨Z,V.pure⟩
end Go.SK
namespace Go.SK
open Go Go.Proofs Go.Proofs.Tryz
theorem znL:zaG prog 105:=⟨f105,_,func105,Kr,rfl⟩
open Go.RowKit
theorem zmo (b:Nat) (ao:Option Addr) (cp:Nat) (l:List Int) (a:Nat) (w:World) (hR:(RdR 228 22 b ao cp l a).holds w) (hl:l.length ≤ 35184372088832) (hlt:a < l.length):Ret prog 200 #[.pointer (some ⟨b,0,none⟩),.int .i64 0,.int .i64 0] w (fun v w'=>∃ ro rc,v = .tuple #[.slice ro 1 rc,str [],.int .i64 0] ∧ St w (RdR 228 22 b ao cp l a).foot [RdR 228 22 b ao cp l (a + 1),Res.sl ro 1 rc 22 1 ([l.getD a 0].flatMap zci)] [] w'):=by
 refine zav (args:=[.pointer (some ⟨b,0,none⟩),.int .i64 0,.int .i64 0]) func200 Z Z Z ?_
 have V:St w (RdR 228 22 b ao cp l a).foot [RdR 228 22 b ao cp l a] [] w:=St.enter1 hR (fun d hd=>by cases hd) (fun d hd=>by cases hd)
 replace V:St _ _ [_,_] _ _:=V.unpack
 have hcap:l.length ≤ cp:=Res.sl_cap (V.hL _ Q1)
 have hsepR:=hR.2
 refine SR<|AL Z<|AS Z<|AI Z<|G<|SQ<|SR<|MP Z<|Q<|ze5 zko Z Z<|G<|zal (Vb (Z:false = _))<|zag<|SQ ?_
 refine RG<|AS Z<|AI Z<|G<|SQ<|SR<|MI Z<|G<|zak<|SR<|Q<|zam Z Z<|AB Z<|G ?_
 refine zab Z (fun g1=>?_) (fun g1=>?_)
 ·refine RG <| AI Z <| G <| zah <| SQ <| SR <| MI Z <| Q <| zam Z Z <| MB Z <| zau (d := 39) Z (fun g2 => ?_) (fun g2 => ?_)
  ·refine TK (t := 39) rfl (Vb (Dt g2)) <| zad (v := .int .i64 _) rfl <| TK (t := 39) rfl (Vb (Dt g2)) <| zad (v := Pp _ _) rfl <| TK (t := 39) rfl (Vb (Dt g2)) (zao (v1 := Pp _ _) znL rfl rfl ((zf2 b _ _ l a _ ⟨(fun r hr => by cases hr with | head => exact (V.hL _ Q0) | tail _ hr => cases hr with | head => exact (V.hL _ Q1) | tail _ h => cases h), hsepR⟩ O O).mono fun v w hp => ?_))
   obtain ⟨rfl,hp⟩:=hp
   replace V:=V.keepc hp
   refine TK (t:=39) Z (Vb (Dt g2))<|zbI Z Z<|Q<|zaB (u:=.bool _) (Vb (Dt g2)) Z<|G<|zaj [(0,Pp _ _),(2,.int .i64 _),(9,str _),(10,.int .i64 _),(44,.bool _)] E5 fun f=>zab Z (fun g3=>?_) (fun g3=>?_)
   ·exfalso
    omega
   refine zag<|SQ<|SR<|MI Z<|Q<|zaF Z Z<|G<|zab Z (fun g4=>?_) (fun g4=>?_)
   ·exfalso
    exact g4 Z
   refine zag<|SQ<|zaC [] V (bs:=[0,1,3,7,0,16,48,112,0,256,768,1792,0,7936,16383,32767,65535]) (ds:=[some 48,some 49,some 50,some 51,some 52,some 53,some 54,some 55,some 56,some 57,some 58,some 59,some 60,some 61,some 62,some 63,some 11]) ⟨Kr,Kr,Kr⟩ (fun tab5=>?_)
   refine DO tab5 1 (fun _ _ _ hc=>zad (v:=Pp _ _) (hc.old Z Z Z) hc.z)<|DO tab5 2 (fun _ _ _ hc=>zan (hc.d 0 Z Z Z Z) hc.z)<|DO tab5 3 (fun _ _ _ hc=>zaa zhx (hc.d 1 Z Z Z Z) hc.z)<|DO tab5 4 (fun _ _ _ hc=>zae (v:=.slice _ _ _) zcn Z (hc.d 2 Z Z Z Z) (hc.st.cellL (Ar Q0) Z) hc.z)<|DO tab5 5 (fun _ _ _ hc=>zad (v:=Pp _ _) (hc.old Z Z Z) hc.z)<|DO tab5 6 (fun _ _ _ hc=>zan (hc.d 4 Z Z Z Z) hc.z)<|DO tab5 7 (fun _ _ _ hc=>zaa zdg (hc.d 5 Z Z Z Z) hc.z)<|DO tab5 8 (fun _ _ _ hc=>zae (v:=.int .i64 _) ty3 Z (hc.d 6 Z Z Z Z) (hc.st.cellL (Ar Q0) Z) hc.z)<|DO tab5 9 (fun _ _ _ hc=>zad (v:=Pp _ _) (hc.old Z Z Z) hc.z)<|DO tab5 10 (fun _ _ _ hc=>zan (hc.d 8 Z Z Z Z) hc.z)<|DO tab5 11 (fun _ _ _ hc=>zaa zdg (hc.d 9 Z Z Z Z) hc.z)<|DO tab5 12 (fun _ _ _ hc=>zae (v:=.int .i64 _) ty3 Z (hc.d 10 Z Z Z Z) (hc.st.cellL (Ar Q0) Z) hc.z)<|DO tab5 13 (fun _ _ _ hc=>zad (v:=.int .i64 _) (hc.old Z Z Z) hc.z)<|DO tab5 14 (fun _ _ _ hc=>zaA (hc.d 11 Z Z Z Z) (hc.d 12 Z Z Z Z) Z zbt hc.z)<|RunD.fin zaw tab5 V Z (fun f6 w R9 hs7 hd8 hr10 V=>?_)
   obtain ⟨h48_,r0⟩:=hd8 0 48 rfl rfl
   obtain ⟨h49_,r1⟩:=hd8 1 49 rfl rfl
   obtain ⟨h50_,r2⟩:=hd8 2 50 rfl rfl
   obtain ⟨h51_,r3⟩:=hd8 3 51 rfl rfl
   obtain ⟨h52_,r4⟩:=hd8 4 52 rfl rfl
   obtain ⟨h53_,r5⟩:=hd8 5 53 rfl rfl
   obtain ⟨h54_,r6⟩:=hd8 6 54 rfl rfl
   obtain ⟨h55_,r7⟩:=hd8 7 55 rfl rfl
   obtain ⟨h56_,r8⟩:=hd8 8 56 rfl rfl
   obtain ⟨h57_,r9⟩:=hd8 9 57 rfl rfl
   obtain ⟨h58_,r10⟩:=hd8 10 58 rfl rfl
   obtain ⟨h59_,r11⟩:=hd8 11 59 rfl rfl
   obtain ⟨h60_,r12⟩:=hd8 12 60 rfl rfl
   obtain ⟨h61_,r13⟩:=hd8 13 61 rfl rfl
   simp only [zyR,Fc,Fn,Mc,Mn,r0,r1,r2,r3,r4,r5,r6,r7,r8,r9,r10,r11,r12,r13,Na,An,Ca] at V
   refine zaz (sl:=[(0,Pp _ _),(2,.int .i64 _),(9,str _),(51,.slice _ _ _),(55,.int .i64 _),(61,.int .i64 _)]) ⟨(hs7 0 Z).trans Z,(hs7 2 Z).trans Z,(hs7 9 Z).trans Z,h51_,h55_,h61_,trivial⟩ ?_
   clear hs7 hd8 hr10 tab5
   refine Q (ziv (lo:=a) (hi:=a + 1) zcn za9 Z Z Z Z Z O O ?_)
   replace V:=V.pushNil 22 1
   refine Q (zc3 V zcn za9 Z Z .u0 Z Z (rs_one (Res.rs_of_sl (V.hL _ Q2)) hlt hcap) (zfX (fun _=>rfl) _) Z O fun w aoN cpN V=>?_)
   rw [show 0 + (a + 1 - a) = 1 by omega] at V ⊢
   refine AL Z<|G<|zaj [(0,Pp _ _),(2,.int .i64 _),(9,str _),(11,.slice _ _ _)] E4 fun f=>SR<|MP Z<|Q<|zan Z<|Q<|zaa zdg Z<|Q<|zae (v:=.int .i64 _) ty3 Z Z (V.cellL Q1 Z)<|MI Z<|Q<|zaA Z Z Z zbt<|Q<|zan Z<|Q<|zaa zdg Z<|Q (SO (v:=.int .i64 _) V ty3 Z Z .u1 fun w V=>?_)
   refine NSR<|ML Z<|MS Z<|AL Z<|AS Z<|AI Z<|G<|zbe func200 Z (TP (v:=.slice _ _ _) Z) (TP (v:=str _) Z) (TP (v:=.int .i64 _) Z) ?_
   replace V:=V.pick (.c .u1 (.c .u1 (.k1 .nil)))
   exact ⟨_,_,Z,(St.pack (L1:=[_,_]) (L2:=[_]) V)⟩
  exfalso
  exact g2 Z
 exfalso
 exact g1 Z
theorem zn3 (b:Nat) (ao:Option Addr) (cp:Nat) (l:List Int) (a:Nat) (w:World) (hR:(RdR 228 22 b ao cp l a).holds w) (hl:l.length ≤ 35184372088832) (hlt:a = l.length):Ret prog 200 #[.pointer (some ⟨b,0,none⟩),.int .i64 0,.int .i64 0] w (fun v w'=>v = .tuple #[.slice none 0 0,str [],.int .i64 14] ∧ St w (RdR 228 22 b ao cp l a).foot [RdR 228 22 b ao cp l a] [] w'):=by
 refine zav (args:=[.pointer (some ⟨b,0,none⟩),.int .i64 0,.int .i64 0]) func200 Z Z Z ?_
 have V:St w (RdR 228 22 b ao cp l a).foot [RdR 228 22 b ao cp l a] [] w:=St.enter1 hR (fun d hd=>by cases hd) (fun d hd=>by cases hd)
 replace V:St _ _ [_,_] _ _:=V.unpack
 have hcap:l.length ≤ cp:=Res.sl_cap (V.hL _ Q1)
 have hsepR:=hR.2
 refine SR<|AL Z<|AS Z<|AI Z<|G<|SQ<|SR<|MP Z<|Q<|ze5 zko Z Z<|G<|zal (Vb (Z:false = _))<|zag<|SQ ?_
 refine RG<|AS Z<|AI Z<|G<|SQ<|SR<|MI Z<|G<|zak<|SR<|Q<|zam Z Z<|AB Z<|G ?_
 refine zab Z (fun g1=>?_) (fun g1=>?_)
 ·refine RG <| AI Z <| G <| zah <| SQ <| SR <| MI Z <| Q <| zam Z Z <| MB Z <| zau (d := 39) Z (fun g2 => ?_) (fun g2 => ?_)
  ·refine TK (t := 39) rfl (Vb (Dt g2)) <| zad (v := .int .i64 _) rfl <| TK (t := 39) rfl (Vb (Dt g2)) <| zad (v := Pp _ _) rfl <| TK (t := 39) rfl (Vb (Dt g2)) (zao (v1 := Pp _ _) znL rfl rfl ((zf2 b _ _ l a _ ⟨(fun r hr => by cases hr with | head => exact (V.hL _ Q0) | tail _ hr => cases hr with | head => exact (V.hL _ Q1) | tail _ h => cases h), hsepR⟩ O O).mono fun v w hp => ?_))
   obtain ⟨rfl,hp⟩:=hp
   replace V:=V.keepc hp
   refine TK (t:=39) Z (Vb (Dt g2))<|zbI Z Z<|Q<|zaB (u:=.bool _) (Vb (Dt g2)) Z<|G<|zaj [(0,Pp _ _),(2,.int .i64 _),(9,str _),(10,.int .i64 _),(44,.bool _)] E5 fun f=>zab Z (fun g3=>?_) (fun g3=>?_)
   ·refine RG <| AI Z <| G <| SQ <| SR <| MI Z <| Q <| zaF Z Z <| G <| zab Z (fun g4 => ?_) (fun g4 => ?_)
    ·refine SR <| MI Z <| AL Z <| AS Z <| AI Z <| G <| zbe func200 Z (TP (v := .slice _ _ _) Z) (TP (v := str _) Z) (TP (v := .int .i64 _) Z) ?_
     replace V:=V.pick (.k2 .nil)
     exact ⟨Z,(St.pack (L1:=[_,_]) (L2:=[]) V)⟩
    exfalso
    exact g4 De
   exfalso
   omega
  exfalso
  exact g2 Z
 exfalso
 exact g1 Z
end Go.SK
namespace Go.SK
open Go Go.Proofs Go.Proofs.Tryz
theorem zqB:zaG prog 200:=⟨f200,_,func200,Kr,rfl⟩
open Go.RowKit
theorem zj4 (b:Nat) (ao:Option Addr) (cp:Nat) (l:List Int) (a:Nat) (w:World) (hR:(RdR 228 22 b ao cp l a).holds w) (hl:l.length ≤ 35184372088832) (hlt:a < l.length):Ret prog 153 #[.pointer (some ⟨b,0,none⟩)] w (fun v w'=>v = .tuple #[.int .u32 (l.getD a 0),.int .i64 0] ∧ St w (RdR 228 22 b ao cp l a).foot [RdR 228 22 b ao cp l (a + 1)] [] w'):=by
 refine zav (args:=[.pointer (some ⟨b,0,none⟩)]) func153 Z Z Z ?_
 have V:St w (RdR 228 22 b ao cp l a).foot [RdR 228 22 b ao cp l a] [] w:=St.enter1 hR (fun d hd=>by cases hd) (fun d hd=>by cases hd)
 refine SR<|AU Z<|AI Z<|NSR<|MP Z<|Q (zbj (v1:=Pp _ _) (v2:=.int .i64 _) (v3:=.int .i64 _) zqB Z Z Z Z ((zmo _ _ _ l a _ (V.hL _ Q0) O hlt).mono fun v w hp=>?_))
 obtain ⟨roT,rcT,rfl,hp⟩:=hp
 replace V:St _ _ (_ :: _ :: _) _ _:=V.call1 hp
 refine Q<|zad (v:=.tuple #[.slice _ _ _,str _,.int .i64 _]) Z<|Q<|Ex (.slice _ _ _) Z Z<|Q<|Ex (str _) Z Z<|Q<|Ex (.int .i64 _) Z Z<|AL Z<|AS Z<|AI Z<|G<|SQ<|SR<|MI Z<|Q<|zaF Z Z<|G<|zab Z (fun g1=>?_) (fun g1=>?_)
 ·exfalso
  exact g1 Z
 refine zag<|SR<|ML Z ?_
 obtain ⟨bs2,rfl⟩:=Res.sl_some (V.hL _ Q1) O
 refine Q<|zbd zcn za9 rfl rfl (by omega) (by omega)<|Q<|zae (v:=.int .u32 _) za9 rfl rfl (Res.sl_cell (V.hL _ Q1) (zbD (g:=zci) (d:=0) zcC rfl (by simp)))<|AU rfl<|AI rfl<|G<|zaq func153 rfl (TP (v:=.int .u32 _) rfl) (TP (v:=.int .i64 _) rfl) ?_
 replace V:=V.pick (.k1 .nil)
 exact ⟨Z,V⟩
theorem zn4 (b:Nat) (ao:Option Addr) (cp:Nat) (l:List Int) (a:Nat) (w:World) (hR:(RdR 228 22 b ao cp l a).holds w) (hl:l.length ≤ 35184372088832) (hlt:a = l.length):Ret prog 153 #[.pointer (some ⟨b,0,none⟩)] w (fun v w'=>v = .tuple #[.int .u32 0,.int .i64 14] ∧ St w (RdR 228 22 b ao cp l a).foot [RdR 228 22 b ao cp l a] [] w'):=by
 refine zav (args:=[.pointer (some ⟨b,0,none⟩)]) func153 Z Z Z ?_
 have V:St w (RdR 228 22 b ao cp l a).foot [RdR 228 22 b ao cp l a] [] w:=St.enter1 hR (fun d hd=>by cases hd) (fun d hd=>by cases hd)
 refine SR<|AU Z<|AI Z<|NSR<|MP Z<|Q (zbj (v1:=Pp _ _) (v2:=.int .i64 _) (v3:=.int .i64 _) zqB Z Z Z Z ((zn3 _ _ _ l a _ (V.hL _ Q0) O hlt).mono fun v w hp=>?_))
 obtain ⟨rfl,hp⟩:=hp
 replace V:St _ _ (_ :: _) _ _:=V.call1 hp
 refine Q<|zad (v:=.tuple #[.slice _ _ _,str _,.int .i64 _]) Z<|Q<|Ex (.slice _ _ _) Z Z<|Q<|Ex (str _) Z Z<|Q<|Ex (.int .i64 _) Z Z<|AL Z<|AS Z<|AI Z<|G<|SQ<|SR<|MI Z<|Q<|zaF Z Z<|G<|zab Z (fun g1=>?_) (fun g1=>?_)
 ·refine SR <| MI Z <| AU Z <| AI Z <| G <| zaq func153 Z (TP (v := .int .u32 _) Z) (TP (v := .int .i64 _) Z) ?_
  replace V:=V.pick (.k1 .nil)
  exact ⟨Z,V⟩
 exfalso
 exact g1 De
end Go.SK
namespace Go.SK
open Go Go.Proofs Go.Proofs.Tryz
theorem zxt:zaG prog 223:=⟨f223,_,func223,Kr,rfl⟩
open Go.RowKit
theorem zlm {l:List Int} {xs:List Value} {m:Nat} {s:List UInt8} {n e:Int} (ao:Option Addr) (cp:Nat) (w:World) (hm:m = l.length) (hx:xs = l.flatMap zci) (ht:zdH l = (s,n,e)) (hA:(Res.rs ao m 1 xs).holds w) (hl:l.length ≤ 35184372088832):Ret prog 223 #[.slice ao m cp] w (fun v w'=>v = .tuple #[str s,.int .i64 n,.int .i64 e] ∧ St w NoM [] [] w'):=by
 subst hm; subst hx; exact (zuF l ao cp w hA hl).mono fun v w' h=>⟨h.1.trans (by rw [ht]),h.2⟩
theorem zj3 (b:Nat) (ao:Option Addr) (cp:Nat) (l:List Int) (a:Nat) (s:List UInt8) (n:Nat) (w:World) (hR:(RdR 228 22 b ao cp l a).holds w) (hl:l.length ≤ 35184372088832) (ht:zdH (l.drop a) = (s,(n:Int),0)) (hn:a + n ≤ l.length):Ret prog 200 #[.pointer (some ⟨b,0,none⟩),.int .i64 1,.int .i64 0] w (fun v w'=>∃ ro rc,v = .tuple #[.slice ro n rc,str s,.int .i64 0] ∧ St w (RdR 228 22 b ao cp l a).foot [RdR 228 22 b ao cp l (a + n),Res.sl ro n rc 22 1 (((l.drop a).take n).flatMap zci)] [] w'):=by
 refine zav (args:=[.pointer (some ⟨b,0,none⟩),.int .i64 1,.int .i64 0]) func200 Z Z Z ?_
 have V:St w (RdR 228 22 b ao cp l a).foot [RdR 228 22 b ao cp l a] [] w:=St.enter1 hR (fun d hd=>by cases hd) (fun d hd=>by cases hd)
 replace V:St _ _ [_,_] _ _:=V.unpack
 have hcap:l.length ≤ cp:=Res.sl_cap (V.hL _ Q1)
 have hsepR:=hR.2
 have hdl:(l.drop a).length = l.length - a:=List.length_drop
 refine SR<|AL Z<|AS Z<|AI Z<|G<|SQ<|SR<|MP Z<|Q<|ze5 zko Z Z<|G<|zal (Vb (Z:false = _))<|zag<|SQ ?_
 refine RG<|AS Z<|AI Z<|G<|SQ<|SR<|MI Z<|G<|zak<|SR<|Q<|zam Z Z<|AB Z<|G ?_
 refine zab Z (fun g1=>?_) (fun g1=>?_)
 ·exfalso
  cases g1
 refine SR<|Q<|zam Z Z<|AB Z<|G<|zab Z (fun g2=>?_) (fun g2=>?_)
 ·refine zaC [] V (bs := [0, 1, 3, 7, 0, 16, 48, 112, 255, 511, 1023, 2047, 2047, 2047, 4095, 24575, 65535]) (ds := [some 20, some 21, some 22, some 23, some 24, some 25, some 26, some 27, some 28, some 29, some 19, some 30, some 31, some 32, some 9, some 2, some 10]) ⟨Kr, Kr, Kr⟩ (fun tab3 => ?_)
  refine DO tab3 1 (fun _ _ _ hc=>zad (v:=Pp _ _) (hc.old Z Z Z) hc.z)<|DO tab3 2 (fun _ _ _ hc=>zan (hc.d 0 Z Z Z Z) hc.z)<|DO tab3 3 (fun _ _ _ hc=>zaa zhx (hc.d 1 Z Z Z Z) hc.z)<|DO tab3 4 (fun _ _ _ hc=>zae (v:=.slice _ _ _) zcn Z (hc.d 2 Z Z Z Z) (hc.st.cellL (Ar Q0) Z) hc.z)<|DO tab3 5 (fun _ _ _ hc=>zad (v:=Pp _ _) (hc.old Z Z Z) hc.z)<|DO tab3 6 (fun _ _ _ hc=>zan (hc.d 4 Z Z Z Z) hc.z)<|DO tab3 7 (fun _ _ _ hc=>zaa zdg (hc.d 5 Z Z Z Z) hc.z)<|DO tab3 8 (fun _ _ _ hc=>zae (v:=.int .i64 _) ty3 Z (hc.d 6 Z Z Z Z) (hc.st.cellL (Ar Q0) Z) hc.z)<|DO tab3 9 (fun _ _ _ hc=>ziu (lo:=a) (n:=l.length) (cap:=cp) zcn za9 (hc.d 3 Z Z Z Z) (hc.d 7 Z Z Z Z) Z O hc.z)<|DO tab3 10 (fun _ _ _ hc=>zao (v1:=.slice _ _ _) zxt Z (hc.d 8 Z Z Z Z) ((zlm (l:=l.drop a) _ _ _ hdl.symm Z ht (zth (Res.rs_of_sl (hc.st.hL _ (Ar Q1))) O hcap) O).mono fun v w hp=>⟨[],⟨hp.1,Z⟩,hc.st.keepc hp.2⟩))<|DO tab3 11 (fun _ _ _ hc=>zad (v:=.tuple #[str _,.int .i64 _,.int .i64 _]) (hc.d 9 Z Z Z Z) hc.z)<|DO tab3 12 (fun _ _ _ hc=>zbM (v:=str _) (hc.d 10 Z Z Z Z) Z hc.z)<|DO tab3 13 (fun _ _ _ hc=>zbM (v:=.int .i64 _) (hc.d 10 Z Z Z Z) Z hc.z)<|DO tab3 14 (fun _ _ _ hc=>zbM (v:=.int .i64 _) (hc.d 10 Z Z Z Z) Z hc.z)<|DO tab3 15 (fun _ _ _ hc=>zap (v:=str _) (hc.d 11 Z Z Z Z) hc.z) ?_
  refine DO tab3 16 (fun _ _ _ hc=>zap (v:=.int .i64 _) (hc.d 12 Z Z Z Z) hc.z)<|RunD.fin zaw tab3 V Z (fun f4 w R7 hs5 hd6 hr8 V=>?_)
  obtain ⟨h20_,r0⟩:=hd6 0 20 rfl rfl
  obtain ⟨h21_,r1⟩:=hd6 1 21 rfl rfl
  obtain ⟨h22_,r2⟩:=hd6 2 22 rfl rfl
  obtain ⟨h23_,r3⟩:=hd6 3 23 rfl rfl
  obtain ⟨h24_,r4⟩:=hd6 4 24 rfl rfl
  obtain ⟨h25_,r5⟩:=hd6 5 25 rfl rfl
  obtain ⟨h26_,r6⟩:=hd6 6 26 rfl rfl
  obtain ⟨h27_,r7⟩:=hd6 7 27 rfl rfl
  obtain ⟨h28_,r8⟩:=hd6 8 28 rfl rfl
  obtain ⟨h29_,r9⟩:=hd6 9 29 rfl rfl
  obtain ⟨h19_,r10⟩:=hd6 10 19 rfl rfl
  obtain ⟨h30_,r11⟩:=hd6 11 30 rfl rfl
  obtain ⟨h31_,r12⟩:=hd6 12 31 rfl rfl
  obtain ⟨h32_,r13⟩:=hd6 13 32 rfl rfl
  obtain ⟨h9_,r14⟩:=hd6 14 9 rfl rfl
  obtain ⟨h2_,r15⟩:=hd6 15 2 rfl rfl
  simp only [rg16,Fc,Fn,Mc,Mn,r0,r1,r2,r3,r4,r5,r6,r7,r8,r9,r10,r11,r12,r13,r14,r15,Na,An,Ca] at V
  refine zaz (sl:=[(0,Pp _ _),(2,.int .i64 _),(9,str _),(32,.int .i64 _)]) ⟨(hs5 0 Z).trans Z,h2_,h9_,h32_,trivial⟩ ?_
  clear hs5 hd6 hr8 tab3
  refine AI Z<|G<|zah<|zaj [(0,Pp _ _),(2,.int .i64 _),(9,str _),(10,.int .i64 _)] E4 fun f=>SQ<|SR<|MI Z<|Q<|zam Z Z<|MB Z<|zau (d:=39) Z (fun g9=>?_) (fun g9=>?_)
  ·refine TK (t := 39) rfl (Vb (Dt g9)) <| zad (v := .int .i64 _) rfl <| TK (t := 39) rfl (Vb (Dt g9)) <| zad (v := Pp _ _) rfl <| TK (t := 39) rfl (Vb (Dt g9)) (zao (v1 := Pp _ _) znL rfl rfl ((zf2 b _ _ l a _ ⟨(fun r hr => by cases hr with | head => exact (V.hL _ Q0) | tail _ hr => cases hr with | head => exact (V.hL _ Q1) | tail _ h => cases h), hsepR⟩ O O).mono fun v w hp => ?_))
   obtain ⟨rfl,hp⟩:=hp
   replace V:=V.keepc hp
   refine TK (t:=39) Z (Vb (Dt g9))<|zbI Z Z<|Q<|zaB (u:=.bool _) (Vb (Dt g9)) Z<|G<|zab Z (fun g10=>?_) (fun g10=>?_)
   ·exfalso
    omega
   refine zag<|SQ<|SR<|MI Z<|Q<|zaF Z Z<|G<|zab Z (fun g11=>?_) (fun g11=>?_)
   ·exfalso
    exact g11 Z
   refine zag<|SQ<|zaC [] V (bs:=[0,1,3,7,0,16,48,112,0,256,768,1792,0,7936,16383,32767,65535]) (ds:=[some 48,some 49,some 50,some 51,some 52,some 53,some 54,some 55,some 56,some 57,some 58,some 59,some 60,some 61,some 62,some 63,some 11]) ⟨Kr,Kr,Kr⟩ (fun tab12=>?_)
   refine DO tab12 1 (fun _ _ _ hc=>zad (v:=Pp _ _) (hc.old Z Z Z) hc.z)<|DO tab12 2 (fun _ _ _ hc=>zan (hc.d 0 Z Z Z Z) hc.z)<|DO tab12 3 (fun _ _ _ hc=>zaa zhx (hc.d 1 Z Z Z Z) hc.z)<|DO tab12 4 (fun _ _ _ hc=>zae (v:=.slice _ _ _) zcn Z (hc.d 2 Z Z Z Z) (hc.st.cellL (Ar Q0) Z) hc.z)<|DO tab12 5 (fun _ _ _ hc=>zad (v:=Pp _ _) (hc.old Z Z Z) hc.z)<|DO tab12 6 (fun _ _ _ hc=>zan (hc.d 4 Z Z Z Z) hc.z)<|DO tab12 7 (fun _ _ _ hc=>zaa zdg (hc.d 5 Z Z Z Z) hc.z)<|DO tab12 8 (fun _ _ _ hc=>zae (v:=.int .i64 _) ty3 Z (hc.d 6 Z Z Z Z) (hc.st.cellL (Ar Q0) Z) hc.z)<|DO tab12 9 (fun _ _ _ hc=>zad (v:=Pp _ _) (hc.old Z Z Z) hc.z)<|DO tab12 10 (fun _ _ _ hc=>zan (hc.d 8 Z Z Z Z) hc.z)<|DO tab12 11 (fun _ _ _ hc=>zaa zdg (hc.d 9 Z Z Z Z) hc.z)<|DO tab12 12 (fun _ _ _ hc=>zae (v:=.int .i64 _) ty3 Z (hc.d 10 Z Z Z Z) (hc.st.cellL (Ar Q0) Z) hc.z)<|DO tab12 13 (fun _ _ _ hc=>zad (v:=.int .i64 _) (hc.old Z Z Z) hc.z)<|DO tab12 14 (fun _ _ _ hc=>zaA (hc.d 11 Z Z Z Z) (hc.d 12 Z Z Z Z) Z zbt hc.z)<|RunD.fin zaw tab12 V Z (fun f13 w R16 hs14 hd15 hr17 V=>?_)
   obtain ⟨h48_,r0⟩:=hd15 0 48 rfl rfl
   obtain ⟨h49_,r1⟩:=hd15 1 49 rfl rfl
   obtain ⟨h50_,r2⟩:=hd15 2 50 rfl rfl
   obtain ⟨h51_,r3⟩:=hd15 3 51 rfl rfl
   obtain ⟨h52_,r4⟩:=hd15 4 52 rfl rfl
   obtain ⟨h53_,r5⟩:=hd15 5 53 rfl rfl
   obtain ⟨h54_,r6⟩:=hd15 6 54 rfl rfl
   obtain ⟨h55_,r7⟩:=hd15 7 55 rfl rfl
   obtain ⟨h56_,r8⟩:=hd15 8 56 rfl rfl
   obtain ⟨h57_,r9⟩:=hd15 9 57 rfl rfl
   obtain ⟨h58_,r10⟩:=hd15 10 58 rfl rfl
   obtain ⟨h59_,r11⟩:=hd15 11 59 rfl rfl
   obtain ⟨h60_,r12⟩:=hd15 12 60 rfl rfl
   obtain ⟨h61_,r13⟩:=hd15 13 61 rfl rfl
   simp only [zyR,Fc,Fn,Mc,Mn,r0,r1,r2,r3,r4,r5,r6,r7,r8,r9,r10,r11,r12,r13,Na,An,Ca] at V
   refine zaz (sl:=[(0,Pp _ _),(2,.int .i64 _),(9,str _),(51,.slice _ _ _),(55,.int .i64 _),(61,.int .i64 _)]) ⟨(hs14 0 Z).trans Z,(hs14 2 Z).trans Z,(hs14 9 Z).trans Z,h51_,h55_,h61_,trivial⟩ ?_
   clear hs14 hd15 hr17 tab12
   refine Q (ziv (lo:=a) (hi:=a + n) zcn za9 Z Z Z Z O O O ?_)
   replace V:=V.pushNil 22 1
   refine Q (zc3 V zcn za9 Z Z .u0 Z Z (ztg (Res.rs_of_sl (V.hL _ Q2)) hn hcap) (zfX (fun _=>rfl) _) Z O fun w aoN cpN V=>?_)
   rw [show 0 + (a + n - a) = n by omega] at V ⊢
   refine AL Z<|G<|zaj [(0,Pp _ _),(2,.int .i64 _),(9,str _),(11,.slice _ _ _)] E4 fun f=>SR<|MP Z<|Q<|zan Z<|Q<|zaa zdg Z<|Q<|zae (v:=.int .i64 _) ty3 Z Z (V.cellL Q1 Z)<|MI Z<|Q<|zaA Z Z Z zbt<|Q<|zan Z<|Q<|zaa zdg Z<|Q (SO (v:=.int .i64 _) V ty3 Z Z .u1 fun w V=>?_)
   refine NSR<|ML Z<|MS Z<|AL Z<|AS Z<|AI Z<|G<|zbe func200 Z (TP (v:=.slice _ _ _) Z) (TP (v:=str _) Z) (TP (v:=.int .i64 _) Z) ?_
   replace V:=V.pick (.c .u1 (.c .u1 (.k1 .nil)))
   exact ⟨_,_,Z,(St.pack (L1:=[_,_]) (L2:=[_]) V)⟩
  exfalso
  exact g9 Z
 exfalso
 exact g2 Z
theorem ziC (b:Nat) (ao:Option Addr) (cp:Nat) (l:List Int) (a:Nat) (e:Int) (w:World) (hR:(RdR 228 22 b ao cp l a).holds w) (hl:l.length ≤ 35184372088832) (ht:zdH (l.drop a) = ([],0,e)) (he:e ≠ 0) (hn:a ≤ l.length):Ret prog 200 #[.pointer (some ⟨b,0,none⟩),.int .i64 1,.int .i64 0] w (fun v w'=>v = .tuple #[.slice none 0 0,str [],.int .i64 e] ∧ St w (RdR 228 22 b ao cp l a).foot [RdR 228 22 b ao cp l a] [] w'):=by
 refine zav (args:=[.pointer (some ⟨b,0,none⟩),.int .i64 1,.int .i64 0]) func200 Z Z Z ?_
 have V:St w (RdR 228 22 b ao cp l a).foot [RdR 228 22 b ao cp l a] [] w:=St.enter1 hR (fun d hd=>by cases hd) (fun d hd=>by cases hd)
 replace V:St _ _ [_,_] _ _:=V.unpack
 have hcap:l.length ≤ cp:=Res.sl_cap (V.hL _ Q1)
 have hsepR:=hR.2
 have hdl:(l.drop a).length = l.length - a:=List.length_drop
 refine SR<|AL Z<|AS Z<|AI Z<|G<|SQ<|SR<|MP Z<|Q<|ze5 zko Z Z<|G<|zal (Vb (Z:false = _))<|zag<|SQ ?_
 refine RG<|AS Z<|AI Z<|G<|SQ<|SR<|MI Z<|G<|zak<|SR<|Q<|zam Z Z<|AB Z<|G ?_
 refine zab Z (fun g1=>?_) (fun g1=>?_)
 ·exfalso
  cases g1
 refine SR<|Q<|zam Z Z<|AB Z<|G<|zab Z (fun g2=>?_) (fun g2=>?_)
 ·refine zaC [] V (bs := [0, 1, 3, 7, 0, 16, 48, 112, 255, 511, 1023, 2047, 2047, 2047, 4095, 24575, 65535]) (ds := [some 20, some 21, some 22, some 23, some 24, some 25, some 26, some 27, some 28, some 29, some 19, some 30, some 31, some 32, some 9, some 2, some 10]) ⟨Kr, Kr, Kr⟩ (fun tab3 => ?_)
  refine DO tab3 1 (fun _ _ _ hc=>zad (v:=Pp _ _) (hc.old Z Z Z) hc.z)<|DO tab3 2 (fun _ _ _ hc=>zan (hc.d 0 Z Z Z Z) hc.z)<|DO tab3 3 (fun _ _ _ hc=>zaa zhx (hc.d 1 Z Z Z Z) hc.z)<|DO tab3 4 (fun _ _ _ hc=>zae (v:=.slice _ _ _) zcn Z (hc.d 2 Z Z Z Z) (hc.st.cellL (Ar Q0) Z) hc.z)<|DO tab3 5 (fun _ _ _ hc=>zad (v:=Pp _ _) (hc.old Z Z Z) hc.z)<|DO tab3 6 (fun _ _ _ hc=>zan (hc.d 4 Z Z Z Z) hc.z)<|DO tab3 7 (fun _ _ _ hc=>zaa zdg (hc.d 5 Z Z Z Z) hc.z)<|DO tab3 8 (fun _ _ _ hc=>zae (v:=.int .i64 _) ty3 Z (hc.d 6 Z Z Z Z) (hc.st.cellL (Ar Q0) Z) hc.z)<|DO tab3 9 (fun _ _ _ hc=>ziu (lo:=a) (n:=l.length) (cap:=cp) zcn za9 (hc.d 3 Z Z Z Z) (hc.d 7 Z Z Z Z) Z O hc.z)<|DO tab3 10 (fun _ _ _ hc=>zao (v1:=.slice _ _ _) zxt Z (hc.d 8 Z Z Z Z) ((zlm (l:=l.drop a) _ _ _ hdl.symm Z ht (zth (Res.rs_of_sl (hc.st.hL _ (Ar Q1))) O hcap) O).mono fun v w hp=>⟨[],⟨hp.1,Z⟩,hc.st.keepc hp.2⟩))<|DO tab3 11 (fun _ _ _ hc=>zad (v:=.tuple #[str _,.int .i64 _,.int .i64 _]) (hc.d 9 Z Z Z Z) hc.z)<|DO tab3 12 (fun _ _ _ hc=>zbM (v:=str _) (hc.d 10 Z Z Z Z) Z hc.z)<|DO tab3 13 (fun _ _ _ hc=>zbM (v:=.int .i64 _) (hc.d 10 Z Z Z Z) Z hc.z)<|DO tab3 14 (fun _ _ _ hc=>zbM (v:=.int .i64 _) (hc.d 10 Z Z Z Z) Z hc.z)<|DO tab3 15 (fun _ _ _ hc=>zap (v:=str _) (hc.d 11 Z Z Z Z) hc.z) ?_
  refine DO tab3 16 (fun _ _ _ hc=>zap (v:=.int .i64 _) (hc.d 12 Z Z Z Z) hc.z)<|RunD.fin zaw tab3 V Z (fun f4 w R7 hs5 hd6 hr8 V=>?_)
  obtain ⟨h20_,r0⟩:=hd6 0 20 rfl rfl
  obtain ⟨h21_,r1⟩:=hd6 1 21 rfl rfl
  obtain ⟨h22_,r2⟩:=hd6 2 22 rfl rfl
  obtain ⟨h23_,r3⟩:=hd6 3 23 rfl rfl
  obtain ⟨h24_,r4⟩:=hd6 4 24 rfl rfl
  obtain ⟨h25_,r5⟩:=hd6 5 25 rfl rfl
  obtain ⟨h26_,r6⟩:=hd6 6 26 rfl rfl
  obtain ⟨h27_,r7⟩:=hd6 7 27 rfl rfl
  obtain ⟨h28_,r8⟩:=hd6 8 28 rfl rfl
  obtain ⟨h29_,r9⟩:=hd6 9 29 rfl rfl
  obtain ⟨h19_,r10⟩:=hd6 10 19 rfl rfl
  obtain ⟨h30_,r11⟩:=hd6 11 30 rfl rfl
  obtain ⟨h31_,r12⟩:=hd6 12 31 rfl rfl
  obtain ⟨h32_,r13⟩:=hd6 13 32 rfl rfl
  obtain ⟨h9_,r14⟩:=hd6 14 9 rfl rfl
  obtain ⟨h2_,r15⟩:=hd6 15 2 rfl rfl
  simp only [rg16,Fc,Fn,Mc,Mn,r0,r1,r2,r3,r4,r5,r6,r7,r8,r9,r10,r11,r12,r13,r14,r15,Na,An,Ca] at V
  refine zaz (sl:=[(0,Pp _ _),(2,.int .i64 _),(9,str _),(32,.int .i64 _)]) ⟨(hs5 0 Z).trans Z,h2_,h9_,h32_,trivial⟩ ?_
  clear hs5 hd6 hr8 tab3
  refine AI Z<|G<|zah<|zaj [(0,Pp _ _),(2,.int .i64 _),(9,str _),(10,.int .i64 _)] E4 fun f=>SQ<|SR<|MI Z<|Q<|zam Z Z<|MB Z<|zau (d:=39) Z (fun g9=>?_) (fun g9=>?_)
  ·exfalso
   exact he g9
  refine OM (t:=39) Z (Vb (Df g9)) Z<|OM (t:=39) Z (Vb (Df g9)) Z<|OM (t:=39) Z (Vb (Df g9)) Z<|OM (t:=39) Z (Vb (Df g9)) Z<|Q<|zax (u:=.bool _) (Vb (Df g9)) Z<|G<|zal (Vb (Z:false = _))<|zag<|SQ<|SR<|MI Z<|Q<|zaF Z Z<|G<|zab Z (fun g10=>?_) (fun g10=>?_)
  ·refine SR <| MI Z <| AL Z <| AS Z <| AI Z <| G <| zbe func200 Z (TP (v := .slice _ _ _) Z) (TP (v := str _) Z) (TP (v := .int .i64 _) Z) ?_
   replace V:=V.pick (.k2 .nil)
   exact ⟨Z,(St.pack (L1:=[_,_]) (L2:=[]) V)⟩
  exfalso
  exact g10 he
 exfalso
 exact g2 Z
theorem zn5 (b:Nat) (ao:Option Addr) (cp:Nat) (l:List Int) (a:Nat) (s:List UInt8) (n:Nat) (w:World) (hR:(RdR 228 22 b ao cp l a).holds w) (hl:l.length ≤ 35184372088832) (ht:zdH (l.drop a) = (s,(n:Int),0)) (hn:a + n ≤ l.length):Ret prog 157 #[.pointer (some ⟨b,0,none⟩)] w (fun v w'=>v = .tuple #[str s,.int .i64 0] ∧ St w (RdR 228 22 b ao cp l a).foot [RdR 228 22 b ao cp l (a + n)] [] w'):=by
 refine zav (args:=[.pointer (some ⟨b,0,none⟩)]) func157 Z Z Z ?_
 have V:St w (RdR 228 22 b ao cp l a).foot [RdR 228 22 b ao cp l a] [] w:=St.enter1 hR (fun d hd=>by cases hd) (fun d hd=>by cases hd)
 refine SR<|AS Z<|AI Z<|NSR<|MP Z<|Q (zbj (v1:=Pp _ _) (v2:=.int .i64 _) (v3:=.int .i64 _) zqB Z Z Z Z ((zj3 _ _ _ l a s n _ (V.hL _ Q0) O ht hn).mono fun v w hp=>?_))
 obtain ⟨roT,rcT,rfl,hp⟩:=hp
 replace V:St _ _ (_ :: _ :: _) _ _:=V.call1 hp
 refine Q<|zad (v:=.tuple #[.slice _ _ _,str _,.int .i64 _]) Z<|Q<|Ex (.slice _ _ _) Z Z<|Q<|Ex (str _) Z Z<|Q<|Ex (.int .i64 _) Z Z<|AL Z<|AS Z<|AI Z<|NSR<|MS Z<|MI Z<|AS Z<|AI Z<|G ?_
 refine zaq func157 Z (TP (v:=str _) Z) (TP (v:=.int .i64 _) Z) ?_
 replace V:=V.pick (.k1 .nil)
 exact ⟨Z,V⟩
theorem zmp (b:Nat) (ao:Option Addr) (cp:Nat) (l:List Int) (a:Nat) (e:Int) (w:World) (hR:(RdR 228 22 b ao cp l a).holds w) (hl:l.length ≤ 35184372088832) (ht:zdH (l.drop a) = ([],0,e)) (he:e ≠ 0) (hn:a ≤ l.length):Ret prog 157 #[.pointer (some ⟨b,0,none⟩)] w (fun v w'=>v = .tuple #[str [],.int .i64 e] ∧ St w (RdR 228 22 b ao cp l a).foot [RdR 228 22 b ao cp l a] [] w'):=by
 refine zav (args:=[.pointer (some ⟨b,0,none⟩)]) func157 Z Z Z ?_
 have V:St w (RdR 228 22 b ao cp l a).foot [RdR 228 22 b ao cp l a] [] w:=St.enter1 hR (fun d hd=>by cases hd) (fun d hd=>by cases hd)
 refine SR<|AS Z<|AI Z<|NSR<|MP Z<|Q (zbj (v1:=Pp _ _) (v2:=.int .i64 _) (v3:=.int .i64 _) zqB Z Z Z Z ((ziC _ _ _ l a e _ (V.hL _ Q0) O ht he hn).mono fun v w hp=>?_))
 obtain ⟨rfl,hp⟩:=hp
 replace V:St _ _ (_ :: _) _ _:=V.call1 hp
 refine Q<|zad (v:=.tuple #[.slice _ _ _,str _,.int .i64 _]) Z<|Q<|Ex (.slice _ _ _) Z Z<|Q<|Ex (str _) Z Z<|Q<|Ex (.int .i64 _) Z Z<|AL Z<|AS Z<|AI Z<|NSR<|MS Z<|MI Z<|AS Z<|AI Z<|G ?_
 refine zaq func157 Z (TP (v:=str _) Z) (TP (v:=.int .i64 _) Z) ?_
 replace V:=V.pick (.k1 .nil)
 exact ⟨Z,V⟩
theorem zpo  (w:World):Ret prog 154 #[.int .u32 119734787] w (fun v w'=>v = .int .u32 50471687 ∧ St w NoM [] [] w'):=by
 refine zav (args:=[.int .u32 119734787]) func154 Z Z Z ?_
 have V:=St.init w
 refine SR<|AU Z<|NSR<|MU Z<|Q<|zeB (n:=24) (c:=50331648) Z Z De De<|MU Z<|Q<|zeB (n:=8) (c:=587334400) Z Z De De<|Q<|zi6 (v:=.int .u32 131072) Z Z Z (by rfl)<|Q<|zkj (m1:=50331648) (m2:=131072) (c:=50462720) Z Z Z Z De De De De<|MU Z<|Q<|zct (c:=467714) Z Z De De De<|Q (zi6 (v:=.int .u32 8960) Z Z Z (by rfl) ?_)
 refine Q<|zkj (m1:=50462720) (m2:=8960) (c:=50471680) Z Z Z Z De De De De<|MU Z<|Q<|zct (c:=7) Z Z De De De<|Q<|zkj (m1:=50471680) (m2:=7) (c:=50471687) Z Z Z Z De De De De<|AU Z<|G<|zai func154 Z (TP (v:=.int .u32 _) Z) ?_
 exact ⟨Z,V.pure⟩
theorem zsr (l:List Int) (ad:Addr) (cp:Nat) (w:World) (hA:(Res.rs (some ad) l.length 1 (l.flatMap zci)).holds w) (hl:l.length ≤ 35184372088832):Ret prog 201 #[.slice (some ad) l.length cp] w (fun v w'=>∃ ro rc,v = .slice ro l.length rc ∧ St w NoM [Res.sl ro l.length rc 22 1 (l.flatMap zci)] [] w'):=by
 refine zav (args:=[.slice (some ad) l.length cp]) func201 Z Z Z ?_
 have V:St w NoM [] [Res.rs (some ad) l.length 1 (l.flatMap zci)] w:=St.init_D hA
 clear hA
 refine SR<|AL Z<|G<|SQ<|SR<|ML Z<|Q<|zvc zcn Z Z<|G<|zal (Vb (Z:false = _))<|zag<|SR<|Q (zos V zcn za9 fun w b5 V=>?_)
 refine ML Z ?_
 replace V:=St.rowSl (n:=0) (es:=1) V rfl (Nat.zero_le _)
 refine Q (zc3 V zcn za9 Z Z .u0 Z Z (V.hD _ Q0) (zfX (fun _=>rfl) _) Z O fun w aoW cpW V=>?_)
 rw [List.nil_append,Nat.zero_add l.length] at V
 rw [Nat.zero_add l.length]
 refine AL Z<|G<|zai func201 Z (TP (v:=.slice _ _ _) Z) ?_
 replace V:=V.pick (.k1 .nil)
 exact ⟨_,_,Z,V.noD⟩
end Go.SK
namespace Go.SK
open Go Go.Proofs Go.Proofs.Tryz
theorem ent201:zaG prog 201:=⟨f201,_,func201,Kr,rfl⟩
open Go.RowKit
theorem zpI {l:List Int} {ao:Option Addr} {xs:List Value} {m:Nat} (cp:Nat) (w:World) (hm:m = l.length) (hx:xs = l.flatMap zci) (hs:∃ a,ao = some a) (hA:(Res.rs ao m 1 xs).holds w) (hl:m ≤ 35184372088832):Ret prog 201 #[.slice ao m cp] w (fun v w'=>∃ ro rc,v = .slice ro m rc ∧ St w NoM [Res.sl ro m rc 22 1 xs] [] w'):=by
 subst hm; subst hx; obtain ⟨a,rfl⟩:=hs; exact zsr l a cp w hA hl
theorem zpG (l:List Int) (hw:Wd l) (ao:Option Addr) (cp:Nat) (a:Nat) (ha:a < l.length) (he:(zjT l a).2 = false) (w:World) (hA:(Res.rs ao l.length 1 (l.flatMap zci)).holds w) (hl:l.length ≤ 35184372088832):Ret prog 156 #[.slice ao l.length cp,.int .i64 (a:Int)] w (fun v w'=>v = .tuple #[.agg #[.int .u16 0,.slice none 0 0],.int .i64 0] ∧ St w NoM [] [] w'):=by
 refine zav (args:=[.slice ao l.length cp,.int .i64 (a:Int)]) func156 Z Z Z ?_
 have V:St w NoM [] [Res.rs ao l.length 1 (l.flatMap zci)] w:=St.init_D hA
 clear hA
 have hx:=hw.get a
 have hx2:=hw.get ((a:Int).toNat)
 have hd:l.getD a 0 / 65536 = 0 ∨ l.getD a 0 / 65536 > (l.length:Int) - a:=by
  unfold zjT at he; split at he
  ·assumption
  ·cases he
 have hidx:l.getD ((a:Int)).toNat 0 = l.getD a 0:=rfl
 refine SR<|Q<|zar V zcK fun w b4 V=>AI Z<|NSR<|ML Z<|MI Z<|Q<|zaR zcn za9 (V.hD _ Q0) Z Z O O<|Q<|zae (v:=.int .u32 _) za9 Z Z (Res.rs2_cell (V.hD _ Q0) (zbD (g:=zci) (d:=0) zcC Z O))<|Q (zct (c:=_ / 65536) Z Z De De Z ?_)
 first | refine Q (zaS za9 ty3 rfl zbt ?_) | refine Q (za0 za9 ty3 rfl ?_)
 refine AI Z<|G<|SQ<|SR<|MI Z<|Q<|zam Z Z<|MB Z<|zau (d:=15) Z (fun g1=>?_) (fun g1=>?_)
 ·refine OM (t := 15) Z (Vb (Dt g1)) Z <| OM (t := 15) Z (Vb (Dt g1)) Z <| OM (t := 15) Z (Vb (Dt g1)) Z <| OM (t := 15) Z (Vb (Dt g1)) Z <| OM (t := 15) Z (Vb (Dt g1)) Z <| OM (t := 15) Z (Vb (Dt g1)) Z <| Q <| zaB (u := .bool _) (Vb (Dt g1)) Z <| G <| zas (Vb (Z : true = _)) <| SR <| Q (zaf zcK zmP .nil ?_)
  refine Q (SO (v:=gHL _ _ _ _) V zcK Z Z .u0 fun w V=>?_)
  refine AI Z<|G<|zaq func156 Z (zat (vs:=lHL _ _ _ _) Z zcK Z Z (zac (n:=2) (V.objL Q0) _ Z)) (TP (v:=.int .i64 _) Z) ?_
  exact ⟨Z,V.pure⟩
 refine TK (t:=15) Z (Vb (Df g1))<|zad (v:=.int .i64 _) Z<|TK (t:=15) Z (Vb (Df g1))<|zad (v:=.slice _ _ _) Z<|TK (t:=15) Z (Vb (Df g1))<|zaH (rest:=[]) zcn Z<|TK (t:=15) Z (Vb (Df g1))<|zad (v:=.int .i64 _) Z<|TK (t:=15) Z (Vb (Df g1))<|zbu Z Z Z zbt<|TK (t:=15) Z (Vb (Df g1))<|zbI Z Z<|Q<|zax (u:=.bool _) (Vb (Df g1)) Z<|G<|zaj [(0,.slice _ _ _),(1,.int .i64 _),(4,Pp _ _),(6,.int .i64 _),(22,.bool _)] E5 fun f=>zab Z (fun g2=>?_) (fun g2=>?_)
 ·refine SR <| Q (zaf zcK zmP .nil ?_)
  refine Q (SO (v:=gHL _ _ _ _) V zcK Z Z .u0 fun w V=>?_)
  refine AI Z<|G<|zaq func156 Z (zat (vs:=lHL _ _ _ _) Z zcK Z Z (zac (n:=2) (V.objL Q0) _ Z)) (TP (v:=.int .i64 _) Z) ?_
  exact ⟨Z,V.pure⟩
 exfalso
 omega
theorem zpF (l:List Int) (hw:Wd l) (ao:Option Addr) (cp:Nat) (a:Nat) (ha:a < l.length) (n:Nat) (hn:l.getD a 0 / 65536 = (n:Int)) (h1:1 ≤ n) (h2:a + n ≤ l.length) (hcp:l.length ≤ cp) (w:World) (hA:(Res.rs ao l.length 1 (l.flatMap zci)).holds w) (hl:l.length ≤ 35184372088832):Ret prog 156 #[.slice ao l.length cp,.int .i64 (a:Int)] w (fun v w'=>∃ ro rc,v = .tuple #[.agg #[.int .u16 (l.getD a 0 % 65536),.slice ro (n - 1) rc],.int .i64 (n:Int)] ∧ St w NoM [Res.sl ro (n - 1) rc 22 1 (((l.drop (a + 1)).take (n - 1)).flatMap zci)] [] w'):=by
 refine zav (args:=[.slice ao l.length cp,.int .i64 (a:Int)]) func156 Z Z Z ?_
 have V:St w NoM [] [Res.rs ao l.length 1 (l.flatMap zci)] w:=St.init_D hA
 clear hA
 have hx:=hw.get a
 have hx2:=hw.get ((a:Int).toNat)
 have hidx:l.getD ((a:Int)).toNat 0 = l.getD a 0:=rfl
 have hcap:True:=trivial
 refine SR<|Q<|zar V zcK fun w b4 V=>AI Z<|NSR<|ML Z<|MI Z<|Q<|zaR zcn za9 (V.hD _ Q0) Z Z O O<|Q<|zae (v:=.int .u32 _) za9 Z Z (Res.rs2_cell (V.hD _ Q0) (zbD (g:=zci) (d:=0) zcC Z O))<|Q (zct (c:=_ / 65536) Z Z De De Z ?_)
 first | refine Q (zaS za9 ty3 rfl zbt ?_) | refine Q (za0 za9 ty3 rfl ?_)
 refine AI Z<|G<|SQ<|SR<|MI Z<|Q<|zam Z Z<|MB Z<|zau (d:=15) Z (fun g1=>?_) (fun g1=>?_)
 ·exfalso
  omega
 refine TK (t:=15) Z (Vb (Df g1))<|zad (v:=.int .i64 _) Z<|TK (t:=15) Z (Vb (Df g1))<|zad (v:=.slice _ _ _) Z<|TK (t:=15) Z (Vb (Df g1))<|zaH (rest:=[]) zcn Z<|TK (t:=15) Z (Vb (Df g1))<|zad (v:=.int .i64 _) Z<|TK (t:=15) Z (Vb (Df g1))<|zbu Z Z Z zbt<|TK (t:=15) Z (Vb (Df g1))<|zbI Z Z<|Q<|zax (u:=.bool _) (Vb (Df g1)) Z<|G<|zaj [(0,.slice _ _ _),(1,.int .i64 _),(4,Pp _ _),(6,.int .i64 _),(22,.bool _)] E5 fun f=>zab Z (fun g2=>?_) (fun g2=>?_)
 ·exfalso
  omega
 refine zag<|SQ ?_
 have hw1:(a:Int) + 1 = ((a + 1:Nat):Int):=by omega
 apply zaC [(18,Res.row b4 62 _,Res.emp)] V (bs:=[0,0,3,7,15,0,0,64,0,0,768,0,0,6144,16352,32736,65535,0,131071,524287]) (ds:=[some 24,some 25,some 26,some 27,some 28,some 29,some 30,some 31,some 32,some 33,some 34,some 35,some 36,some 37,some 38,some 39,some 40,some 41,none,some 5]) (htab:=⟨Kr,Kr,Kr⟩)
 intro tab3
 refine DO tab3 1 (fun _ _ _ hc=>zad (v:=.slice _ _ _) (hc.old Z Z Z) hc.z)<|DO tab3 2 (fun _ _ _ hc=>zad (v:=.int .i64 _) (hc.old Z Z Z) hc.z)<|DO tab3 3 (fun _ _ _ hc=>zaR zcn za9 (hc.st.hD _ Q0) (hc.d 0 Z Z Z Z) (hc.d 1 Z Z Z Z) O O hc.z)<|DO tab3 4 (fun _ _ _ hc=>zae (v:=.int .u32 _) za9 Z (hc.d 2 Z Z Z Z) (Res.rs2_cell (hc.st.hD _ Q0) (zbD (g:=zci) (d:=0) zcC Z O)) hc.z)<|DO tab3 5 (fun _ _ _ hc=>zb0 za9 zlC (hc.d 3 Z Z Z Z) (wrap16 _) hc.z)<|DO tab3 6 (fun _ _ _ hc=>zad (v:=.slice _ _ _) (hc.old Z Z Z) hc.z)<|DO tab3 7 (fun _ _ _ hc=>zad (v:=.int .i64 _) (hc.old Z Z Z) hc.z)<|DO tab3 8 (fun _ _ _ hc=>zaA (hc.d 6 Z Z Z Z) Z Z zbt hc.z)<|DO tab3 9 (fun _ _ _ hc=>zad (v:=.int .i64 _) (hc.old Z Z Z) hc.z)<|DO tab3 10 (fun _ _ _ hc=>zad (v:=.int .i64 _) (hc.old Z Z Z) hc.z)<|DO tab3 11 (fun _ _ _ hc=>zaA (hc.d 8 Z Z Z Z) (hc.d 9 Z Z Z Z) Z zbt hc.z)<|DO tab3 12 (fun _ _ _ hc=>zad (v:=.int .i64 _) (hc.old Z Z Z) hc.z)<|DO tab3 13 (fun _ _ _ hc=>zad (v:=.int .i64 _) (hc.old Z Z Z) hc.z)<|DO tab3 14 (fun _ _ _ hc=>zaA (hc.d 11 Z Z Z Z) (hc.d 12 Z Z Z Z) Z zbt hc.z)<|DO tab3 15 (fun _ _ _ hc=>zom (lo:=a + 1) (hi:=a + n) (m:=a + n) zcn za9 (hc.d 5 Z Z Z Z) (hc.d 7 Z Z Z Z) (hc.d 10 Z Z Z Z) (hc.d 13 Z Z Z Z) O O O O O O hc.z) ?_
 refine RunD.op (fun v rs=>∃ ro rc,v = .slice ro (a + n - (a + 1)) rc ∧ rs = [Res.sl ro (a + n - (a + 1)) rc 22 1 (((l.drop (a + 1)).take (a + n - (a + 1))).flatMap zci)]) tab3 16 (fun _ _ _ hc=>zao (v1:=.slice _ _ _) ent201 rfl (hc.d 14 rfl rfl rfl rfl) ((zpI (l:=(l.drop (a + 1)).take (a + n - (a + 1))) _ _ (by rw [List.length_take,List.length_drop]; omega) rfl (zrk (rs_ao (hc.st.hD _ Q0) (by omega))) (zvR (hc.st.hD _ Q0) (by omega) (by omega) (Nat.le_refl _)) (by omega)).mono fun v w hp=>(by obtain ⟨ro,rc,rfl,hp⟩:=hp; exact ⟨_,⟨ro,rc,rfl,rfl⟩,hc.st.call0 hp⟩)))<|zfp (fun g v rs=>(∀ ro rc,g 39 = .slice ro (a + n - (a + 1)) rc → v = .agg #[.int .u16 (l.getD a 0 % 65536),.slice ro (a + n - (a + 1)) rc]) ∧ rs = []) tab3 17 (fun _ _ _ hc=>by obtain ⟨_,_,q1,_⟩:=hc.dep 15 39 rfl rfl; obtain ⟨ro,rc,h39,_⟩:=q1; exact zaf zcK zmP (.c (v:=.int .u16 _) (hc.d 4 rfl rfl rfl rfl) (h:=(.c (v:=.slice ro _ rc) (evs h39 rfl) (h:=.nil)))) ⟨[],fun g hg=>⟨fun ro2 rc2 e=>(by rw [hg 15 39 rfl rfl,h39] at e; cases e; rfl),rfl⟩,hc.st⟩) ?_
 refine DO tab3 18 (fun _ _ _ hc=>zad (v:=.int .i64 _) (hc.old rfl rfl rfl) hc.z)<|zuD (fun g v rs=>v = undef ∧ ∀ ro rc,g 39 = .slice ro (a + n - (a + 1)) rc → rs = [Res.row b4 62 [.int .u16 (l.getD a 0 % 65536),.slice ro (a + n - (a + 1)) rc]]) tab3 19 Q0 (fun f' L' L'' w' hc hq=>by obtain ⟨_,_,q1,_⟩:=hc.dep 15 39 rfl rfl; obtain ⟨ro,rc,h39,_⟩:=q1; obtain ⟨g16,_,q2,hg16,_⟩:=hc.dep 16 40 rfl rfl; have h40:=q2.1 ro rc ((hg16 15 39 rfl rfl).trans h39); obtain ⟨X,hsel,hX⟩:=hq (Res.row b4 62 [.int .u16 (l.getD a 0 % 65536),.slice ro (a + n - (a + 1)) rc]); exact zbC (v:=gHL _ _ _ _) hc.st zcK (hc.old (v:=Pp _ _) rfl rfl rfl) (evs h40 rfl) rfl rfl rfl hsel (by repeat (first | exact Put.nil | apply Put.put | apply Put.skip)) fun w V=>⟨[_],fun g hg=>⟨rfl,fun ro2 rc2 e=>(by rw [hg 15 39 rfl rfl,h39] at e; cases e; rfl)⟩,hX _ V⟩) ?_
 refine RunD.fin zaw tab3 V Z (fun f4 w R7 hs5 hd6 hr8 V=>?_)
 obtain ⟨h24_,r0⟩:=hd6 0 24 rfl rfl
 obtain ⟨h25_,r1⟩:=hd6 1 25 rfl rfl
 obtain ⟨h26_,r2⟩:=hd6 2 26 rfl rfl
 obtain ⟨h27_,r3⟩:=hd6 3 27 rfl rfl
 obtain ⟨h28_,r4⟩:=hd6 4 28 rfl rfl
 obtain ⟨h29_,r5⟩:=hd6 5 29 rfl rfl
 obtain ⟨h30_,r6⟩:=hd6 6 30 rfl rfl
 obtain ⟨h31_,r7⟩:=hd6 7 31 rfl rfl
 obtain ⟨h32_,r8⟩:=hd6 8 32 rfl rfl
 obtain ⟨h33_,r9⟩:=hd6 9 33 rfl rfl
 obtain ⟨h34_,r10⟩:=hd6 10 34 rfl rfl
 obtain ⟨h35_,r11⟩:=hd6 11 35 rfl rfl
 obtain ⟨h36_,r12⟩:=hd6 12 36 rfl rfl
 obtain ⟨h37_,r13⟩:=hd6 13 37 rfl rfl
 obtain ⟨h38_,r14⟩:=hd6 14 38 rfl rfl
 obtain ⟨ro,rc,h39_,r15⟩:=hd6 15 39 rfl rfl
 obtain ⟨h40_,r16⟩:=hd6 16 40 rfl rfl
 replace h40_:=h40_ ro rc ((DrawTab.mask tab3 _ (j:=16) (l:=15) (t:=39) rfl rfl).trans h39_)
 obtain ⟨h41_,r17⟩:=hd6 17 41 rfl rfl
 obtain ⟨_,_,r18⟩:=hr8 18 rfl
 replace r18:=r18 ro rc ((DrawTab.mask tab3 _ (j:=18) (l:=15) (t:=39) rfl rfl).trans h39_)
 simp only [rg19,Fc,Fn,Mc,Mn,r0,r1,r2,r3,r4,r5,r6,r7,r8,r9,r10,r11,r12,r13,r14,r15,r16,r17,r18,Na,An,Ca] at V
 refine zaz (sl:=[(4,Pp _ _),(41,.int .i64 _)]) ⟨(hs5 4 Z).trans Z,h41_,trivial⟩ ?_
 clear hs5 hd6 hr8 tab3
 refine AI Z<|G<|zaq func156 Z (zat (vs:=lHL _ _ _ _) Z zcK Z Z (zac (n:=2) (V.objL Q1) _ Z)) (TP (v:=.int .i64 _) Z) ?_
 replace V:=V.pick (.k1 .nil)
 rw [show a + n - (a + 1) = n - 1 by omega] at V ⊢
 exact ⟨ro,rc,by rw [hidx,hn],V.noD⟩
end Go.SK
namespace Go.SK
open Go Go.Proofs Go.Proofs.Tryz
theorem zjR:zaG prog 153:=⟨f153,_,func153,Kr,rfl⟩
theorem ent154:zaG prog 154:=⟨f154,_,func154,Kr,rfl⟩
end Go.SK
